/- Several texts laid together (wip/tools/merge2.py): Pf9. -/
import Derived.Test.YtponmfnegdlppaaDoorMC1
import Derived.Test.YtponmfnegdlppaaDoorMC3
import Derived.Test.YtponmfnegdlppaaDoorMC4
section
-- Written by a program of this session (wip/tools/hprint.py, over the kit's printer), not by hand. Lean checks it.
namespace Go.Proofs.YtponmfnegdlppaaDoor.P
open Go.RowKit Go.Proofs.YtponmfnegdlppaaDoorW.PrintWords Go.Proofs.YtponmfnegdlppaaDoorW.PrintLast Go.Proofs.YtponmfnegdlppaaDoorW.PrintMore
attribute [local go_sem] max2_int min2_int max_two min_two max_three min_three max_four min_four
set_option linter.unusedVariables false
set_option linter.unusedSimpArgs false

/-! ### winnowlaw19_LedgerComes: function 9 -/
mutual
def winnowlaw19_LedgerComes.j0 : Nat → List Int → List Int → Int → Int → Int → Bool → Int → List (S38) → List (S38) → Bool → Option (Bool)
 | 0, _, _, _, _, _, _, _, _, _, _ => none
 | k + 1, x3, x4, x11, x12, x13, x54, x473000, x473001, x473002, x473003 => if x54 = true then (some false) else (winnowlaw19_LedgerComes.l0 k x3 x4 x11 x12 x13 0 0 x473000 x473001 x473002 x473003)
def winnowlaw19_LedgerComes.l0 : Nat → List Int → List Int → Int → Int → Int → Int → Int → Int → List (S38) → List (S38) → Bool → Option (Bool)
 | 0, _, _, _, _, _, _, _, _, _, _, _ => none
 | k + 1, x3, x4, x11, x12, x13, x16, x17, x473000, x473001, x473002, x473003 => (ledger_Over.f k x473000 x473001 x473002 x473003).bind fun t474 => (if t474 = true then (winnowlaw19_LedgerComes.l1 k x11 x12 x16 x17 0 x473000 x473001 x473002 x473003) else ((ledger_Ready.f k x473000 x473001 x473002 x473003).bind fun t475 => ((ledger_Begun.f x473000 x473001 x473002 x473003).bind fun bt478 => (if (t475.length : Int) = 0 then (winnowlaw19_LedgerComes.j2 k x3 x4 x11 x12 x13 x16 x17 t475 true x473000 x473001 x473002 x473003) else (winnowlaw19_LedgerComes.j2 k x3 x4 x11 x12 x13 x16 x17 t475 (decide (x17 > (wrap64 ((wrap64 ((wrap64 (x11 + x12)) + bt478.2)) + x16)))) x473000 x473001 x473002 x473003)))))
def winnowlaw19_LedgerComes.l1 : Nat → Int → Int → Int → Int → Int → Int → List (S38) → List (S38) → Bool → Option (Bool)
 | 0, _, _, _, _, _, _, _, _, _ => none
 | k + 1, x11, x12, x16, x17, x30, x473000, x473001, x473002, x473003 => if x30 < x12 then (if 0 ≤ x30 then (if x30 < (x473002.length : Int) then (if ((rd_T38 x473002 x30).f0) = 3 then (winnowlaw19_LedgerComes.l1 k x11 x12 x16 x17 (wrap64 (x30 + 1)) x473000 x473001 x473002 x473003) else (some false)) else (none)) else (none)) else ((ledger_Begun.f x473000 x473001 x473002 x473003).bind fun bt513 => (if x473003 = true then (some false) else (if bt513.1 ≤ (wrap64 ((wrap64 (x11 + x12)) + bt513.2)) then (some (decide (x17 ≤ (wrap64 ((wrap64 ((wrap64 (x11 + x12)) + bt513.2)) + x16))))) else (some false))))
def winnowlaw19_LedgerComes.j2 : Nat → List Int → List Int → Int → Int → Int → Int → Int → List (S29) → Bool → Int → List (S38) → List (S38) → Bool → Option (Bool)
 | 0, _, _, _, _, _, _, _, _, _, _, _, _, _ => none
 | k + 1, x3, x4, x11, x12, x13, x16, x17, x18, x80, x473000, x473001, x473002, x473003 => if x80 = true then (some false) else (if x17 < (x3.length : Int) then (if 0 ≤ x17 then ((winnowlaw19_few.f (rd x3 x17) 0 (wrap64 ((x18.length : Int) - 1))).bind fun t481 => (winnowlaw19_LedgerComes.j3 k x3 x4 x11 x12 x13 x16 x17 x18 t481 x473000 x473001 x473002 x473003)) else (none)) else (winnowlaw19_LedgerComes.j3 k x3 x4 x11 x12 x13 x16 x17 x18 0 x473000 x473001 x473002 x473003))
def winnowlaw19_LedgerComes.j3 : Nat → List Int → List Int → Int → Int → Int → Int → Int → List (S29) → Int → Int → List (S38) → List (S38) → Bool → Option (Bool)
 | 0, _, _, _, _, _, _, _, _, _, _, _, _, _ => none
 | k + 1, x3, x4, x11, x12, x13, x16, x17, x18, x21, x473000, x473001, x473002, x473003 => if x17 < (x4.length : Int) then (if 0 ≤ x17 then ((winnowlaw19_few.f (rd x4 x17) 0 (wrap64 (2 + x11))).bind fun t483 => (winnowlaw19_LedgerComes.j4 k x3 x4 x11 x12 x13 x16 x17 x18 x21 t483 x473000 x473001 x473002 x473003)) else (none)) else (winnowlaw19_LedgerComes.j4 k x3 x4 x11 x12 x13 x16 x17 x18 x21 0 x473000 x473001 x473002 x473003)
def winnowlaw19_LedgerComes.j4 : Nat → List Int → List Int → Int → Int → Int → Int → Int → List (S29) → Int → Int → Int → List (S38) → List (S38) → Bool → Option (Bool)
 | 0, _, _, _, _, _, _, _, _, _, _, _, _, _, _ => none
 | k + 1, x3, x4, x11, x12, x13, x16, x17, x18, x21, x22, x473000, x473001, x473002, x473003 => if 0 ≤ x21 then (if x21 < (x18.length : Int) then ((ledger_Begin.f x473000 x473001 x473002 x473003 ((rd_T29 x18 x21).f0) ((rd_T29 x18 x21).f1)).bind fun bt486 => (if bt486.2.2.2.2.2.2 = 0 then ((winnowlaw19_sized.f bt486.1 bt486.2.1 bt486.2.2.1 bt486.2.2.2.1 x11 x12).bind fun t498 => (if t498 = true then (if ((rd_T29 x18 x21).f1) < 0 then (winnowlaw19_LedgerComes.j5 k x3 x4 x11 x12 x13 x16 x17 x22 true ((rd_T29 x18 x21).f0) ((rd_T29 x18 x21).f1) bt486.1 bt486.2.1 bt486.2.2.1 bt486.2.2.2.1) else (if ((rd_T29 x18 x21).f0) = 0 then (if ((rd_T29 x18 x21).f1) ≥ x11 then (winnowlaw19_LedgerComes.j5 k x3 x4 x11 x12 x13 x16 x17 x22 true ((rd_T29 x18 x21).f0) ((rd_T29 x18 x21).f1) bt486.1 bt486.2.1 bt486.2.2.1 bt486.2.2.2.1) else (winnowlaw19_LedgerComes.j5 k x3 x4 x11 x12 x13 x16 x17 x22 false ((rd_T29 x18 x21).f0) ((rd_T29 x18 x21).f1) bt486.1 bt486.2.1 bt486.2.2.1 bt486.2.2.2.1)) else (winnowlaw19_LedgerComes.j5 k x3 x4 x11 x12 x13 x16 x17 x22 (decide (((rd_T29 x18 x21).f1) ≥ x12)) ((rd_T29 x18 x21).f0) ((rd_T29 x18 x21).f1) bt486.1 bt486.2.1 bt486.2.2.1 bt486.2.2.2.1))) else (winnowlaw19_LedgerComes.j5 k x3 x4 x11 x12 x13 x16 x17 x22 true ((rd_T29 x18 x21).f0) ((rd_T29 x18 x21).f1) bt486.1 bt486.2.1 bt486.2.2.1 bt486.2.2.2.1))) else (winnowlaw19_LedgerComes.j5 k x3 x4 x11 x12 x13 x16 x17 x22 true ((rd_T29 x18 x21).f0) ((rd_T29 x18 x21).f1) bt486.1 bt486.2.1 bt486.2.2.1 bt486.2.2.2.1))) else (none)) else (none)
def winnowlaw19_LedgerComes.j5 : Nat → List Int → List Int → Int → Int → Int → Int → Int → Int → Bool → Int → Int → Int → List (S38) → List (S38) → Bool → Option (Bool)
 | 0, _, _, _, _, _, _, _, _, _, _, _, _, _, _, _ => none
 | k + 1, x3, x4, x11, x12, x13, x16, x17, x22, x151, x486000, x486001, x498000, x498001, x498002, x498003 => if x151 = true then (some false) else ((winnowlaw19_ended.f k x498000 x498001 x498002 x498003 x486000 x486001 x22 x13).bind fun bt499 => (if bt499.2.2.2.2 = 0 then ((winnowlaw19_sized.f bt499.1 bt499.2.1 bt499.2.2.1 bt499.2.2.2.1 x11 x12).bind fun t509 => (winnowlaw19_LedgerComes.j6 k x3 x4 x11 x12 x13 x16 x17 (!t509) x498000 x498001 x498002 x498003 bt499.1 bt499.2.1 bt499.2.2.1 bt499.2.2.2.1)) else (winnowlaw19_LedgerComes.j6 k x3 x4 x11 x12 x13 x16 x17 true x498000 x498001 x498002 x498003 bt499.1 bt499.2.1 bt499.2.2.1 bt499.2.2.2.1)))
def winnowlaw19_LedgerComes.j6 : Nat → List Int → List Int → Int → Int → Int → Int → Int → Bool → Int → List (S38) → List (S38) → Bool → Int → List (S38) → List (S38) → Bool → Option (Bool)
 | 0, _, _, _, _, _, _, _, _, _, _, _, _, _, _, _, _ => none
 | k + 1, x3, x4, x11, x12, x13, x16, x17, x168, x498000, x498001, x498002, x498003, x509000, x509001, x509002, x509003 => if x168 = true then (some false) else ((winnowlaw19_held.f k x509000 x509001 x509002 x509003).bind fun t510 => ((winnowlaw19_held.f k x498000 x498001 x498002 x498003).bind fun t511 => (if t510 > t511 then (winnowlaw19_LedgerComes.l0 k x3 x4 x11 x12 x13 (wrap64 (x16 + 1)) (wrap64 (x17 + 1)) x509000 x509001 x509002 x509003) else (winnowlaw19_LedgerComes.l0 k x3 x4 x11 x12 x13 x16 (wrap64 (x17 + 1)) x509000 x509001 x509002 x509003))))
end
def winnowlaw19_LedgerComes.f (k : Nat) (a0 : Int) (a1 : Int) (a2 : Int) (l3 : List Int) (l4 : List Int) : Option (Bool) := (winnowlaw19_few.f a0 0 6).bind fun t460 => ((winnowlaw19_few.f a1 1 6).bind fun t461 => ((winnowlaw19_few.f a2 1 5).bind fun t462 => ((ledger_New.f t460 t461 t462).bind fun bt463 => (if bt463.2.2.2.2 = 0 then ((winnowlaw19_sized.f bt463.1 bt463.2.1 bt463.2.2.1 bt463.2.2.2.1 t460 t461).bind fun t473 => (winnowlaw19_LedgerComes.j0 k l3 l4 t460 t461 t462 (!t473) bt463.1 bt463.2.1 bt463.2.2.1 bt463.2.2.2.1)) else (winnowlaw19_LedgerComes.j0 k l3 l4 t460 t461 t462 true bt463.1 bt463.2.1 bt463.2.2.1 bt463.2.2.2.1)))))
theorem winnowlaw19_LedgerComes.mono_l : ∀ k, (∀ y0 y1 y2 y3 y4 y5 y6 y7 y8 y9, LeO (winnowlaw19_LedgerComes.j0 k y0 y1 y2 y3 y4 y5 y6 y7 y8 y9) (winnowlaw19_LedgerComes.j0 (k + 1) y0 y1 y2 y3 y4 y5 y6 y7 y8 y9)) ∧ (∀ y0 y1 y2 y3 y4 y5 y6 y7 y8 y9 y10, LeO (winnowlaw19_LedgerComes.l0 k y0 y1 y2 y3 y4 y5 y6 y7 y8 y9 y10) (winnowlaw19_LedgerComes.l0 (k + 1) y0 y1 y2 y3 y4 y5 y6 y7 y8 y9 y10)) ∧ (∀ y0 y1 y2 y3 y4 y5 y6 y7 y8, LeO (winnowlaw19_LedgerComes.l1 k y0 y1 y2 y3 y4 y5 y6 y7 y8) (winnowlaw19_LedgerComes.l1 (k + 1) y0 y1 y2 y3 y4 y5 y6 y7 y8)) ∧ (∀ y0 y1 y2 y3 y4 y5 y6 y7 y8 y9 y10 y11 y12, LeO (winnowlaw19_LedgerComes.j2 k y0 y1 y2 y3 y4 y5 y6 y7 y8 y9 y10 y11 y12) (winnowlaw19_LedgerComes.j2 (k + 1) y0 y1 y2 y3 y4 y5 y6 y7 y8 y9 y10 y11 y12)) ∧ (∀ y0 y1 y2 y3 y4 y5 y6 y7 y8 y9 y10 y11 y12, LeO (winnowlaw19_LedgerComes.j3 k y0 y1 y2 y3 y4 y5 y6 y7 y8 y9 y10 y11 y12) (winnowlaw19_LedgerComes.j3 (k + 1) y0 y1 y2 y3 y4 y5 y6 y7 y8 y9 y10 y11 y12)) ∧ (∀ y0 y1 y2 y3 y4 y5 y6 y7 y8 y9 y10 y11 y12 y13, LeO (winnowlaw19_LedgerComes.j4 k y0 y1 y2 y3 y4 y5 y6 y7 y8 y9 y10 y11 y12 y13) (winnowlaw19_LedgerComes.j4 (k + 1) y0 y1 y2 y3 y4 y5 y6 y7 y8 y9 y10 y11 y12 y13)) ∧ (∀ y0 y1 y2 y3 y4 y5 y6 y7 y8 y9 y10 y11 y12 y13 y14, LeO (winnowlaw19_LedgerComes.j5 k y0 y1 y2 y3 y4 y5 y6 y7 y8 y9 y10 y11 y12 y13 y14) (winnowlaw19_LedgerComes.j5 (k + 1) y0 y1 y2 y3 y4 y5 y6 y7 y8 y9 y10 y11 y12 y13 y14)) ∧ (∀ y0 y1 y2 y3 y4 y5 y6 y7 y8 y9 y10 y11 y12 y13 y14 y15, LeO (winnowlaw19_LedgerComes.j6 k y0 y1 y2 y3 y4 y5 y6 y7 y8 y9 y10 y11 y12 y13 y14 y15) (winnowlaw19_LedgerComes.j6 (k + 1) y0 y1 y2 y3 y4 y5 y6 y7 y8 y9 y10 y11 y12 y13 y14 y15))
 | 0 => ⟨fun _ _ _ _ _ _ _ _ _ _ r h => by simp [winnowlaw19_LedgerComes.j0] at h, fun _ _ _ _ _ _ _ _ _ _ _ r h => by simp [winnowlaw19_LedgerComes.l0] at h, fun _ _ _ _ _ _ _ _ _ r h => by simp [winnowlaw19_LedgerComes.l1] at h, fun _ _ _ _ _ _ _ _ _ _ _ _ _ r h => by simp [winnowlaw19_LedgerComes.j2] at h, fun _ _ _ _ _ _ _ _ _ _ _ _ _ r h => by simp [winnowlaw19_LedgerComes.j3] at h, fun _ _ _ _ _ _ _ _ _ _ _ _ _ _ r h => by simp [winnowlaw19_LedgerComes.j4] at h, fun _ _ _ _ _ _ _ _ _ _ _ _ _ _ _ r h => by simp [winnowlaw19_LedgerComes.j5] at h, fun _ _ _ _ _ _ _ _ _ _ _ _ _ _ _ _ r h => by simp [winnowlaw19_LedgerComes.j6] at h⟩
 | k + 1 => by
  obtain ⟨ih0, ih1, ih2, ih3, ih4, ih5, ih6, ih7⟩ := winnowlaw19_LedgerComes.mono_l k
  refine ⟨?_, ?_, ?_, ?_, ?_, ?_, ?_, ?_⟩
  ·intro y0 y1 y2 y3 y4 y5 y6 y7 y8 y9
   unfold winnowlaw19_LedgerComes.j0
   repeat' first
   | (with_reducible exact ih0 _ _ _ _ _ _ _ _ _ _)
   | (with_reducible exact ih1 _ _ _ _ _ _ _ _ _ _ _)
   | (with_reducible exact ih2 _ _ _ _ _ _ _ _ _)
   | (with_reducible exact ih3 _ _ _ _ _ _ _ _ _ _ _ _ _)
   | (with_reducible exact ih4 _ _ _ _ _ _ _ _ _ _ _ _ _)
   | (with_reducible exact ih5 _ _ _ _ _ _ _ _ _ _ _ _ _ _)
   | (with_reducible exact ih6 _ _ _ _ _ _ _ _ _ _ _ _ _ _ _)
   | (with_reducible exact ih7 _ _ _ _ _ _ _ _ _ _ _ _ _ _ _ _)
   | (with_reducible exact ledger_Over.mono _ _ _ _ _)
   | (with_reducible exact ledger_Ready.mono _ _ _ _ _)
   | (with_reducible exact winnowlaw19_ended.mono _ _ _ _ _ _ _ _ _)
   | (with_reducible exact winnowlaw19_held.mono _ _ _ _ _)
   | (with_reducible exact LeO.refl _)
   | (with_reducible exact LeO.none _)
   | (with_reducible refine LeO.ite ?_ ?_)
   | (with_reducible refine LeO.bind ?_ (fun _ => ?_))
   | exact ih0 _ _ _ _ _ _ _ _ _ _
   | exact ih1 _ _ _ _ _ _ _ _ _ _ _
   | exact ih2 _ _ _ _ _ _ _ _ _
   | exact ih3 _ _ _ _ _ _ _ _ _ _ _ _ _
   | exact ih4 _ _ _ _ _ _ _ _ _ _ _ _ _
   | exact ih5 _ _ _ _ _ _ _ _ _ _ _ _ _ _
   | exact ih6 _ _ _ _ _ _ _ _ _ _ _ _ _ _ _
   | exact ih7 _ _ _ _ _ _ _ _ _ _ _ _ _ _ _ _
   | exact ledger_Over.mono _ _ _ _ _
   | exact ledger_Ready.mono _ _ _ _ _
   | exact winnowlaw19_ended.mono _ _ _ _ _ _ _ _ _
   | exact winnowlaw19_held.mono _ _ _ _ _
   | exact LeO.none _
   | refine LeO.ite ?_ ?_
   | refine LeO.bind ?_ (fun _ => ?_)
  ·intro y0 y1 y2 y3 y4 y5 y6 y7 y8 y9 y10
   unfold winnowlaw19_LedgerComes.l0
   repeat' first
   | (with_reducible exact ih0 _ _ _ _ _ _ _ _ _ _)
   | (with_reducible exact ih1 _ _ _ _ _ _ _ _ _ _ _)
   | (with_reducible exact ih2 _ _ _ _ _ _ _ _ _)
   | (with_reducible exact ih3 _ _ _ _ _ _ _ _ _ _ _ _ _)
   | (with_reducible exact ih4 _ _ _ _ _ _ _ _ _ _ _ _ _)
   | (with_reducible exact ih5 _ _ _ _ _ _ _ _ _ _ _ _ _ _)
   | (with_reducible exact ih6 _ _ _ _ _ _ _ _ _ _ _ _ _ _ _)
   | (with_reducible exact ih7 _ _ _ _ _ _ _ _ _ _ _ _ _ _ _ _)
   | (with_reducible exact ledger_Over.mono _ _ _ _ _)
   | (with_reducible exact ledger_Ready.mono _ _ _ _ _)
   | (with_reducible exact winnowlaw19_ended.mono _ _ _ _ _ _ _ _ _)
   | (with_reducible exact winnowlaw19_held.mono _ _ _ _ _)
   | (with_reducible exact LeO.refl _)
   | (with_reducible exact LeO.none _)
   | (with_reducible refine LeO.ite ?_ ?_)
   | (with_reducible refine LeO.bind ?_ (fun _ => ?_))
   | exact ih0 _ _ _ _ _ _ _ _ _ _
   | exact ih1 _ _ _ _ _ _ _ _ _ _ _
   | exact ih2 _ _ _ _ _ _ _ _ _
   | exact ih3 _ _ _ _ _ _ _ _ _ _ _ _ _
   | exact ih4 _ _ _ _ _ _ _ _ _ _ _ _ _
   | exact ih5 _ _ _ _ _ _ _ _ _ _ _ _ _ _
   | exact ih6 _ _ _ _ _ _ _ _ _ _ _ _ _ _ _
   | exact ih7 _ _ _ _ _ _ _ _ _ _ _ _ _ _ _ _
   | exact ledger_Over.mono _ _ _ _ _
   | exact ledger_Ready.mono _ _ _ _ _
   | exact winnowlaw19_ended.mono _ _ _ _ _ _ _ _ _
   | exact winnowlaw19_held.mono _ _ _ _ _
   | exact LeO.none _
   | refine LeO.ite ?_ ?_
   | refine LeO.bind ?_ (fun _ => ?_)
  ·intro y0 y1 y2 y3 y4 y5 y6 y7 y8
   unfold winnowlaw19_LedgerComes.l1
   repeat' first
   | (with_reducible exact ih0 _ _ _ _ _ _ _ _ _ _)
   | (with_reducible exact ih1 _ _ _ _ _ _ _ _ _ _ _)
   | (with_reducible exact ih2 _ _ _ _ _ _ _ _ _)
   | (with_reducible exact ih3 _ _ _ _ _ _ _ _ _ _ _ _ _)
   | (with_reducible exact ih4 _ _ _ _ _ _ _ _ _ _ _ _ _)
   | (with_reducible exact ih5 _ _ _ _ _ _ _ _ _ _ _ _ _ _)
   | (with_reducible exact ih6 _ _ _ _ _ _ _ _ _ _ _ _ _ _ _)
   | (with_reducible exact ih7 _ _ _ _ _ _ _ _ _ _ _ _ _ _ _ _)
   | (with_reducible exact ledger_Over.mono _ _ _ _ _)
   | (with_reducible exact ledger_Ready.mono _ _ _ _ _)
   | (with_reducible exact winnowlaw19_ended.mono _ _ _ _ _ _ _ _ _)
   | (with_reducible exact winnowlaw19_held.mono _ _ _ _ _)
   | (with_reducible exact LeO.refl _)
   | (with_reducible exact LeO.none _)
   | (with_reducible refine LeO.ite ?_ ?_)
   | (with_reducible refine LeO.bind ?_ (fun _ => ?_))
   | exact ih0 _ _ _ _ _ _ _ _ _ _
   | exact ih1 _ _ _ _ _ _ _ _ _ _ _
   | exact ih2 _ _ _ _ _ _ _ _ _
   | exact ih3 _ _ _ _ _ _ _ _ _ _ _ _ _
   | exact ih4 _ _ _ _ _ _ _ _ _ _ _ _ _
   | exact ih5 _ _ _ _ _ _ _ _ _ _ _ _ _ _
   | exact ih6 _ _ _ _ _ _ _ _ _ _ _ _ _ _ _
   | exact ih7 _ _ _ _ _ _ _ _ _ _ _ _ _ _ _ _
   | exact ledger_Over.mono _ _ _ _ _
   | exact ledger_Ready.mono _ _ _ _ _
   | exact winnowlaw19_ended.mono _ _ _ _ _ _ _ _ _
   | exact winnowlaw19_held.mono _ _ _ _ _
   | exact LeO.none _
   | refine LeO.ite ?_ ?_
   | refine LeO.bind ?_ (fun _ => ?_)
  ·intro y0 y1 y2 y3 y4 y5 y6 y7 y8 y9 y10 y11 y12
   unfold winnowlaw19_LedgerComes.j2
   repeat' first
   | (with_reducible exact ih0 _ _ _ _ _ _ _ _ _ _)
   | (with_reducible exact ih1 _ _ _ _ _ _ _ _ _ _ _)
   | (with_reducible exact ih2 _ _ _ _ _ _ _ _ _)
   | (with_reducible exact ih3 _ _ _ _ _ _ _ _ _ _ _ _ _)
   | (with_reducible exact ih4 _ _ _ _ _ _ _ _ _ _ _ _ _)
   | (with_reducible exact ih5 _ _ _ _ _ _ _ _ _ _ _ _ _ _)
   | (with_reducible exact ih6 _ _ _ _ _ _ _ _ _ _ _ _ _ _ _)
   | (with_reducible exact ih7 _ _ _ _ _ _ _ _ _ _ _ _ _ _ _ _)
   | (with_reducible exact ledger_Over.mono _ _ _ _ _)
   | (with_reducible exact ledger_Ready.mono _ _ _ _ _)
   | (with_reducible exact winnowlaw19_ended.mono _ _ _ _ _ _ _ _ _)
   | (with_reducible exact winnowlaw19_held.mono _ _ _ _ _)
   | (with_reducible exact LeO.refl _)
   | (with_reducible exact LeO.none _)
   | (with_reducible refine LeO.ite ?_ ?_)
   | (with_reducible refine LeO.bind ?_ (fun _ => ?_))
   | exact ih0 _ _ _ _ _ _ _ _ _ _
   | exact ih1 _ _ _ _ _ _ _ _ _ _ _
   | exact ih2 _ _ _ _ _ _ _ _ _
   | exact ih3 _ _ _ _ _ _ _ _ _ _ _ _ _
   | exact ih4 _ _ _ _ _ _ _ _ _ _ _ _ _
   | exact ih5 _ _ _ _ _ _ _ _ _ _ _ _ _ _
   | exact ih6 _ _ _ _ _ _ _ _ _ _ _ _ _ _ _
   | exact ih7 _ _ _ _ _ _ _ _ _ _ _ _ _ _ _ _
   | exact ledger_Over.mono _ _ _ _ _
   | exact ledger_Ready.mono _ _ _ _ _
   | exact winnowlaw19_ended.mono _ _ _ _ _ _ _ _ _
   | exact winnowlaw19_held.mono _ _ _ _ _
   | exact LeO.none _
   | refine LeO.ite ?_ ?_
   | refine LeO.bind ?_ (fun _ => ?_)
  ·intro y0 y1 y2 y3 y4 y5 y6 y7 y8 y9 y10 y11 y12
   unfold winnowlaw19_LedgerComes.j3
   repeat' first
   | (with_reducible exact ih0 _ _ _ _ _ _ _ _ _ _)
   | (with_reducible exact ih1 _ _ _ _ _ _ _ _ _ _ _)
   | (with_reducible exact ih2 _ _ _ _ _ _ _ _ _)
   | (with_reducible exact ih3 _ _ _ _ _ _ _ _ _ _ _ _ _)
   | (with_reducible exact ih4 _ _ _ _ _ _ _ _ _ _ _ _ _)
   | (with_reducible exact ih5 _ _ _ _ _ _ _ _ _ _ _ _ _ _)
   | (with_reducible exact ih6 _ _ _ _ _ _ _ _ _ _ _ _ _ _ _)
   | (with_reducible exact ih7 _ _ _ _ _ _ _ _ _ _ _ _ _ _ _ _)
   | (with_reducible exact ledger_Over.mono _ _ _ _ _)
   | (with_reducible exact ledger_Ready.mono _ _ _ _ _)
   | (with_reducible exact winnowlaw19_ended.mono _ _ _ _ _ _ _ _ _)
   | (with_reducible exact winnowlaw19_held.mono _ _ _ _ _)
   | (with_reducible exact LeO.refl _)
   | (with_reducible exact LeO.none _)
   | (with_reducible refine LeO.ite ?_ ?_)
   | (with_reducible refine LeO.bind ?_ (fun _ => ?_))
   | exact ih0 _ _ _ _ _ _ _ _ _ _
   | exact ih1 _ _ _ _ _ _ _ _ _ _ _
   | exact ih2 _ _ _ _ _ _ _ _ _
   | exact ih3 _ _ _ _ _ _ _ _ _ _ _ _ _
   | exact ih4 _ _ _ _ _ _ _ _ _ _ _ _ _
   | exact ih5 _ _ _ _ _ _ _ _ _ _ _ _ _ _
   | exact ih6 _ _ _ _ _ _ _ _ _ _ _ _ _ _ _
   | exact ih7 _ _ _ _ _ _ _ _ _ _ _ _ _ _ _ _
   | exact ledger_Over.mono _ _ _ _ _
   | exact ledger_Ready.mono _ _ _ _ _
   | exact winnowlaw19_ended.mono _ _ _ _ _ _ _ _ _
   | exact winnowlaw19_held.mono _ _ _ _ _
   | exact LeO.none _
   | refine LeO.ite ?_ ?_
   | refine LeO.bind ?_ (fun _ => ?_)
  ·intro y0 y1 y2 y3 y4 y5 y6 y7 y8 y9 y10 y11 y12 y13
   unfold winnowlaw19_LedgerComes.j4
   repeat' first
   | (with_reducible exact ih0 _ _ _ _ _ _ _ _ _ _)
   | (with_reducible exact ih1 _ _ _ _ _ _ _ _ _ _ _)
   | (with_reducible exact ih2 _ _ _ _ _ _ _ _ _)
   | (with_reducible exact ih3 _ _ _ _ _ _ _ _ _ _ _ _ _)
   | (with_reducible exact ih4 _ _ _ _ _ _ _ _ _ _ _ _ _)
   | (with_reducible exact ih5 _ _ _ _ _ _ _ _ _ _ _ _ _ _)
   | (with_reducible exact ih6 _ _ _ _ _ _ _ _ _ _ _ _ _ _ _)
   | (with_reducible exact ih7 _ _ _ _ _ _ _ _ _ _ _ _ _ _ _ _)
   | (with_reducible exact ledger_Over.mono _ _ _ _ _)
   | (with_reducible exact ledger_Ready.mono _ _ _ _ _)
   | (with_reducible exact winnowlaw19_ended.mono _ _ _ _ _ _ _ _ _)
   | (with_reducible exact winnowlaw19_held.mono _ _ _ _ _)
   | (with_reducible exact LeO.refl _)
   | (with_reducible exact LeO.none _)
   | (with_reducible refine LeO.ite ?_ ?_)
   | (with_reducible refine LeO.bind ?_ (fun _ => ?_))
   | exact ih0 _ _ _ _ _ _ _ _ _ _
   | exact ih1 _ _ _ _ _ _ _ _ _ _ _
   | exact ih2 _ _ _ _ _ _ _ _ _
   | exact ih3 _ _ _ _ _ _ _ _ _ _ _ _ _
   | exact ih4 _ _ _ _ _ _ _ _ _ _ _ _ _
   | exact ih5 _ _ _ _ _ _ _ _ _ _ _ _ _ _
   | exact ih6 _ _ _ _ _ _ _ _ _ _ _ _ _ _ _
   | exact ih7 _ _ _ _ _ _ _ _ _ _ _ _ _ _ _ _
   | exact ledger_Over.mono _ _ _ _ _
   | exact ledger_Ready.mono _ _ _ _ _
   | exact winnowlaw19_ended.mono _ _ _ _ _ _ _ _ _
   | exact winnowlaw19_held.mono _ _ _ _ _
   | exact LeO.none _
   | refine LeO.ite ?_ ?_
   | refine LeO.bind ?_ (fun _ => ?_)
  ·intro y0 y1 y2 y3 y4 y5 y6 y7 y8 y9 y10 y11 y12 y13 y14
   unfold winnowlaw19_LedgerComes.j5
   repeat' first
   | (with_reducible exact ih0 _ _ _ _ _ _ _ _ _ _)
   | (with_reducible exact ih1 _ _ _ _ _ _ _ _ _ _ _)
   | (with_reducible exact ih2 _ _ _ _ _ _ _ _ _)
   | (with_reducible exact ih3 _ _ _ _ _ _ _ _ _ _ _ _ _)
   | (with_reducible exact ih4 _ _ _ _ _ _ _ _ _ _ _ _ _)
   | (with_reducible exact ih5 _ _ _ _ _ _ _ _ _ _ _ _ _ _)
   | (with_reducible exact ih6 _ _ _ _ _ _ _ _ _ _ _ _ _ _ _)
   | (with_reducible exact ih7 _ _ _ _ _ _ _ _ _ _ _ _ _ _ _ _)
   | (with_reducible exact ledger_Over.mono _ _ _ _ _)
   | (with_reducible exact ledger_Ready.mono _ _ _ _ _)
   | (with_reducible exact winnowlaw19_ended.mono _ _ _ _ _ _ _ _ _)
   | (with_reducible exact winnowlaw19_held.mono _ _ _ _ _)
   | (with_reducible exact LeO.refl _)
   | (with_reducible exact LeO.none _)
   | (with_reducible refine LeO.ite ?_ ?_)
   | (with_reducible refine LeO.bind ?_ (fun _ => ?_))
   | exact ih0 _ _ _ _ _ _ _ _ _ _
   | exact ih1 _ _ _ _ _ _ _ _ _ _ _
   | exact ih2 _ _ _ _ _ _ _ _ _
   | exact ih3 _ _ _ _ _ _ _ _ _ _ _ _ _
   | exact ih4 _ _ _ _ _ _ _ _ _ _ _ _ _
   | exact ih5 _ _ _ _ _ _ _ _ _ _ _ _ _ _
   | exact ih6 _ _ _ _ _ _ _ _ _ _ _ _ _ _ _
   | exact ih7 _ _ _ _ _ _ _ _ _ _ _ _ _ _ _ _
   | exact ledger_Over.mono _ _ _ _ _
   | exact ledger_Ready.mono _ _ _ _ _
   | exact winnowlaw19_ended.mono _ _ _ _ _ _ _ _ _
   | exact winnowlaw19_held.mono _ _ _ _ _
   | exact LeO.none _
   | refine LeO.ite ?_ ?_
   | refine LeO.bind ?_ (fun _ => ?_)
  ·intro y0 y1 y2 y3 y4 y5 y6 y7 y8 y9 y10 y11 y12 y13 y14 y15
   unfold winnowlaw19_LedgerComes.j6
   repeat' first
   | (with_reducible exact ih0 _ _ _ _ _ _ _ _ _ _)
   | (with_reducible exact ih1 _ _ _ _ _ _ _ _ _ _ _)
   | (with_reducible exact ih2 _ _ _ _ _ _ _ _ _)
   | (with_reducible exact ih3 _ _ _ _ _ _ _ _ _ _ _ _ _)
   | (with_reducible exact ih4 _ _ _ _ _ _ _ _ _ _ _ _ _)
   | (with_reducible exact ih5 _ _ _ _ _ _ _ _ _ _ _ _ _ _)
   | (with_reducible exact ih6 _ _ _ _ _ _ _ _ _ _ _ _ _ _ _)
   | (with_reducible exact ih7 _ _ _ _ _ _ _ _ _ _ _ _ _ _ _ _)
   | (with_reducible exact ledger_Over.mono _ _ _ _ _)
   | (with_reducible exact ledger_Ready.mono _ _ _ _ _)
   | (with_reducible exact winnowlaw19_ended.mono _ _ _ _ _ _ _ _ _)
   | (with_reducible exact winnowlaw19_held.mono _ _ _ _ _)
   | (with_reducible exact LeO.refl _)
   | (with_reducible exact LeO.none _)
   | (with_reducible refine LeO.ite ?_ ?_)
   | (with_reducible refine LeO.bind ?_ (fun _ => ?_))
   | exact ih0 _ _ _ _ _ _ _ _ _ _
   | exact ih1 _ _ _ _ _ _ _ _ _ _ _
   | exact ih2 _ _ _ _ _ _ _ _ _
   | exact ih3 _ _ _ _ _ _ _ _ _ _ _ _ _
   | exact ih4 _ _ _ _ _ _ _ _ _ _ _ _ _
   | exact ih5 _ _ _ _ _ _ _ _ _ _ _ _ _ _
   | exact ih6 _ _ _ _ _ _ _ _ _ _ _ _ _ _ _
   | exact ih7 _ _ _ _ _ _ _ _ _ _ _ _ _ _ _ _
   | exact ledger_Over.mono _ _ _ _ _
   | exact ledger_Ready.mono _ _ _ _ _
   | exact winnowlaw19_ended.mono _ _ _ _ _ _ _ _ _
   | exact winnowlaw19_held.mono _ _ _ _ _
   | exact LeO.none _
   | refine LeO.ite ?_ ?_
   | refine LeO.bind ?_ (fun _ => ?_)
theorem winnowlaw19_LedgerComes.mono : ∀ a0 a1 a2 a3 a4 k, LeO (winnowlaw19_LedgerComes.f k a0 a1 a2 a3 a4) (winnowlaw19_LedgerComes.f (k + 1) a0 a1 a2 a3 a4) := by
 intro a0 a1 a2 a3 a4 k
 obtain ⟨ih0, ih1, ih2, ih3, ih4, ih5, ih6, ih7⟩ := winnowlaw19_LedgerComes.mono_l k
 unfold winnowlaw19_LedgerComes.f
 repeat' first
   | (with_reducible exact ih0 _ _ _ _ _ _ _ _ _ _)
   | (with_reducible exact ih1 _ _ _ _ _ _ _ _ _ _ _)
   | (with_reducible exact ih2 _ _ _ _ _ _ _ _ _)
   | (with_reducible exact ih3 _ _ _ _ _ _ _ _ _ _ _ _ _)
   | (with_reducible exact ih4 _ _ _ _ _ _ _ _ _ _ _ _ _)
   | (with_reducible exact ih5 _ _ _ _ _ _ _ _ _ _ _ _ _ _)
   | (with_reducible exact ih6 _ _ _ _ _ _ _ _ _ _ _ _ _ _ _)
   | (with_reducible exact ih7 _ _ _ _ _ _ _ _ _ _ _ _ _ _ _ _)
   | (with_reducible exact ledger_Over.mono _ _ _ _ _)
   | (with_reducible exact ledger_Ready.mono _ _ _ _ _)
   | (with_reducible exact winnowlaw19_ended.mono _ _ _ _ _ _ _ _ _)
   | (with_reducible exact winnowlaw19_held.mono _ _ _ _ _)
   | (with_reducible exact LeO.refl _)
   | (with_reducible exact LeO.none _)
   | (with_reducible refine LeO.ite ?_ ?_)
   | (with_reducible refine LeO.bind ?_ (fun _ => ?_))
   | exact ih0 _ _ _ _ _ _ _ _ _ _
   | exact ih1 _ _ _ _ _ _ _ _ _ _ _
   | exact ih2 _ _ _ _ _ _ _ _ _
   | exact ih3 _ _ _ _ _ _ _ _ _ _ _ _ _
   | exact ih4 _ _ _ _ _ _ _ _ _ _ _ _ _
   | exact ih5 _ _ _ _ _ _ _ _ _ _ _ _ _ _
   | exact ih6 _ _ _ _ _ _ _ _ _ _ _ _ _ _ _
   | exact ih7 _ _ _ _ _ _ _ _ _ _ _ _ _ _ _ _
   | exact ledger_Over.mono _ _ _ _ _
   | exact ledger_Ready.mono _ _ _ _ _
   | exact winnowlaw19_ended.mono _ _ _ _ _ _ _ _ _
   | exact winnowlaw19_held.mono _ _ _ _ _
   | exact LeO.none _
   | refine LeO.ite ?_ ?_
   | refine LeO.bind ?_ (fun _ => ?_)
set_option maxHeartbeats 8000000 in
set_option maxRecDepth 100000 in
theorem winnowlaw19_LedgerComes.calls (k : Nat) (a0 : Int) (a1 : Int) (a2 : Int) (A3 : Option Addr) (c3 : Nat) (l3 : List Int) (A4 : Option Addr) (c4 : Nat) (l4 : List Int) (r : Bool) (w : World) (hr3 : Kd.C (Kd.int .i64) w A3 l3.length l3) (hc3 : l3.length ≤ c3) (hr4 : Kd.C (Kd.int .i64) w A4 l4.length l4) (hc4 : l4.length ≤ c4) (h : winnowlaw19_LedgerComes.f k a0 a1 a2 l3 l4 = some r) (hTAB_ : Tab w) :
  Calls Tryd.prog 9 #[.int .i64 a0, .int .i64 a1, .int .i64 a2, .slice A3 l3.length c3, .slice A4 l4.length c4] w fun e w' => e = .returned (.bool r) ∧ Below w.heap.size w w' := by
 have HTAB := Aside0.mk hTAB_
 clear hTAB_
 have hu24 := Tryd.underlying24
 have hu29 := Tryd.underlying29
 have HR3 := Aside0.mk hr3
 have HC3 := Aside0.mk hc3
 clear hr3 hc3
 have HR4 := Aside0.mk hr4
 have HC4 := Aside0.mk hc4
 clear hr4 hc4
 have HB := Aside0.mk (Below.refl w.heap.size w)
 have H : ((winnowlaw19_few.f a0 0 6).bind fun t460 => ((winnowlaw19_few.f a1 1 6).bind fun t461 => ((winnowlaw19_few.f a2 1 5).bind fun t462 => ((ledger_New.f t460 t461 t462).bind fun bt463 => (if bt463.2.2.2.2 = 0 then ((winnowlaw19_sized.f bt463.1 bt463.2.1 bt463.2.2.1 bt463.2.2.2.1 t460 t461).bind fun t473 => (winnowlaw19_LedgerComes.j0 k l3 l4 t460 t461 t462 (!t473) bt463.1 bt463.2.1 bt463.2.2.1 bt463.2.2.2.1)) else (winnowlaw19_LedgerComes.j0 k l3 l4 t460 t461 t462 true bt463.1 bt463.2.1 bt463.2.2.1 bt463.2.2.2.1)))))) = some r := h
 clear h
 replace H := Option.bind_eq_some_iff.mp H
 obtain ⟨t460, A60, H⟩ := H
 replace H : ((winnowlaw19_few.f a1 1 6).bind fun t461 => ((winnowlaw19_few.f a2 1 5).bind fun t462 => ((ledger_New.f t460 t461 t462).bind fun bt463 => (if bt463.2.2.2.2 = 0 then ((winnowlaw19_sized.f bt463.1 bt463.2.1 bt463.2.2.1 bt463.2.2.2.1 t460 t461).bind fun t473 => (winnowlaw19_LedgerComes.j0 k l3 l4 t460 t461 t462 (!t473) bt463.1 bt463.2.1 bt463.2.2.1 bt463.2.2.2.1)) else (winnowlaw19_LedgerComes.j0 k l3 l4 t460 t461 t462 true bt463.1 bt463.2.1 bt463.2.2.1 bt463.2.2.2.1))))) = some r := H
 have A6 := Aside0.mk A60
 clear A60
 replace H := Option.bind_eq_some_iff.mp H
 obtain ⟨t461, A70, H⟩ := H
 replace H : ((winnowlaw19_few.f a2 1 5).bind fun t462 => ((ledger_New.f t460 t461 t462).bind fun bt463 => (if bt463.2.2.2.2 = 0 then ((winnowlaw19_sized.f bt463.1 bt463.2.1 bt463.2.2.1 bt463.2.2.2.1 t460 t461).bind fun t473 => (winnowlaw19_LedgerComes.j0 k l3 l4 t460 t461 t462 (!t473) bt463.1 bt463.2.1 bt463.2.2.1 bt463.2.2.2.1)) else (winnowlaw19_LedgerComes.j0 k l3 l4 t460 t461 t462 true bt463.1 bt463.2.1 bt463.2.2.1 bt463.2.2.2.1)))) = some r := H
 have A7 := Aside0.mk A70
 clear A70
 replace H := Option.bind_eq_some_iff.mp H
 obtain ⟨t462, A80, H⟩ := H
 replace H : ((ledger_New.f t460 t461 t462).bind fun bt463 => (if bt463.2.2.2.2 = 0 then ((winnowlaw19_sized.f bt463.1 bt463.2.1 bt463.2.2.1 bt463.2.2.2.1 t460 t461).bind fun t473 => (winnowlaw19_LedgerComes.j0 k l3 l4 t460 t461 t462 (!t473) bt463.1 bt463.2.1 bt463.2.2.1 bt463.2.2.2.1)) else (winnowlaw19_LedgerComes.j0 k l3 l4 t460 t461 t462 true bt463.1 bt463.2.1 bt463.2.2.1 bt463.2.2.2.1))) = some r := H
 have A8 := Aside0.mk A80
 clear A80
 replace H := Option.bind_eq_some_iff.mp H
 obtain ⟨⟨t463, t464, t467, t470, t471⟩, A90, H⟩ := H
 replace H : (if t471 = 0 then ((winnowlaw19_sized.f t463 t464 t467 t470 t460 t461).bind fun t473 => (winnowlaw19_LedgerComes.j0 k l3 l4 t460 t461 t462 (!t473) t463 t464 t467 t470)) else (winnowlaw19_LedgerComes.j0 k l3 l4 t460 t461 t462 true t463 t464 t467 t470)) = some r := H
 have A9 := Aside0.mk A90
 clear A90
 have HC10 := Aside0.mk H
 clear H
 go_enter Tryd.func9, Tryd.ntmps9
 go_upto_region 5 with (first | ((with_reducible refine gate_callee (f := 32) rfl ?_); refine goesL_ (some 34) rfl rfl Tryd.func32 (by kernel_rfl) rfl #[.int .i64 a0, .int .i64 0, .int .i64 6] rfl (by (try simp only [List.map_toArray, List.map_cons, List.map_nil]); first | done | rfl | (simp only [List.length_drop, List.length_take]; rfl)) ?_; (with_reducible refine (winnowlaw19_few.calls a0 0 6 t460 _ A6.out).mono ?_); rintro e w' ⟨rfl, ⟨nd, rfl⟩⟩; refine ⟨_, rfl, ?_⟩) | ((with_reducible refine gate_callee (f := 32) rfl ?_); refine goesL_ (some 36) rfl rfl Tryd.func32 (by kernel_rfl) rfl #[.int .i64 a1, .int .i64 1, .int .i64 6] rfl (by (try simp only [List.map_toArray, List.map_cons, List.map_nil]); first | done | rfl | (simp only [List.length_drop, List.length_take]; rfl)) ?_; (with_reducible refine (winnowlaw19_few.calls a1 1 6 t461 _ A7.out).mono ?_); rintro e w' ⟨rfl, ⟨nd, rfl⟩⟩; refine ⟨_, rfl, ?_⟩) | ((with_reducible refine gate_callee (f := 32) rfl ?_); refine goesL_ (some 38) rfl rfl Tryd.func32 (by kernel_rfl) rfl #[.int .i64 a2, .int .i64 1, .int .i64 5] rfl (by (try simp only [List.map_toArray, List.map_cons, List.map_nil]); first | done | rfl | (simp only [List.length_drop, List.length_take]; rfl)) ?_; (with_reducible refine (winnowlaw19_few.calls a2 1 5 t462 _ A8.out).mono ?_); rintro e w' ⟨rfl, ⟨nd, rfl⟩⟩; refine ⟨_, rfl, ?_⟩) | ((with_reducible refine gate_callee (f := 33) rfl ?_); refine goesL_ (some 43) rfl rfl Tryd.func33 (by kernel_rfl) rfl #[.int .i64 t460, .int .i64 t461, .int .i64 t462] rfl (by (try simp only [List.map_toArray, List.map_cons, List.map_nil]); first | done | rfl | (simp only [List.length_drop, List.length_take]; rfl)) ?_; (with_reducible refine (ledger_New.calls t460 t461 t462 t463 t464 t467 t470 t471 _ A9.out).mono ?_); rintro e w11 ⟨v465, v468, rfl, ho0, ho1, hb⟩; refine ⟨_, rfl, ?_⟩; have n0_ := Aside0.mk (Kd.R_lower ho0 (below_size (by repeat (first | (with_reducible first | exact HB.out | apply below_alloc | apply pw_below_drewN | apply below_drew1) | exact HB.out)))); have n1_ := Aside0.mk (Kd.R_lower ho1 (below_size (by repeat (first | (with_reducible first | exact HB.out | apply below_alloc | apply pw_below_drewN | apply below_drew1) | exact HB.out)))); have n2_ := Aside0.mk (below_step (by repeat (first | (with_reducible first | exact HB.out | apply below_alloc | apply pw_below_drewN | apply below_drew1) | exact HB.out)) hb); clear HB; have HO466 := n0_; have HO469 := n1_; have HB := n2_; clear n0_ n1_ n2_; (try clear hb); (try clear hb2); (try clear hk); (try clear hi); (try clear ho0); (try clear ho1)) | ((with_reducible refine gate_dst (N := 14) rfl ?_); refine box_event ?hg (N := 14) ?hd (cs := #[.int .i64 0, .slice none 0 0, .slice none 0 0, .bool false]) (t := 24) ?hr ?_; (case hd => rfl); (case hg => rfl); (case hr => first | (go_simp; done) | (go_simp; rfl)); intro gb472 hg w12 hbox hb; have n0_ := Aside0.mk (Kd.R_below (by (with_reducible repeat (first | apply Kd.R_alloc | apply Kd.R_drewN | apply Kd.R_drew)); exact HO466.out) hb); have n1_ := Aside0.mk (Kd.R_below (by (with_reducible repeat (first | apply Kd.R_alloc | apply Kd.R_drewN | apply Kd.R_drew)); exact HO469.out) hb); have n2_ := Aside0.mk (below_step (by repeat (first | (with_reducible first | exact HB.out | apply below_alloc | apply pw_below_drewN | apply below_drew1) | exact HB.out)) hb); have n3_ := Aside0.mk (hbox); have n4_ := Aside0.mk ((by rw [hg]; exact (below_size (by repeat (first | (with_reducible first | exact HB.out | apply below_alloc | apply pw_below_drewN | apply below_drew1) | exact HB.out))) : w.heap.size ≤ gb472)); have n5_ := Aside0.mk ((by rw [hg]; exact (below_size (by repeat (first | (with_reducible first | exact HB.out | apply below_alloc | apply pw_below_drewN | apply below_drew1) | exact HB.out))) : w.heap.size ≤ gb472)); clear HO466; clear HO469; clear HB; have HO466 := n0_; have HO469 := n1_; have HB := n2_; have BK472 := n3_; have GW472 := n4_; have GE472 := n5_; clear n0_ n1_ n2_ n3_ n4_ n5_; clear hb hbox hg; have hcz13_0 : w12.cell? ⟨gb472, 0, none⟩ = some (.int .i64 0) := (blk_cell BK472.out 0).trans rfl; have hcz13_1 : w12.cell? ⟨gb472, 1, none⟩ = some (.slice none 0 0) := (blk_cell BK472.out 1).trans rfl; have hcz13_2 : w12.cell? ⟨gb472, 2, none⟩ = some (.slice none 0 0) := (blk_cell BK472.out 2).trans rfl; have hcz13_3 : w12.cell? ⟨gb472, 3, none⟩ = some (.bool false) := (blk_cell BK472.out 3).trans rfl; have hfz13_0 := blk_frozen BK472.out 0; have hfz13_1 := blk_frozen BK472.out 1; have hfz13_2 := blk_frozen BK472.out 2; have hfz13_3 := blk_frozen BK472.out 3; obtain ⟨Ao14, co14, eo14⟩ := Kd.R_slice HO466.out; subst eo14; obtain ⟨Ao15, co15, eo15⟩ := Kd.R_slice HO469.out; subst eo15))
 (try simp only [Act.put, List.setIfInBounds_toArray, List.set_cons_zero, List.set_cons_succ])
 go_cut [54] (fun v54 wc => ∃ (kq : Nat) (x54_9 : Bool), v54 = .bool x54_9 ∧ Aside0 (winnowlaw19_LedgerComes.j0 kq l3 l4 t460 t461 t462 x54_9 t463 t464 t467 t470 = some r) ∧ Aside0 (kq ≤ k) ∧ Aside0 (Kd.R k38 38 wc w.heap.size (fun k_ => some k_ ≠ ((.slice Ao15 t467.length co15) : Value).ownBlock) (.slice Ao14 t464.length co14) t464) ∧ Aside0 (Kd.R k38 38 wc w.heap.size (fun k_ => some k_ ≠ ((.slice Ao14 t464.length co14) : Value).ownBlock) (.slice Ao15 t467.length co15) t467) ∧ Aside0 (wc.heap[gb472]? = some (.cells #[.int .i64 t463, (.slice Ao14 t464.length co14), (.slice Ao15 t467.length co15), .bool t470] 24 (0, 0))) ∧ Aside0 (Below w.heap.size w wc))
 case first => as_aux_lemma =>
  have H := HC10.out
  clear HC10
  by_cases c16 : t471 = 0
  ·rw [if_pos c16] at H
   have c16b0 : (t471 == 0) = true := beq_iff_eq.mpr c16
   have c16b1 : (t471 != 0) = false := bne_eq_false_iff_eq.mpr c16
   clear c16
   (first | rw [c16b0] | (simp only [i64_w, i32_w]; rw [c16b0]) | skip)
   replace H := Option.bind_eq_some_iff.mp H
   obtain ⟨t473, A170, H⟩ := H
   replace H : (winnowlaw19_LedgerComes.j0 k l3 l4 t460 t461 t462 (!t473) t463 t464 t467 t470) = some r := H
   have A17 := Aside0.mk A170
   clear A170
   have H' := Aside0.mk H
   clear H
   have hcz18_0 : w12.cell? ⟨gb472, 0, none⟩ = some (.int .i64 0) := (blk_cell BK472.out 0).trans rfl
   have hcz18_1 : w12.cell? ⟨gb472, 1, none⟩ = some (.slice none 0 0) := (blk_cell BK472.out 1).trans rfl
   have hcz18_2 : w12.cell? ⟨gb472, 2, none⟩ = some (.slice none 0 0) := (blk_cell BK472.out 2).trans rfl
   have hcz18_3 : w12.cell? ⟨gb472, 3, none⟩ = some (.bool false) := (blk_cell BK472.out 3).trans rfl
   have hfz18_0 := blk_frozen BK472.out 0
   have hfz18_1 := blk_frozen BK472.out 1
   have hfz18_2 := blk_frozen BK472.out 2
   have hfz18_3 := blk_frozen BK472.out 3
   go_wp2_with (first | (go_at_call 34; (with_reducible refine (winnowlaw19_sized.calls t463 _ _ t464 _ _ t467 t470 t460 t461 t473 _ ?side1 ?side2 ?side3 ?side4 A17.out).mono ?_); (case side1 => refine (Kd.R_reads' (e := 38) (base := w.heap.size) (ok := fun k_ => some k_ ≠ (.slice Ao15 t467.length co15 : Value).ownBlock) (n := t464.length) (c := co14) ?_).2.2; exact (by (with_reducible repeat (first | apply Kd.R_alloc | apply Kd.R_drewN | apply Kd.R_drew)); exact (Kd.R_mono (Kd.R_far (p := ⟨gb472, 3, none⟩) (Kd.R_far (p := ⟨gb472, 2, none⟩) (Kd.R_far (p := ⟨gb472, 1, none⟩) (Kd.R_far (p := ⟨gb472, 0, none⟩) (Kd.R_types HO466.out BK472.out (by decide)) (fun _ hk => hk.2) (.int .i64 t463)) (fun _ hk => hk.2) (.slice Ao14 t464.length co14)) (fun _ hk => hk.2) (.slice Ao15 t467.length co15)) (fun _ hk => hk.2) (.bool t470)) (fun _ h_ => h_.1)))); (case side2 => exact (Kd.R_reads' HO466.out).2.1); (case side3 => refine (Kd.R_reads' (e := 38) (base := w.heap.size) (ok := fun k_ => some k_ ≠ (.slice Ao14 t464.length co14 : Value).ownBlock) (n := t467.length) (c := co15) ?_).2.2; exact (by (with_reducible repeat (first | apply Kd.R_alloc | apply Kd.R_drewN | apply Kd.R_drew)); exact (Kd.R_mono (Kd.R_far (p := ⟨gb472, 3, none⟩) (Kd.R_far (p := ⟨gb472, 2, none⟩) (Kd.R_far (p := ⟨gb472, 1, none⟩) (Kd.R_far (p := ⟨gb472, 0, none⟩) (Kd.R_types HO469.out BK472.out (by decide)) (fun _ hk => hk.2) (.int .i64 t463)) (fun _ hk => hk.2) (.slice Ao14 t464.length co14)) (fun _ hk => hk.2) (.slice Ao15 t467.length co15)) (fun _ hk => hk.2) (.bool t470)) (fun _ h_ => h_.1)))); (case side4 => exact (Kd.R_reads' HO469.out).2.1); rintro e w19 ⟨rfl, hb⟩; have n0_ := Aside0.mk (Kd.R_below (by (with_reducible repeat (first | apply Kd.R_alloc | apply Kd.R_drewN | apply Kd.R_drew)); exact (Kd.R_mono (Kd.R_far (p := ⟨gb472, 3, none⟩) (Kd.R_far (p := ⟨gb472, 2, none⟩) (Kd.R_far (p := ⟨gb472, 1, none⟩) (Kd.R_far (p := ⟨gb472, 0, none⟩) (Kd.R_types HO466.out BK472.out (by decide)) (fun _ hk => hk.2) (.int .i64 t463)) (fun _ hk => hk.2) (.slice Ao14 t464.length co14)) (fun _ hk => hk.2) (.slice Ao15 t467.length co15)) (fun _ hk => hk.2) (.bool t470)) (fun _ h_ => h_.1))) hb); have n1_ := Aside0.mk (Kd.R_below (by (with_reducible repeat (first | apply Kd.R_alloc | apply Kd.R_drewN | apply Kd.R_drew)); exact (Kd.R_mono (Kd.R_far (p := ⟨gb472, 3, none⟩) (Kd.R_far (p := ⟨gb472, 2, none⟩) (Kd.R_far (p := ⟨gb472, 1, none⟩) (Kd.R_far (p := ⟨gb472, 0, none⟩) (Kd.R_types HO469.out BK472.out (by decide)) (fun _ hk => hk.2) (.int .i64 t463)) (fun _ hk => hk.2) (.slice Ao14 t464.length co14)) (fun _ hk => hk.2) (.slice Ao15 t467.length co15)) (fun _ hk => hk.2) (.bool t470)) (fun _ h_ => h_.1))) hb); have n2_ := Aside0.mk (blk_below (g := gb472) (o := .cells #[.int .i64 t463, .slice Ao14 t464.length co14, .slice Ao15 t467.length co15, .bool t470] 24 (0, 0)) (by (with_reducible repeat (first | refine blk_drewN ?_ _ | refine blk_drew ?_ | refine blk_alloc ?_ _)); refine blk_put (cs := #[.int .i64 t463, .slice Ao14 t464.length co14, .slice Ao15 t467.length co15, .bool false]) ?_ 3 _ rfl; (with_reducible repeat (first | refine blk_drewN ?_ _ | refine blk_drew ?_ | refine blk_alloc ?_ _)); refine blk_put (cs := #[.int .i64 t463, .slice Ao14 t464.length co14, .slice none 0 0, .bool false]) ?_ 2 _ rfl; (with_reducible repeat (first | refine blk_drewN ?_ _ | refine blk_drew ?_ | refine blk_alloc ?_ _)); refine blk_put (cs := #[.int .i64 t463, .slice none 0 0, .slice none 0 0, .bool false]) ?_ 1 _ rfl; (with_reducible repeat (first | refine blk_drewN ?_ _ | refine blk_drew ?_ | refine blk_alloc ?_ _)); refine blk_put (cs := #[.int .i64 0, .slice none 0 0, .slice none 0 0, .bool false]) ?_ 0 _ rfl; (with_reducible repeat (first | refine blk_drewN ?_ _ | refine blk_drew ?_ | refine blk_alloc ?_ _)); exact BK472.out) hb); have n3_ := Aside0.mk (below_step (by repeat (first | (with_reducible first | exact HB.out | apply below_alloc | apply pw_below_drewN | apply below_drew1 | refine below_set ?_ GE472.out) | exact HB.out)) hb); clear HO466; clear HO469; clear BK472; clear HB; have HO466 := n0_; have HO469 := n1_; have BK472 := n2_; have HB := n3_; clear n0_ n1_ n2_ n3_; (try clear hb); (try clear hb2); (try clear hk); (try clear hi)))
   go_meet
   case rel => exact ⟨_, (!t473), (by first | rfl | (simp; done) | (simp [*]; done)), H', ⟨by first | omega | exact Nat.le_refl _⟩, ⟨by (with_reducible repeat (first | apply Kd.R_alloc | apply Kd.R_drewN | apply Kd.R_drew)); exact HO466.out⟩, ⟨by (with_reducible repeat (first | apply Kd.R_alloc | apply Kd.R_drewN | apply Kd.R_drew)); exact HO469.out⟩, ⟨by (with_reducible repeat (first | refine blk_drewN ?_ _ | refine blk_drew ?_ | refine blk_alloc ?_ _)); exact BK472.out⟩, ⟨by repeat (first | (with_reducible first | exact HB.out | apply below_alloc | apply pw_below_drewN | apply below_drew1 | refine below_set ?_ GE472.out) | exact HB.out)⟩⟩
  ·rw [if_neg c16] at H
   have c16b0 : (t471 == 0) = false := beq_eq_false_iff_ne.mpr c16
   have c16b1 : (t471 != 0) = true := bne_iff_ne.mpr c16
   (first | rw [c16b0] | (simp only [i64_w, i32_w]; rw [c16b0]) | skip)
   have H' := Aside0.mk H
   clear H
   go_wp2
   go_meet
   case rel => exact ⟨_, (true), (by first | rfl | (simp; done) | (simp [*]; done)), H', ⟨by first | omega | exact Nat.le_refl _⟩, ⟨by (with_reducible repeat (first | apply Kd.R_alloc | apply Kd.R_drewN | apply Kd.R_drew)); exact Kd.R_mono (Kd.R_far (p := ⟨gb472, 3, none⟩) (Kd.R_far (p := ⟨gb472, 2, none⟩) (Kd.R_far (p := ⟨gb472, 1, none⟩) (Kd.R_far (p := ⟨gb472, 0, none⟩) (Kd.R_types HO466.out BK472.out (by decide)) (fun _ hk => hk.2) (.int .i64 t463)) (fun _ hk => hk.2) (.slice Ao14 t464.length co14)) (fun _ hk => hk.2) (.slice Ao15 t467.length co15)) (fun _ hk => hk.2) (.bool t470)) (fun _ hk => hk.1)⟩, ⟨by (with_reducible repeat (first | apply Kd.R_alloc | apply Kd.R_drewN | apply Kd.R_drew)); exact Kd.R_mono (Kd.R_far (p := ⟨gb472, 3, none⟩) (Kd.R_far (p := ⟨gb472, 2, none⟩) (Kd.R_far (p := ⟨gb472, 1, none⟩) (Kd.R_far (p := ⟨gb472, 0, none⟩) (Kd.R_types HO469.out BK472.out (by decide)) (fun _ hk => hk.2) (.int .i64 t463)) (fun _ hk => hk.2) (.slice Ao14 t464.length co14)) (fun _ hk => hk.2) (.slice Ao15 t467.length co15)) (fun _ hk => hk.2) (.bool t470)) (fun _ hk => hk.1)⟩, ⟨by (with_reducible repeat (first | refine blk_drewN ?_ _ | refine blk_drew ?_ | refine blk_alloc ?_ _)); refine blk_put (cs := #[.int .i64 t463, .slice Ao14 t464.length co14, .slice Ao15 t467.length co15, .bool false]) ?_ 3 _ rfl; (with_reducible repeat (first | refine blk_drewN ?_ _ | refine blk_drew ?_ | refine blk_alloc ?_ _)); refine blk_put (cs := #[.int .i64 t463, .slice Ao14 t464.length co14, .slice none 0 0, .bool false]) ?_ 2 _ rfl; (with_reducible repeat (first | refine blk_drewN ?_ _ | refine blk_drew ?_ | refine blk_alloc ?_ _)); refine blk_put (cs := #[.int .i64 t463, .slice none 0 0, .slice none 0 0, .bool false]) ?_ 1 _ rfl; (with_reducible repeat (first | refine blk_drewN ?_ _ | refine blk_drew ?_ | refine blk_alloc ?_ _)); refine blk_put (cs := #[.int .i64 0, .slice none 0 0, .slice none 0 0, .bool false]) ?_ 0 _ rfl; (with_reducible repeat (first | refine blk_drewN ?_ _ | refine blk_drew ?_ | refine blk_alloc ?_ _)); exact BK472.out⟩, ⟨by repeat (first | (with_reducible first | exact HB.out | apply below_alloc | apply pw_below_drewN | apply below_drew1 | refine below_set ?_ GE472.out) | exact HB.out)⟩⟩
 case rest => as_aux_lemma =>
  clear HC10
  (try clear c1); (try clear p2); (try clear c3); (try clear c4); (try clear c9); (try clear c16); (try clear c16b0); (try clear c16b1); (try clear hcz13_0); (try clear hcz13_1); (try clear hcz13_2); (try clear hcz13_3); (try clear hcz18_0); (try clear hcz18_1); (try clear hcz18_2); (try clear hcz18_3); (try clear hfz13_0); (try clear hfz13_1); (try clear hfz13_2); (try clear hfz13_3); (try clear hfz18_0); (try clear hfz18_1); (try clear hfz18_2); (try clear hfz18_3)
  obtain ⟨kq, x54_9, rfl, HA, HJ9, HO_473001, HO_473002, BK472, HB⟩ := hcut
  cases kq with
  | zero => exact absurd HA.out (by simp [winnowlaw19_LedgerComes.j0])
  | succ kj9 =>
   have H := HA.out
   clear HA
   simp only [winnowlaw19_LedgerComes.j0] at H
   by_cases c20 : x54_9 = true
   ·subst c20
    have H1 : (some false) = some r := by rw [if_pos rfl] at H; exact H
    clear H
    have H := H1
    clear H1
    obtain rfl := Option.some.inj H
    go_wp2
    go_ret
    exact ⟨by first | rfl | (simp [errW_none, errW_some] <;> rfl) | (simp [*, errW_none, errW_some] <;> rfl), by repeat (first | (with_reducible first | exact HB.out | apply below_alloc | apply pw_below_drewN | apply below_drew1 | refine below_set ?_ GE472.out) | exact HB.out)⟩
   ·replace c20 := Bool.eq_false_iff.mpr c20
    subst c20
    have H1 : (winnowlaw19_LedgerComes.l0 kj9 l3 l4 t460 t461 t462 0 0 t463 t464 t467 t470) = some r := by rw [if_neg (show ¬ (false = true) by decide)] at H; exact H
    clear H
    have H := H1
    clear H1
    have H' := Aside0.mk H
    clear H
    go_wp2
    go_loopg [16, 17] kj9 (fun kq v16 v17 w' => ∃ (x16_2 : Int) (x17_2 : Int) (x473000_2 : Int) (x473001_2 : List (S38)) (x473002_2 : List (S38)) (x473003_2 : Bool) (u473001 : Value) (u473002 : Value), v16 = .int .i64 x16_2 ∧ v17 = .int .i64 x17_2 ∧ Aside0 (winnowlaw19_LedgerComes.l0 kq l3 l4 t460 t461 t462 x16_2 x17_2 x473000_2 x473001_2 x473002_2 x473003_2 = some r) ∧ Aside0 (kq ≤ kj9) ∧ Aside0 (Kd.R k38 38 w' w.heap.size (fun k_ => some k_ ≠ (u473002 : Value).ownBlock) u473001 x473001_2) ∧ Aside0 (Kd.R k38 38 w' w.heap.size (fun k_ => some k_ ≠ (u473001 : Value).ownBlock) u473002 x473002_2) ∧ Aside0 (w'.heap[gb472]? = some (.cells #[.int .i64 x473000_2, u473001, u473002, .bool x473003_2] 24 (0, 0))) ∧ Aside0 (Below w.heap.size w w'))
    case atStart => exact ⟨(0), (0), (t463), (t464), (t467), (t470), (.slice Ao14 t464.length co14), (.slice Ao15 t467.length co15), (by first | rfl | (simp; done) | (simp [*]; done)), (by first | rfl | (simp; done) | (simp [*]; done)), H', ⟨Nat.le_refl _⟩, ⟨by (with_reducible repeat (first | apply Kd.R_alloc | apply Kd.R_drewN | apply Kd.R_drew)); exact HO_473001.out⟩, ⟨by (with_reducible repeat (first | apply Kd.R_alloc | apply Kd.R_drewN | apply Kd.R_drew)); exact HO_473002.out⟩, ⟨by (with_reducible repeat (first | refine blk_drewN ?_ _ | refine blk_drew ?_ | refine blk_alloc ?_ _)); exact BK472.out⟩, ⟨by repeat (first | (with_reducible first | exact HB.out | apply below_alloc | apply pw_below_drewN | apply below_drew1 | refine below_set ?_ GE472.out) | exact HB.out)⟩⟩
    case round =>
     clear H'
     (try clear c1); (try clear c2); (try clear p2); (try clear c3); (try clear c4); (try clear c9); (try clear c16); (try clear c16b0); (try clear c16b1); (try clear c20); (try clear hcz13_0); (try clear hcz13_1); (try clear hcz13_2); (try clear hcz13_3); (try clear hcz18_0); (try clear hcz18_1); (try clear hcz18_2); (try clear hcz18_3); (try clear hfz13_0); (try clear hfz13_1); (try clear hfz13_2); (try clear hfz13_3); (try clear hfz18_0); (try clear hfz18_1); (try clear hfz18_2); (try clear hfz18_3); (try clear p2)
     obtain ⟨x16_2, x17_2, x473000_2, x473001_2, x473002_2, x473003_2, u473001, u473002, rfl, rfl, HA, HK2, HO_473001, HO_473002, BK472, HB⟩ := hrel
     cases gk with
     | zero => exact absurd HA.out (by simp [winnowlaw19_LedgerComes.l0])
     | succ k2 =>
      have H := HA.out
      clear HA
      simp only [winnowlaw19_LedgerComes.l0] at H
      replace H := Option.bind_eq_some_iff.mp H
      obtain ⟨t474, A210, H⟩ := H
      replace H : (if t474 = true then (winnowlaw19_LedgerComes.l1 k2 t460 t461 x16_2 x17_2 0 x473000_2 x473001_2 x473002_2 x473003_2) else ((ledger_Ready.f k2 x473000_2 x473001_2 x473002_2 x473003_2).bind fun t475 => ((ledger_Begun.f x473000_2 x473001_2 x473002_2 x473003_2).bind fun bt478 => (if (t475.length : Int) = 0 then (winnowlaw19_LedgerComes.j2 k2 l3 l4 t460 t461 t462 x16_2 x17_2 t475 true x473000_2 x473001_2 x473002_2 x473003_2) else (winnowlaw19_LedgerComes.j2 k2 l3 l4 t460 t461 t462 x16_2 x17_2 t475 (decide (x17_2 > (wrap64 ((wrap64 ((wrap64 (t460 + t461)) + bt478.2)) + x16_2)))) x473000_2 x473001_2 x473002_2 x473003_2))))) = some r := H
      have A21 := Aside0.mk A210
      clear A210
      by_cases c22 : t474 = true
      ·subst c22
       have H1 : (winnowlaw19_LedgerComes.l1 k2 t460 t461 x16_2 x17_2 0 x473000_2 x473001_2 x473002_2 x473003_2) = some r := by rw [if_pos rfl] at H; exact H
       clear H
       have H := H1
       clear H1
       have H' := Aside0.mk H
       clear H
       have hcz23_0 : wr.cell? ⟨gb472, 0, none⟩ = some (.int .i64 x473000_2) := (blk_cell BK472.out 0).trans rfl
       have hcz23_1 : wr.cell? ⟨gb472, 1, none⟩ = some (u473001) := (blk_cell BK472.out 1).trans rfl
       have hcz23_2 : wr.cell? ⟨gb472, 2, none⟩ = some (u473002) := (blk_cell BK472.out 2).trans rfl
       have hcz23_3 : wr.cell? ⟨gb472, 3, none⟩ = some (.bool x473003_2) := (blk_cell BK472.out 3).trans rfl
       have hfz23_0 := blk_frozen BK472.out 0
       have hfz23_1 := blk_frozen BK472.out 1
       have hfz23_2 := blk_frozen BK472.out 2
       have hfz23_3 := blk_frozen BK472.out 3
       obtain ⟨Ao24, co24, eo24⟩ := Kd.R_slice HO_473001.out
       subst eo24
       obtain ⟨Ao25, co25, eo25⟩ := Kd.R_slice HO_473002.out
       subst eo25
       go_wp2_with (first | ((with_reducible refine gate_callee (f := 18) rfl ?_); refine goesL_ (some 56) rfl rfl Tryd.func18 (by kernel_rfl) rfl #[.agg #[.int .i64 x473000_2, .slice Ao24 x473001_2.length co24, .slice Ao25 x473002_2.length co25, .bool x473003_2]] rfl (by (try simp only [List.map_toArray, List.map_cons, List.map_nil]); first | done | rfl | (simp only [List.length_drop, List.length_take]; rfl)) ?_; (with_reducible refine (ledger_Over.calls k2 x473000_2 _ _ x473001_2 _ _ x473002_2 x473003_2 true _ ?side1 ?side2 ?side3 ?side4 A21.out (Tab.below HTAB.out (by repeat (first | (with_reducible first | exact HB.out | apply below_alloc | apply pw_below_drewN | apply below_drew1 | refine below_set ?_ GE472.out) | exact HB.out)))).mono ?_); (case side1 => repeat (first | exact (Kd.R_reads' HO_473001.out).2.2 | (with_reducible refine Kd.C_alloc ?_ _) | (with_reducible refine Kd.C_drewN ?_ _) | (with_reducible refine Kd.C_drew ?_))); (case side2 => exact (Kd.R_reads' HO_473001.out).2.1); (case side3 => repeat (first | exact (Kd.R_reads' HO_473002.out).2.2 | (with_reducible refine Kd.C_alloc ?_ _) | (with_reducible refine Kd.C_drewN ?_ _) | (with_reducible refine Kd.C_drew ?_))); (case side4 => exact (Kd.R_reads' HO_473002.out).2.1); rintro e w26 ⟨rfl, hb⟩; refine ⟨_, rfl, ?_⟩; have n0_ := Aside0.mk (Kd.R_below (by (with_reducible repeat (first | apply Kd.R_alloc | apply Kd.R_drewN | apply Kd.R_drew)); exact HO_473001.out) hb); have n1_ := Aside0.mk (Kd.R_below (by (with_reducible repeat (first | apply Kd.R_alloc | apply Kd.R_drewN | apply Kd.R_drew)); exact HO_473002.out) hb); have n2_ := Aside0.mk (blk_below (g := gb472) (o := .cells #[.int .i64 x473000_2, .slice Ao24 x473001_2.length co24, .slice Ao25 x473002_2.length co25, .bool x473003_2] 24 (0, 0)) (by (with_reducible repeat (first | refine blk_drewN ?_ _ | refine blk_drew ?_ | refine blk_alloc ?_ _)); exact BK472.out) hb); have n3_ := Aside0.mk (below_step (by repeat (first | (with_reducible first | exact HB.out | apply below_alloc | apply pw_below_drewN | apply below_drew1 | refine below_set ?_ GE472.out) | exact HB.out)) hb); clear HO_473001; clear HO_473002; clear BK472; clear HB; have HO_473001 := n0_; have HO_473002 := n1_; have BK472 := n2_; have HB := n3_; clear n0_ n1_ n2_ n3_; (try clear hb); (try clear hb2); (try clear hk); (try clear hi)))
       go_loopg [30] k2 (fun kq v30 w' => ∃ (x30_3 : Int), v30 = .int .i64 x30_3 ∧ Aside0 (winnowlaw19_LedgerComes.l1 kq t460 t461 x16_2 x17_2 x30_3 x473000_2 x473001_2 x473002_2 x473003_2 = some r) ∧ Aside0 (kq ≤ k2) ∧ Aside0 (Kd.R k38 38 w' w.heap.size (fun k_ => some k_ ≠ ((.slice Ao25 x473002_2.length co25) : Value).ownBlock) (.slice Ao24 x473001_2.length co24) x473001_2) ∧ Aside0 (Kd.R k38 38 w' w.heap.size (fun k_ => some k_ ≠ ((.slice Ao24 x473001_2.length co24) : Value).ownBlock) (.slice Ao25 x473002_2.length co25) x473002_2) ∧ Aside0 (w'.heap[gb472]? = some (.cells #[.int .i64 x473000_2, (.slice Ao24 x473001_2.length co24), (.slice Ao25 x473002_2.length co25), .bool x473003_2] 24 (0, 0))) ∧ Aside0 (Below w.heap.size w w'))
       case atStart => exact ⟨(0), (by first | rfl | (simp; done) | (simp [*]; done)), H', ⟨Nat.le_refl _⟩, ⟨by (with_reducible repeat (first | apply Kd.R_alloc | apply Kd.R_drewN | apply Kd.R_drew)); exact HO_473001.out⟩, ⟨by (with_reducible repeat (first | apply Kd.R_alloc | apply Kd.R_drewN | apply Kd.R_drew)); exact HO_473002.out⟩, ⟨by (with_reducible repeat (first | refine blk_drewN ?_ _ | refine blk_drew ?_ | refine blk_alloc ?_ _)); exact BK472.out⟩, ⟨by repeat (first | (with_reducible first | exact HB.out | apply below_alloc | apply pw_below_drewN | apply below_drew1 | refine below_set ?_ GE472.out) | exact HB.out)⟩⟩
       case round =>
        clear H'
        (try clear c1); (try clear c2); (try clear p2); (try clear c3); (try clear c4); (try clear p6); (try clear c9); (try clear c16); (try clear c16b0); (try clear c16b1); (try clear c18); (try clear c20); (try clear c22); (try clear hcz13_0); (try clear hcz13_1); (try clear hcz13_2); (try clear hcz13_3); (try clear hcz18_0); (try clear hcz18_1); (try clear hcz18_2); (try clear hcz18_3); (try clear hcz23_0); (try clear hcz23_1); (try clear hcz23_2); (try clear hcz23_3); (try clear hfz13_0); (try clear hfz13_1); (try clear hfz13_2); (try clear hfz13_3); (try clear hfz18_0); (try clear hfz18_1); (try clear hfz18_2); (try clear hfz18_3); (try clear hfz23_0); (try clear hfz23_1); (try clear hfz23_2); (try clear hfz23_3); (try clear p2)
        obtain ⟨x30_3, rfl, HA, HK3, HO_473001, HO_473002, BK472, HB⟩ := hrel
        cases gk with
        | zero => exact absurd HA.out (by simp [winnowlaw19_LedgerComes.l1])
        | succ k3 =>
         have H := HA.out
         clear HA
         simp only [winnowlaw19_LedgerComes.l1] at H
         by_cases c27 : x30_3 < t461
         ·rw [if_pos c27] at H
          have c27b0 : decide (x30_3 < t461) = true := decide_eq_true c27
          clear c27
          by_cases c28 : 0 ≤ x30_3
          ·rw [if_pos c28] at H
           have c28b0 : decide (0 ≤ x30_3) = true := decide_eq_true c28
           clear c28
           by_cases c29 : x30_3 < (x473002_2.length : Int)
           ·rw [if_pos c29] at H
            have c29b0 : decide (x30_3 < (x473002_2.length : Int)) = true := decide_eq_true c29
            clear c29
            by_cases c30 : ((rd_T38 x473002_2 x30_3).f0) = 3
            ·rw [if_pos c30] at H
             have c30b0 : (((rd_T38 x473002_2 x30_3).f0) == 3) = true := beq_iff_eq.mpr c30
             have c30b1 : (((rd_T38 x473002_2 x30_3).f0) != 3) = false := bne_eq_false_iff_eq.mpr c30
             clear c30
             have H' := Aside0.mk H
             clear H
             have hcz31_0 : wr.cell? ⟨gb472, 0, none⟩ = some (.int .i64 x473000_2) := (blk_cell BK472.out 0).trans rfl
             have hcz31_1 : wr.cell? ⟨gb472, 1, none⟩ = some (.slice Ao24 x473001_2.length co24) := (blk_cell BK472.out 1).trans rfl
             have hcz31_2 : wr.cell? ⟨gb472, 2, none⟩ = some (.slice Ao25 x473002_2.length co25) := (blk_cell BK472.out 2).trans rfl
             have hcz31_3 : wr.cell? ⟨gb472, 3, none⟩ = some (.bool x473003_2) := (blk_cell BK472.out 3).trans rfl
             have hfz31_0 := blk_frozen BK472.out 0
             have hfz31_1 := blk_frozen BK472.out 1
             have hfz31_2 := blk_frozen BK472.out 2
             have hfz31_3 := blk_frozen BK472.out 3
             have p512 : 0 ≤ (x30_3 : Int) := of_decide_eq_true (by first | (with_reducible assumption) | assumption)
             have q512 : x30_3 < (x473002_2.length : Int) := of_decide_eq_true (by first | (with_reducible assumption) | assumption)
             obtain ⟨ad512, e512, hx512_0, hx512_1, hx512_2⟩ := at_T38 (Kd.R_reads' HO_473002.out).2.2 x30_3 p512 q512
             cases e512
             replace p512 := eq_true p512
             replace q512 := eq_true q512
             go_wp2
             go_roundg k3
             case measure => have := HJ9.out; have := HK2.out; have := HK3.out; omega
             case rel => exact ⟨(wrap64 (x30_3 + 1)), (by first | rfl | (simp; done) | (simp [*]; done)), H', ⟨by have := HJ9.out; have := HK2.out; have := HK3.out; omega⟩, ⟨by (with_reducible repeat (first | apply Kd.R_alloc | apply Kd.R_drewN | apply Kd.R_drew)); exact HO_473001.out⟩, ⟨by (with_reducible repeat (first | apply Kd.R_alloc | apply Kd.R_drewN | apply Kd.R_drew)); exact HO_473002.out⟩, ⟨by (with_reducible repeat (first | refine blk_drewN ?_ _ | refine blk_drew ?_ | refine blk_alloc ?_ _)); exact BK472.out⟩, ⟨by repeat (first | (with_reducible first | exact HB.out | apply below_alloc | apply pw_below_drewN | apply below_drew1 | refine below_set ?_ GE472.out) | exact HB.out)⟩⟩
            ·rw [if_neg c30] at H
             have c30b0 : (((rd_T38 x473002_2 x30_3).f0) == 3) = false := beq_eq_false_iff_ne.mpr c30
             have c30b1 : (((rd_T38 x473002_2 x30_3).f0) != 3) = true := bne_iff_ne.mpr c30
             obtain rfl := Option.some.inj H
             have hcz32_0 : wr.cell? ⟨gb472, 0, none⟩ = some (.int .i64 x473000_2) := (blk_cell BK472.out 0).trans rfl
             have hcz32_1 : wr.cell? ⟨gb472, 1, none⟩ = some (.slice Ao24 x473001_2.length co24) := (blk_cell BK472.out 1).trans rfl
             have hcz32_2 : wr.cell? ⟨gb472, 2, none⟩ = some (.slice Ao25 x473002_2.length co25) := (blk_cell BK472.out 2).trans rfl
             have hcz32_3 : wr.cell? ⟨gb472, 3, none⟩ = some (.bool x473003_2) := (blk_cell BK472.out 3).trans rfl
             have hfz32_0 := blk_frozen BK472.out 0
             have hfz32_1 := blk_frozen BK472.out 1
             have hfz32_2 := blk_frozen BK472.out 2
             have hfz32_3 := blk_frozen BK472.out 3
             have p512 : 0 ≤ (x30_3 : Int) := of_decide_eq_true (by first | (with_reducible assumption) | assumption)
             have q512 : x30_3 < (x473002_2.length : Int) := of_decide_eq_true (by first | (with_reducible assumption) | assumption)
             obtain ⟨ad512, e512, hx512_0, hx512_1, hx512_2⟩ := at_T38 (Kd.R_reads' HO_473002.out).2.2 x30_3 p512 q512
             cases e512
             replace p512 := eq_true p512
             replace q512 := eq_true q512
             go_wp2
             go_ret
             exact ⟨by first | rfl | (simp [errW_none, errW_some] <;> rfl) | (simp [*, errW_none, errW_some] <;> rfl), by repeat (first | (with_reducible first | exact HB.out | apply below_alloc | apply pw_below_drewN | apply below_drew1 | refine below_set ?_ GE472.out) | exact HB.out)⟩
           ·rw [if_neg c29] at H
            exact absurd H (by simp)
          ·rw [if_neg c28] at H
           exact absurd H (by simp)
         ·rw [if_neg c27] at H
          have c27b0 : decide (x30_3 < t461) = false := decide_eq_false c27
          clear c27
          replace H := Option.bind_eq_some_iff.mp H
          obtain ⟨⟨t513, t514⟩, A330, H⟩ := H
          replace H : (if x473003_2 = true then (some false) else (if t513 ≤ (wrap64 ((wrap64 (t460 + t461)) + t514)) then (some (decide (x17_2 ≤ (wrap64 ((wrap64 ((wrap64 (t460 + t461)) + t514)) + x16_2))))) else (some false))) = some r := H
          have A33 := Aside0.mk A330
          clear A330
          by_cases c34 : x473003_2 = true
          ·subst c34
           have H1 : (some false) = some r := by rw [if_pos rfl] at H; exact H
           clear H
           have H := H1
           clear H1
           obtain rfl := Option.some.inj H
           have hcz35_0 : wr.cell? ⟨gb472, 0, none⟩ = some (.int .i64 x473000_2) := (blk_cell BK472.out 0).trans rfl
           have hcz35_1 : wr.cell? ⟨gb472, 1, none⟩ = some (.slice Ao24 x473001_2.length co24) := (blk_cell BK472.out 1).trans rfl
           have hcz35_2 : wr.cell? ⟨gb472, 2, none⟩ = some (.slice Ao25 x473002_2.length co25) := (blk_cell BK472.out 2).trans rfl
           have hcz35_3 : wr.cell? ⟨gb472, 3, none⟩ = some (.bool true) := (blk_cell BK472.out 3).trans rfl
           have hfz35_0 := blk_frozen BK472.out 0
           have hfz35_1 := blk_frozen BK472.out 1
           have hfz35_2 := blk_frozen BK472.out 2
           have hfz35_3 := blk_frozen BK472.out 3
           go_wp2_with (first | ((with_reducible refine gate_callee (f := 12) rfl ?_); refine goesL_ (some 191) rfl rfl Tryd.func12 (by kernel_rfl) rfl #[.agg #[.int .i64 x473000_2, .slice Ao24 x473001_2.length co24, .slice Ao25 x473002_2.length co25, .bool true]] rfl (by (try simp only [List.map_toArray, List.map_cons, List.map_nil]); first | done | rfl | (simp only [List.length_drop, List.length_take]; rfl)) ?_; (with_reducible refine (ledger_Begun.calls x473000_2 _ _ x473001_2 _ _ x473002_2 true t513 t514 _ ?side1 ?side2 ?side3 ?side4 A33.out (Tab.below HTAB.out (by repeat (first | (with_reducible first | exact HB.out | apply below_alloc | apply pw_below_drewN | apply below_drew1 | refine below_set ?_ GE472.out) | exact HB.out)))).mono ?_); (case side1 => repeat (first | exact (Kd.R_reads' HO_473001.out).2.2 | (with_reducible refine Kd.C_alloc ?_ _) | (with_reducible refine Kd.C_drewN ?_ _) | (with_reducible refine Kd.C_drew ?_))); (case side2 => exact (Kd.R_reads' HO_473001.out).2.1); (case side3 => repeat (first | exact (Kd.R_reads' HO_473002.out).2.2 | (with_reducible refine Kd.C_alloc ?_ _) | (with_reducible refine Kd.C_drewN ?_ _) | (with_reducible refine Kd.C_drew ?_))); (case side4 => exact (Kd.R_reads' HO_473002.out).2.1); rintro e w36 ⟨rfl, hb⟩; refine ⟨_, rfl, ?_⟩; have n0_ := Aside0.mk (Kd.R_below (by (with_reducible repeat (first | apply Kd.R_alloc | apply Kd.R_drewN | apply Kd.R_drew)); exact HO_473001.out) hb); have n1_ := Aside0.mk (Kd.R_below (by (with_reducible repeat (first | apply Kd.R_alloc | apply Kd.R_drewN | apply Kd.R_drew)); exact HO_473002.out) hb); have n2_ := Aside0.mk (blk_below (g := gb472) (o := .cells #[.int .i64 x473000_2, .slice Ao24 x473001_2.length co24, .slice Ao25 x473002_2.length co25, .bool true] 24 (0, 0)) (by (with_reducible repeat (first | refine blk_drewN ?_ _ | refine blk_drew ?_ | refine blk_alloc ?_ _)); exact BK472.out) hb); have n3_ := Aside0.mk (below_step (by repeat (first | (with_reducible first | exact HB.out | apply below_alloc | apply pw_below_drewN | apply below_drew1 | refine below_set ?_ GE472.out) | exact HB.out)) hb); clear HO_473001; clear HO_473002; clear BK472; clear HB; have HO_473001 := n0_; have HO_473002 := n1_; have BK472 := n2_; have HB := n3_; clear n0_ n1_ n2_ n3_; (try clear hb); (try clear hb2); (try clear hk); (try clear hi); have hcz37_0 : w36.cell? ⟨gb472, 0, none⟩ = some (.int .i64 x473000_2) := (blk_cell BK472.out 0).trans rfl; have hcz37_1 : w36.cell? ⟨gb472, 1, none⟩ = some (.slice Ao24 x473001_2.length co24) := (blk_cell BK472.out 1).trans rfl; have hcz37_2 : w36.cell? ⟨gb472, 2, none⟩ = some (.slice Ao25 x473002_2.length co25) := (blk_cell BK472.out 2).trans rfl; have hcz37_3 : w36.cell? ⟨gb472, 3, none⟩ = some (.bool true) := (blk_cell BK472.out 3).trans rfl; have hfz37_0 := blk_frozen BK472.out 0; have hfz37_1 := blk_frozen BK472.out 1; have hfz37_2 := blk_frozen BK472.out 2; have hfz37_3 := blk_frozen BK472.out 3))
           go_ret
           exact ⟨by first | rfl | (simp [errW_none, errW_some] <;> rfl) | (simp [*, errW_none, errW_some] <;> rfl), by repeat (first | (with_reducible first | exact HB.out | apply below_alloc | apply pw_below_drewN | apply below_drew1 | refine below_set ?_ GE472.out) | exact HB.out)⟩
          ·replace c34 := Bool.eq_false_iff.mpr c34
           subst c34
           have H1 : (if t513 ≤ (wrap64 ((wrap64 (t460 + t461)) + t514)) then (some (decide (x17_2 ≤ (wrap64 ((wrap64 ((wrap64 (t460 + t461)) + t514)) + x16_2))))) else (some false)) = some r := by rw [if_neg (show ¬ (false = true) by decide)] at H; exact H
           clear H
           have H := H1
           clear H1
           by_cases c38 : t513 ≤ (wrap64 ((wrap64 (t460 + t461)) + t514))
           ·rw [if_pos c38] at H
            have c38b0 : decide (t513 ≤ (wrap64 ((wrap64 (t460 + t461)) + t514))) = true := decide_eq_true c38
            clear c38
            obtain rfl := Option.some.inj H
            have hcz39_0 : wr.cell? ⟨gb472, 0, none⟩ = some (.int .i64 x473000_2) := (blk_cell BK472.out 0).trans rfl
            have hcz39_1 : wr.cell? ⟨gb472, 1, none⟩ = some (.slice Ao24 x473001_2.length co24) := (blk_cell BK472.out 1).trans rfl
            have hcz39_2 : wr.cell? ⟨gb472, 2, none⟩ = some (.slice Ao25 x473002_2.length co25) := (blk_cell BK472.out 2).trans rfl
            have hcz39_3 : wr.cell? ⟨gb472, 3, none⟩ = some (.bool false) := (blk_cell BK472.out 3).trans rfl
            have hfz39_0 := blk_frozen BK472.out 0
            have hfz39_1 := blk_frozen BK472.out 1
            have hfz39_2 := blk_frozen BK472.out 2
            have hfz39_3 := blk_frozen BK472.out 3
            go_wp2_with (first | ((with_reducible refine gate_callee (f := 12) rfl ?_); refine goesL_ (some 191) rfl rfl Tryd.func12 (by kernel_rfl) rfl #[.agg #[.int .i64 x473000_2, .slice Ao24 x473001_2.length co24, .slice Ao25 x473002_2.length co25, .bool false]] rfl (by (try simp only [List.map_toArray, List.map_cons, List.map_nil]); first | done | rfl | (simp only [List.length_drop, List.length_take]; rfl)) ?_; (with_reducible refine (ledger_Begun.calls x473000_2 _ _ x473001_2 _ _ x473002_2 false t513 t514 _ ?side1 ?side2 ?side3 ?side4 A33.out (Tab.below HTAB.out (by repeat (first | (with_reducible first | exact HB.out | apply below_alloc | apply pw_below_drewN | apply below_drew1 | refine below_set ?_ GE472.out) | exact HB.out)))).mono ?_); (case side1 => repeat (first | exact (Kd.R_reads' HO_473001.out).2.2 | (with_reducible refine Kd.C_alloc ?_ _) | (with_reducible refine Kd.C_drewN ?_ _) | (with_reducible refine Kd.C_drew ?_))); (case side2 => exact (Kd.R_reads' HO_473001.out).2.1); (case side3 => repeat (first | exact (Kd.R_reads' HO_473002.out).2.2 | (with_reducible refine Kd.C_alloc ?_ _) | (with_reducible refine Kd.C_drewN ?_ _) | (with_reducible refine Kd.C_drew ?_))); (case side4 => exact (Kd.R_reads' HO_473002.out).2.1); rintro e w40 ⟨rfl, hb⟩; refine ⟨_, rfl, ?_⟩; have n0_ := Aside0.mk (Kd.R_below (by (with_reducible repeat (first | apply Kd.R_alloc | apply Kd.R_drewN | apply Kd.R_drew)); exact HO_473001.out) hb); have n1_ := Aside0.mk (Kd.R_below (by (with_reducible repeat (first | apply Kd.R_alloc | apply Kd.R_drewN | apply Kd.R_drew)); exact HO_473002.out) hb); have n2_ := Aside0.mk (blk_below (g := gb472) (o := .cells #[.int .i64 x473000_2, .slice Ao24 x473001_2.length co24, .slice Ao25 x473002_2.length co25, .bool false] 24 (0, 0)) (by (with_reducible repeat (first | refine blk_drewN ?_ _ | refine blk_drew ?_ | refine blk_alloc ?_ _)); exact BK472.out) hb); have n3_ := Aside0.mk (below_step (by repeat (first | (with_reducible first | exact HB.out | apply below_alloc | apply pw_below_drewN | apply below_drew1 | refine below_set ?_ GE472.out) | exact HB.out)) hb); clear HO_473001; clear HO_473002; clear BK472; clear HB; have HO_473001 := n0_; have HO_473002 := n1_; have BK472 := n2_; have HB := n3_; clear n0_ n1_ n2_ n3_; (try clear hb); (try clear hb2); (try clear hk); (try clear hi); have hcz41_0 : w40.cell? ⟨gb472, 0, none⟩ = some (.int .i64 x473000_2) := (blk_cell BK472.out 0).trans rfl; have hcz41_1 : w40.cell? ⟨gb472, 1, none⟩ = some (.slice Ao24 x473001_2.length co24) := (blk_cell BK472.out 1).trans rfl; have hcz41_2 : w40.cell? ⟨gb472, 2, none⟩ = some (.slice Ao25 x473002_2.length co25) := (blk_cell BK472.out 2).trans rfl; have hcz41_3 : w40.cell? ⟨gb472, 3, none⟩ = some (.bool false) := (blk_cell BK472.out 3).trans rfl; have hfz41_0 := blk_frozen BK472.out 0; have hfz41_1 := blk_frozen BK472.out 1; have hfz41_2 := blk_frozen BK472.out 2; have hfz41_3 := blk_frozen BK472.out 3))
            go_ret
            exact ⟨by first | rfl | (simp [errW_none, errW_some] <;> rfl) | (simp [*, errW_none, errW_some] <;> rfl), by repeat (first | (with_reducible first | exact HB.out | apply below_alloc | apply pw_below_drewN | apply below_drew1 | refine below_set ?_ GE472.out) | exact HB.out)⟩
           ·rw [if_neg c38] at H
            have c38b0 : decide (t513 ≤ (wrap64 ((wrap64 (t460 + t461)) + t514))) = false := decide_eq_false c38
            clear c38
            obtain rfl := Option.some.inj H
            have hcz42_0 : wr.cell? ⟨gb472, 0, none⟩ = some (.int .i64 x473000_2) := (blk_cell BK472.out 0).trans rfl
            have hcz42_1 : wr.cell? ⟨gb472, 1, none⟩ = some (.slice Ao24 x473001_2.length co24) := (blk_cell BK472.out 1).trans rfl
            have hcz42_2 : wr.cell? ⟨gb472, 2, none⟩ = some (.slice Ao25 x473002_2.length co25) := (blk_cell BK472.out 2).trans rfl
            have hcz42_3 : wr.cell? ⟨gb472, 3, none⟩ = some (.bool false) := (blk_cell BK472.out 3).trans rfl
            have hfz42_0 := blk_frozen BK472.out 0
            have hfz42_1 := blk_frozen BK472.out 1
            have hfz42_2 := blk_frozen BK472.out 2
            have hfz42_3 := blk_frozen BK472.out 3
            go_wp2_with (first | ((with_reducible refine gate_callee (f := 12) rfl ?_); refine goesL_ (some 191) rfl rfl Tryd.func12 (by kernel_rfl) rfl #[.agg #[.int .i64 x473000_2, .slice Ao24 x473001_2.length co24, .slice Ao25 x473002_2.length co25, .bool false]] rfl (by (try simp only [List.map_toArray, List.map_cons, List.map_nil]); first | done | rfl | (simp only [List.length_drop, List.length_take]; rfl)) ?_; (with_reducible refine (ledger_Begun.calls x473000_2 _ _ x473001_2 _ _ x473002_2 false t513 t514 _ ?side1 ?side2 ?side3 ?side4 A33.out (Tab.below HTAB.out (by repeat (first | (with_reducible first | exact HB.out | apply below_alloc | apply pw_below_drewN | apply below_drew1 | refine below_set ?_ GE472.out) | exact HB.out)))).mono ?_); (case side1 => repeat (first | exact (Kd.R_reads' HO_473001.out).2.2 | (with_reducible refine Kd.C_alloc ?_ _) | (with_reducible refine Kd.C_drewN ?_ _) | (with_reducible refine Kd.C_drew ?_))); (case side2 => exact (Kd.R_reads' HO_473001.out).2.1); (case side3 => repeat (first | exact (Kd.R_reads' HO_473002.out).2.2 | (with_reducible refine Kd.C_alloc ?_ _) | (with_reducible refine Kd.C_drewN ?_ _) | (with_reducible refine Kd.C_drew ?_))); (case side4 => exact (Kd.R_reads' HO_473002.out).2.1); rintro e w43 ⟨rfl, hb⟩; refine ⟨_, rfl, ?_⟩; have n0_ := Aside0.mk (Kd.R_below (by (with_reducible repeat (first | apply Kd.R_alloc | apply Kd.R_drewN | apply Kd.R_drew)); exact HO_473001.out) hb); have n1_ := Aside0.mk (Kd.R_below (by (with_reducible repeat (first | apply Kd.R_alloc | apply Kd.R_drewN | apply Kd.R_drew)); exact HO_473002.out) hb); have n2_ := Aside0.mk (blk_below (g := gb472) (o := .cells #[.int .i64 x473000_2, .slice Ao24 x473001_2.length co24, .slice Ao25 x473002_2.length co25, .bool false] 24 (0, 0)) (by (with_reducible repeat (first | refine blk_drewN ?_ _ | refine blk_drew ?_ | refine blk_alloc ?_ _)); exact BK472.out) hb); have n3_ := Aside0.mk (below_step (by repeat (first | (with_reducible first | exact HB.out | apply below_alloc | apply pw_below_drewN | apply below_drew1 | refine below_set ?_ GE472.out) | exact HB.out)) hb); clear HO_473001; clear HO_473002; clear BK472; clear HB; have HO_473001 := n0_; have HO_473002 := n1_; have BK472 := n2_; have HB := n3_; clear n0_ n1_ n2_ n3_; (try clear hb); (try clear hb2); (try clear hk); (try clear hi); have hcz44_0 : w43.cell? ⟨gb472, 0, none⟩ = some (.int .i64 x473000_2) := (blk_cell BK472.out 0).trans rfl; have hcz44_1 : w43.cell? ⟨gb472, 1, none⟩ = some (.slice Ao24 x473001_2.length co24) := (blk_cell BK472.out 1).trans rfl; have hcz44_2 : w43.cell? ⟨gb472, 2, none⟩ = some (.slice Ao25 x473002_2.length co25) := (blk_cell BK472.out 2).trans rfl; have hcz44_3 : w43.cell? ⟨gb472, 3, none⟩ = some (.bool false) := (blk_cell BK472.out 3).trans rfl; have hfz44_0 := blk_frozen BK472.out 0; have hfz44_1 := blk_frozen BK472.out 1; have hfz44_2 := blk_frozen BK472.out 2; have hfz44_3 := blk_frozen BK472.out 3))
            go_ret
            exact ⟨by first | rfl | (simp [errW_none, errW_some] <;> rfl) | (simp [*, errW_none, errW_some] <;> rfl), by repeat (first | (with_reducible first | exact HB.out | apply below_alloc | apply pw_below_drewN | apply below_drew1 | refine below_set ?_ GE472.out) | exact HB.out)⟩
      ·replace c22 := Bool.eq_false_iff.mpr c22
       subst c22
       have H1 : ((ledger_Ready.f k2 x473000_2 x473001_2 x473002_2 x473003_2).bind fun t475 => ((ledger_Begun.f x473000_2 x473001_2 x473002_2 x473003_2).bind fun bt478 => (if (t475.length : Int) = 0 then (winnowlaw19_LedgerComes.j2 k2 l3 l4 t460 t461 t462 x16_2 x17_2 t475 true x473000_2 x473001_2 x473002_2 x473003_2) else (winnowlaw19_LedgerComes.j2 k2 l3 l4 t460 t461 t462 x16_2 x17_2 t475 (decide (x17_2 > (wrap64 ((wrap64 ((wrap64 (t460 + t461)) + bt478.2)) + x16_2)))) x473000_2 x473001_2 x473002_2 x473003_2)))) = some r := by rw [if_neg (show ¬ (false = true) by decide)] at H; exact H
       clear H
       have H := H1
       clear H1
       replace H := Option.bind_eq_some_iff.mp H
       obtain ⟨t475, A450, H⟩ := H
       replace H : ((ledger_Begun.f x473000_2 x473001_2 x473002_2 x473003_2).bind fun bt478 => (if (t475.length : Int) = 0 then (winnowlaw19_LedgerComes.j2 k2 l3 l4 t460 t461 t462 x16_2 x17_2 t475 true x473000_2 x473001_2 x473002_2 x473003_2) else (winnowlaw19_LedgerComes.j2 k2 l3 l4 t460 t461 t462 x16_2 x17_2 t475 (decide (x17_2 > (wrap64 ((wrap64 ((wrap64 (t460 + t461)) + bt478.2)) + x16_2)))) x473000_2 x473001_2 x473002_2 x473003_2))) = some r := H
       have A45 := Aside0.mk A450
       clear A450
       replace H := Option.bind_eq_some_iff.mp H
       obtain ⟨⟨t478, t479⟩, A460, H⟩ := H
       replace H : (if (t475.length : Int) = 0 then (winnowlaw19_LedgerComes.j2 k2 l3 l4 t460 t461 t462 x16_2 x17_2 t475 true x473000_2 x473001_2 x473002_2 x473003_2) else (winnowlaw19_LedgerComes.j2 k2 l3 l4 t460 t461 t462 x16_2 x17_2 t475 (decide (x17_2 > (wrap64 ((wrap64 ((wrap64 (t460 + t461)) + t479)) + x16_2)))) x473000_2 x473001_2 x473002_2 x473003_2)) = some r := H
       have A46 := Aside0.mk A460
       clear A460
       have HC47 := Aside0.mk H
       clear H
       have hcz48_0 : wr.cell? ⟨gb472, 0, none⟩ = some (.int .i64 x473000_2) := (blk_cell BK472.out 0).trans rfl
       have hcz48_1 : wr.cell? ⟨gb472, 1, none⟩ = some (u473001) := (blk_cell BK472.out 1).trans rfl
       have hcz48_2 : wr.cell? ⟨gb472, 2, none⟩ = some (u473002) := (blk_cell BK472.out 2).trans rfl
       have hcz48_3 : wr.cell? ⟨gb472, 3, none⟩ = some (.bool x473003_2) := (blk_cell BK472.out 3).trans rfl
       have hfz48_0 := blk_frozen BK472.out 0
       have hfz48_1 := blk_frozen BK472.out 1
       have hfz48_2 := blk_frozen BK472.out 2
       have hfz48_3 := blk_frozen BK472.out 3
       obtain ⟨Ao49, co49, eo49⟩ := Kd.R_slice HO_473001.out
       subst eo49
       obtain ⟨Ao50, co50, eo50⟩ := Kd.R_slice HO_473002.out
       subst eo50
       go_upto_region 13 with (first | ((with_reducible refine gate_callee (f := 18) rfl ?_); refine goesL_ (some 56) rfl rfl Tryd.func18 (by kernel_rfl) rfl #[.agg #[.int .i64 x473000_2, .slice Ao49 x473001_2.length co49, .slice Ao50 x473002_2.length co50, .bool x473003_2]] rfl (by (try simp only [List.map_toArray, List.map_cons, List.map_nil]); first | done | rfl | (simp only [List.length_drop, List.length_take]; rfl)) ?_; (with_reducible refine (ledger_Over.calls k2 x473000_2 _ _ x473001_2 _ _ x473002_2 x473003_2 false _ ?side1 ?side2 ?side3 ?side4 A21.out (Tab.below HTAB.out (by repeat (first | (with_reducible first | exact HB.out | apply below_alloc | apply pw_below_drewN | apply below_drew1 | refine below_set ?_ GE472.out) | exact HB.out)))).mono ?_); (case side1 => repeat (first | exact (Kd.R_reads' HO_473001.out).2.2 | (with_reducible refine Kd.C_alloc ?_ _) | (with_reducible refine Kd.C_drewN ?_ _) | (with_reducible refine Kd.C_drew ?_))); (case side2 => exact (Kd.R_reads' HO_473001.out).2.1); (case side3 => repeat (first | exact (Kd.R_reads' HO_473002.out).2.2 | (with_reducible refine Kd.C_alloc ?_ _) | (with_reducible refine Kd.C_drewN ?_ _) | (with_reducible refine Kd.C_drew ?_))); (case side4 => exact (Kd.R_reads' HO_473002.out).2.1); rintro e w51 ⟨rfl, hb⟩; refine ⟨_, rfl, ?_⟩; have n0_ := Aside0.mk (Kd.R_below (by (with_reducible repeat (first | apply Kd.R_alloc | apply Kd.R_drewN | apply Kd.R_drew)); exact HO_473001.out) hb); have n1_ := Aside0.mk (Kd.R_below (by (with_reducible repeat (first | apply Kd.R_alloc | apply Kd.R_drewN | apply Kd.R_drew)); exact HO_473002.out) hb); have n2_ := Aside0.mk (blk_below (g := gb472) (o := .cells #[.int .i64 x473000_2, .slice Ao49 x473001_2.length co49, .slice Ao50 x473002_2.length co50, .bool x473003_2] 24 (0, 0)) (by (with_reducible repeat (first | refine blk_drewN ?_ _ | refine blk_drew ?_ | refine blk_alloc ?_ _)); exact BK472.out) hb); have n3_ := Aside0.mk (below_step (by repeat (first | (with_reducible first | exact HB.out | apply below_alloc | apply pw_below_drewN | apply below_drew1 | refine below_set ?_ GE472.out) | exact HB.out)) hb); clear HO_473001; clear HO_473002; clear BK472; clear HB; have HO_473001 := n0_; have HO_473002 := n1_; have BK472 := n2_; have HB := n3_; clear n0_ n1_ n2_ n3_; (try clear hb); (try clear hb2); (try clear hk); (try clear hi); have hcz52_0 : w51.cell? ⟨gb472, 0, none⟩ = some (.int .i64 x473000_2) := (blk_cell BK472.out 0).trans rfl; have hcz52_1 : w51.cell? ⟨gb472, 1, none⟩ = some (.slice Ao49 x473001_2.length co49) := (blk_cell BK472.out 1).trans rfl; have hcz52_2 : w51.cell? ⟨gb472, 2, none⟩ = some (.slice Ao50 x473002_2.length co50) := (blk_cell BK472.out 2).trans rfl; have hcz52_3 : w51.cell? ⟨gb472, 3, none⟩ = some (.bool x473003_2) := (blk_cell BK472.out 3).trans rfl; have hfz52_0 := blk_frozen BK472.out 0; have hfz52_1 := blk_frozen BK472.out 1; have hfz52_2 := blk_frozen BK472.out 2; have hfz52_3 := blk_frozen BK472.out 3) | ((with_reducible refine gate_callee (f := 11) rfl ?_); refine goesL_ (some 61) rfl rfl Tryd.func11 (by kernel_rfl) rfl #[.agg #[.int .i64 x473000_2, .slice Ao49 x473001_2.length co49, .slice Ao50 x473002_2.length co50, .bool x473003_2]] rfl (by (try simp only [List.map_toArray, List.map_cons, List.map_nil]); first | done | rfl | (simp only [List.length_drop, List.length_take]; rfl)) ?_; (with_reducible refine (ledger_Ready.calls k2 x473000_2 _ _ x473001_2 _ _ x473002_2 x473003_2 t475 _ ?side1 ?side2 ?side3 ?side4 A45.out (Tab.below HTAB.out (by repeat (first | (with_reducible first | exact HB.out | apply below_alloc | apply pw_below_drewN | apply below_drew1 | refine below_set ?_ GE472.out) | exact HB.out)))).mono ?_); (case side1 => repeat (first | exact (Kd.R_reads' HO_473001.out).2.2 | (with_reducible refine Kd.C_alloc ?_ _) | (with_reducible refine Kd.C_drewN ?_ _) | (with_reducible refine Kd.C_drew ?_))); (case side2 => exact (Kd.R_reads' HO_473001.out).2.1); (case side3 => repeat (first | exact (Kd.R_reads' HO_473002.out).2.2 | (with_reducible refine Kd.C_alloc ?_ _) | (with_reducible refine Kd.C_drewN ?_ _) | (with_reducible refine Kd.C_drew ?_))); (case side4 => exact (Kd.R_reads' HO_473002.out).2.1); rintro e w53 ⟨v476, rfl, ho0, hb⟩; refine ⟨_, rfl, ?_⟩; have n0_ := Aside0.mk (Kd.R_below (by (with_reducible repeat (first | apply Kd.R_alloc | apply Kd.R_drewN | apply Kd.R_drew)); exact HO_473001.out) hb); have n1_ := Aside0.mk (Kd.R_below (by (with_reducible repeat (first | apply Kd.R_alloc | apply Kd.R_drewN | apply Kd.R_drew)); exact HO_473002.out) hb); have n2_ := Aside0.mk (Kd.R_lower ho0 (below_size (by repeat (first | (with_reducible first | exact HB.out | apply below_alloc | apply pw_below_drewN | apply below_drew1 | refine below_set ?_ GE472.out) | exact HB.out)))); have n3_ := Aside0.mk (blk_below (g := gb472) (o := .cells #[.int .i64 x473000_2, .slice Ao49 x473001_2.length co49, .slice Ao50 x473002_2.length co50, .bool x473003_2] 24 (0, 0)) (by (with_reducible repeat (first | refine blk_drewN ?_ _ | refine blk_drew ?_ | refine blk_alloc ?_ _)); exact BK472.out) hb); have n4_ := Aside0.mk (below_step (by repeat (first | (with_reducible first | exact HB.out | apply below_alloc | apply pw_below_drewN | apply below_drew1 | refine below_set ?_ GE472.out) | exact HB.out)) hb); clear HO_473001; clear HO_473002; clear BK472; clear HB; have HO_473001 := n0_; have HO_473002 := n1_; have HO477 := n2_; have BK472 := n3_; have HB := n4_; clear n0_ n1_ n2_ n3_ n4_; (try clear hb); (try clear hb2); (try clear hk); (try clear hi); (try clear ho0); have hcz54_0 : w53.cell? ⟨gb472, 0, none⟩ = some (.int .i64 x473000_2) := (blk_cell BK472.out 0).trans rfl; have hcz54_1 : w53.cell? ⟨gb472, 1, none⟩ = some (.slice Ao49 x473001_2.length co49) := (blk_cell BK472.out 1).trans rfl; have hcz54_2 : w53.cell? ⟨gb472, 2, none⟩ = some (.slice Ao50 x473002_2.length co50) := (blk_cell BK472.out 2).trans rfl; have hcz54_3 : w53.cell? ⟨gb472, 3, none⟩ = some (.bool x473003_2) := (blk_cell BK472.out 3).trans rfl; have hfz54_0 := blk_frozen BK472.out 0; have hfz54_1 := blk_frozen BK472.out 1; have hfz54_2 := blk_frozen BK472.out 2; have hfz54_3 := blk_frozen BK472.out 3) | ((with_reducible refine gate_callee (f := 12) rfl ?_); refine goesL_ (some 64) rfl rfl Tryd.func12 (by kernel_rfl) rfl #[.agg #[.int .i64 x473000_2, .slice Ao49 x473001_2.length co49, .slice Ao50 x473002_2.length co50, .bool x473003_2]] rfl (by (try simp only [List.map_toArray, List.map_cons, List.map_nil]); first | done | rfl | (simp only [List.length_drop, List.length_take]; rfl)) ?_; (with_reducible refine (ledger_Begun.calls x473000_2 _ _ x473001_2 _ _ x473002_2 x473003_2 t478 t479 _ ?side1 ?side2 ?side3 ?side4 A46.out (Tab.below HTAB.out (by repeat (first | (with_reducible first | exact HB.out | apply below_alloc | apply pw_below_drewN | apply below_drew1 | refine below_set ?_ GE472.out) | exact HB.out)))).mono ?_); (case side1 => repeat (first | exact (Kd.R_reads' HO_473001.out).2.2 | (with_reducible refine Kd.C_alloc ?_ _) | (with_reducible refine Kd.C_drewN ?_ _) | (with_reducible refine Kd.C_drew ?_))); (case side2 => exact (Kd.R_reads' HO_473001.out).2.1); (case side3 => repeat (first | exact (Kd.R_reads' HO_473002.out).2.2 | (with_reducible refine Kd.C_alloc ?_ _) | (with_reducible refine Kd.C_drewN ?_ _) | (with_reducible refine Kd.C_drew ?_))); (case side4 => exact (Kd.R_reads' HO_473002.out).2.1); rintro e w55 ⟨rfl, hb⟩; refine ⟨_, rfl, ?_⟩; have n0_ := Aside0.mk (Kd.R_below (by (with_reducible repeat (first | apply Kd.R_alloc | apply Kd.R_drewN | apply Kd.R_drew)); exact HO_473001.out) hb); have n1_ := Aside0.mk (Kd.R_below (by (with_reducible repeat (first | apply Kd.R_alloc | apply Kd.R_drewN | apply Kd.R_drew)); exact HO_473002.out) hb); have n2_ := Aside0.mk (Kd.R_below (by (with_reducible repeat (first | apply Kd.R_alloc | apply Kd.R_drewN | apply Kd.R_drew)); exact HO477.out) hb); have n3_ := Aside0.mk (blk_below (g := gb472) (o := .cells #[.int .i64 x473000_2, .slice Ao49 x473001_2.length co49, .slice Ao50 x473002_2.length co50, .bool x473003_2] 24 (0, 0)) (by (with_reducible repeat (first | refine blk_drewN ?_ _ | refine blk_drew ?_ | refine blk_alloc ?_ _)); exact BK472.out) hb); have n4_ := Aside0.mk (below_step (by repeat (first | (with_reducible first | exact HB.out | apply below_alloc | apply pw_below_drewN | apply below_drew1 | refine below_set ?_ GE472.out) | exact HB.out)) hb); clear HO_473001; clear HO_473002; clear HO477; clear BK472; clear HB; have HO_473001 := n0_; have HO_473002 := n1_; have HO477 := n2_; have BK472 := n3_; have HB := n4_; clear n0_ n1_ n2_ n3_ n4_; (try clear hb); (try clear hb2); (try clear hk); (try clear hi)))
       (try simp only [Act.put, List.setIfInBounds_toArray, List.set_cons_zero, List.set_cons_succ])
       go_cut [80] (fun v80 wc => ∃ (kq : Nat) (x80_46 : Bool), v80 = .bool x80_46 ∧ Aside0 (winnowlaw19_LedgerComes.j2 kq l3 l4 t460 t461 t462 x16_2 x17_2 t475 x80_46 x473000_2 x473001_2 x473002_2 x473003_2 = some r) ∧ Aside0 (kq ≤ k2) ∧ Aside0 (Kd.R k29 29 wc w.heap.size (fun _ => True) v476 t475) ∧ Aside0 (Kd.R k38 38 wc w.heap.size (fun k_ => some k_ ≠ ((.slice Ao50 x473002_2.length co50) : Value).ownBlock) (.slice Ao49 x473001_2.length co49) x473001_2) ∧ Aside0 (Kd.R k38 38 wc w.heap.size (fun k_ => some k_ ≠ ((.slice Ao49 x473001_2.length co49) : Value).ownBlock) (.slice Ao50 x473002_2.length co50) x473002_2) ∧ Aside0 (wc.heap[gb472]? = some (.cells #[.int .i64 x473000_2, (.slice Ao49 x473001_2.length co49), (.slice Ao50 x473002_2.length co50), .bool x473003_2] 24 (0, 0))) ∧ Aside0 (Below w.heap.size w wc))
       case first => as_aux_lemma =>
        have H := HC47.out
        clear HC47
        by_cases c56 : (t475.length : Int) = 0
        ·rw [if_pos c56] at H
         have c56b0 : ((t475.length : Int) == 0) = true := beq_iff_eq.mpr c56
         have c56b1 : ((t475.length : Int) != 0) = false := bne_eq_false_iff_eq.mpr c56
         clear c56
         (first | rw [c56b0] | (simp only [i64_w, i32_w]; rw [c56b0]) | skip)
         have H' := Aside0.mk H
         clear H
         obtain ⟨Ao57, co57, eo57⟩ := Kd.R_slice HO477.out
         subst eo57
         go_wp2
         go_meet
         case rel => exact ⟨_, (true), (by first | rfl | (simp; done) | (simp [*]; done)), H', ⟨by have := HJ9.out; have := HK2.out; first | omega | exact Nat.le_refl _⟩, ⟨by (with_reducible repeat (first | apply Kd.R_alloc | apply Kd.R_drewN | apply Kd.R_drew)); exact HO477.out⟩, ⟨by (with_reducible repeat (first | apply Kd.R_alloc | apply Kd.R_drewN | apply Kd.R_drew)); exact HO_473001.out⟩, ⟨by (with_reducible repeat (first | apply Kd.R_alloc | apply Kd.R_drewN | apply Kd.R_drew)); exact HO_473002.out⟩, ⟨by (with_reducible repeat (first | refine blk_drewN ?_ _ | refine blk_drew ?_ | refine blk_alloc ?_ _)); exact BK472.out⟩, ⟨by repeat (first | (with_reducible first | exact HB.out | apply below_alloc | apply pw_below_drewN | apply below_drew1 | refine below_set ?_ GE472.out) | exact HB.out)⟩⟩
        ·rw [if_neg c56] at H
         have c56b0 : ((t475.length : Int) == 0) = false := beq_eq_false_iff_ne.mpr c56
         have c56b1 : ((t475.length : Int) != 0) = true := bne_iff_ne.mpr c56
         have c56b2 : ¬ (t475 = []) := fun h_ => c56 (by rw [h_]; rfl)
         (first | rw [c56b0] | (simp only [i64_w, i32_w]; rw [c56b0]) | skip)
         have H' := Aside0.mk H
         clear H
         obtain ⟨Ao58, co58, eo58⟩ := Kd.R_slice HO477.out
         subst eo58
         go_wp2
         go_meet
         case rel => exact ⟨_, (decide (x17_2 > (wrap64 ((wrap64 ((wrap64 (t460 + t461)) + t479)) + x16_2)))), (by first | rfl | (simp; done) | (simp [*]; done)), H', ⟨by have := HJ9.out; have := HK2.out; first | omega | exact Nat.le_refl _⟩, ⟨by (with_reducible repeat (first | apply Kd.R_alloc | apply Kd.R_drewN | apply Kd.R_drew)); exact HO477.out⟩, ⟨by (with_reducible repeat (first | apply Kd.R_alloc | apply Kd.R_drewN | apply Kd.R_drew)); exact HO_473001.out⟩, ⟨by (with_reducible repeat (first | apply Kd.R_alloc | apply Kd.R_drewN | apply Kd.R_drew)); exact HO_473002.out⟩, ⟨by (with_reducible repeat (first | refine blk_drewN ?_ _ | refine blk_drew ?_ | refine blk_alloc ?_ _)); exact BK472.out⟩, ⟨by repeat (first | (with_reducible first | exact HB.out | apply below_alloc | apply pw_below_drewN | apply below_drew1 | refine below_set ?_ GE472.out) | exact HB.out)⟩⟩
       case rest => as_aux_lemma =>
        clear HC47
        (try clear c1); (try clear c2); (try clear p2); (try clear c3); (try clear c4); (try clear c5); (try clear p5); (try clear q5); (try clear hx5); (try clear p6); (try clear c9); (try clear c11); (try clear c12); (try clear c16); (try clear c16b0); (try clear c16b1); (try clear c18); (try clear c20); (try clear c22); (try clear c27); (try clear c27b0); (try clear c28); (try clear c28b0); (try clear c29); (try clear c29b0); (try clear c30); (try clear c30b0); (try clear c30b1); (try clear c32); (try clear c33); (try clear c34); (try clear c38); (try clear c38b0); (try clear p51); (try clear q51); (try clear hx51); (try clear c56); (try clear c56b0); (try clear c56b1); (try clear c56b2); (try clear hcz13_0); (try clear hcz13_1); (try clear hcz13_2); (try clear hcz13_3); (try clear hcz18_0); (try clear hcz18_1); (try clear hcz18_2); (try clear hcz18_3); (try clear hcz23_0); (try clear hcz23_1); (try clear hcz23_2); (try clear hcz23_3); (try clear hcz31_0); (try clear hcz31_1); (try clear hcz31_2); (try clear hcz31_3); (try clear hcz32_0); (try clear hcz32_1); (try clear hcz32_2); (try clear hcz32_3); (try clear hcz35_0); (try clear hcz35_1); (try clear hcz35_2); (try clear hcz35_3); (try clear hcz37_0); (try clear hcz37_1); (try clear hcz37_2); (try clear hcz37_3); (try clear hcz39_0); (try clear hcz39_1); (try clear hcz39_2); (try clear hcz39_3); (try clear hcz41_0); (try clear hcz41_1); (try clear hcz41_2); (try clear hcz41_3); (try clear hcz42_0); (try clear hcz42_1); (try clear hcz42_2); (try clear hcz42_3); (try clear hcz44_0); (try clear hcz44_1); (try clear hcz44_2); (try clear hcz44_3); (try clear hcz48_0); (try clear hcz48_1); (try clear hcz48_2); (try clear hcz48_3); (try clear hcz52_0); (try clear hcz52_1); (try clear hcz52_2); (try clear hcz52_3); (try clear hcz54_0); (try clear hcz54_1); (try clear hcz54_2); (try clear hcz54_3); (try clear hfz13_0); (try clear hfz13_1); (try clear hfz13_2); (try clear hfz13_3); (try clear hfz18_0); (try clear hfz18_1)
        (try clear hfz18_2); (try clear hfz18_3); (try clear hfz23_0); (try clear hfz23_1); (try clear hfz23_2); (try clear hfz23_3); (try clear hfz31_0); (try clear hfz31_1); (try clear hfz31_2); (try clear hfz31_3); (try clear hfz32_0); (try clear hfz32_1); (try clear hfz32_2); (try clear hfz32_3); (try clear hfz35_0); (try clear hfz35_1); (try clear hfz35_2); (try clear hfz35_3); (try clear hfz37_0); (try clear hfz37_1); (try clear hfz37_2); (try clear hfz37_3); (try clear hfz39_0); (try clear hfz39_1); (try clear hfz39_2); (try clear hfz39_3); (try clear hfz41_0); (try clear hfz41_1); (try clear hfz41_2); (try clear hfz41_3); (try clear hfz42_0); (try clear hfz42_1); (try clear hfz42_2); (try clear hfz42_3); (try clear hfz44_0); (try clear hfz44_1); (try clear hfz44_2); (try clear hfz44_3); (try clear hfz48_0); (try clear hfz48_1); (try clear hfz48_2); (try clear hfz48_3); (try clear hfz52_0); (try clear hfz52_1); (try clear hfz52_2); (try clear hfz52_3); (try clear hfz54_0); (try clear hfz54_1); (try clear hfz54_2); (try clear hfz54_3); (try clear hx512_0); (try clear hx512_1); (try clear hx512_2); (try clear p2); (try clear p512); (try clear p6); (try clear q512)
        obtain ⟨kq, x80_46, rfl, HA, HJ46, HO_18, HO_473001, HO_473002, BK472, HB⟩ := hcut
        cases kq with
        | zero => exact absurd HA.out (by simp [winnowlaw19_LedgerComes.j2])
        | succ kj46 =>
         have H := HA.out
         clear HA
         simp only [winnowlaw19_LedgerComes.j2] at H
         by_cases c59 : x80_46 = true
         ·subst c59
          have H1 : (some false) = some r := by rw [if_pos rfl] at H; exact H
          clear H
          have H := H1
          clear H1
          obtain rfl := Option.some.inj H
          go_wp2
          go_ret
          exact ⟨by first | rfl | (simp [errW_none, errW_some] <;> rfl) | (simp [*, errW_none, errW_some] <;> rfl), by repeat (first | (with_reducible first | exact HB.out | apply below_alloc | apply pw_below_drewN | apply below_drew1 | refine below_set ?_ GE472.out) | exact HB.out)⟩
         ·replace c59 := Bool.eq_false_iff.mpr c59
          subst c59
          have H1 : (if x17_2 < (l3.length : Int) then (if 0 ≤ x17_2 then ((winnowlaw19_few.f (rd l3 x17_2) 0 (wrap64 ((t475.length : Int) - 1))).bind fun t481 => (winnowlaw19_LedgerComes.j3 kj46 l3 l4 t460 t461 t462 x16_2 x17_2 t475 t481 x473000_2 x473001_2 x473002_2 x473003_2)) else (none)) else (winnowlaw19_LedgerComes.j3 kj46 l3 l4 t460 t461 t462 x16_2 x17_2 t475 0 x473000_2 x473001_2 x473002_2 x473003_2)) = some r := by rw [if_neg (show ¬ (false = true) by decide)] at H; exact H
          clear H
          have H := H1
          clear H1
          have HC60 := Aside0.mk H
          clear H
          go_upto_if 84 with (fail)
          go_cut [21] (fun v21 wc => ∃ (kq : Nat) (x21_59 : Int), v21 = .int .i64 x21_59 ∧ Aside0 (winnowlaw19_LedgerComes.j3 kq l3 l4 t460 t461 t462 x16_2 x17_2 t475 x21_59 x473000_2 x473001_2 x473002_2 x473003_2 = some r) ∧ Aside0 (kq ≤ kj46) ∧ Aside0 (Kd.R k29 29 wc w.heap.size (fun _ => True) v476 t475) ∧ Aside0 (Kd.R k38 38 wc w.heap.size (fun k_ => some k_ ≠ ((.slice Ao50 x473002_2.length co50) : Value).ownBlock) (.slice Ao49 x473001_2.length co49) x473001_2) ∧ Aside0 (Kd.R k38 38 wc w.heap.size (fun k_ => some k_ ≠ ((.slice Ao49 x473001_2.length co49) : Value).ownBlock) (.slice Ao50 x473002_2.length co50) x473002_2) ∧ Aside0 (wc.heap[gb472]? = some (.cells #[.int .i64 x473000_2, (.slice Ao49 x473001_2.length co49), (.slice Ao50 x473002_2.length co50), .bool x473003_2] 24 (0, 0))) ∧ Aside0 (Below w.heap.size w wc))
          case first => as_aux_lemma =>
           have H := HC60.out
           clear HC60
           by_cases c61 : x17_2 < (l3.length : Int)
           ·rw [if_pos c61] at H
            have c61b0 : decide (x17_2 < (l3.length : Int)) = true := decide_eq_true c61
            clear c61
            (first | rw [c61b0] | (simp only [i64_w, i32_w]; rw [c61b0]) | skip)
            by_cases c62 : 0 ≤ x17_2
            ·rw [if_pos c62] at H
             have c62b0 : decide (0 ≤ x17_2) = true := decide_eq_true c62
             clear c62
             replace H := Option.bind_eq_some_iff.mp H
             obtain ⟨t481, A630, H⟩ := H
             replace H : (winnowlaw19_LedgerComes.j3 kj46 l3 l4 t460 t461 t462 x16_2 x17_2 t475 t481 x473000_2 x473001_2 x473002_2 x473003_2) = some r := H
             have A63 := Aside0.mk A630
             clear A630
             have H' := Aside0.mk H
             clear H
             have p480 : 0 ≤ (x17_2 : Int) := of_decide_eq_true (by first | (with_reducible assumption) | assumption)
             have q480 : x17_2 < (l3.length : Int) := of_decide_eq_true (by first | (with_reducible assumption) | assumption)
             obtain ⟨ad480, e480, hx480_0⟩ := Kd.at_int HR3.out x17_2 p480 q480
             cases e480
             replace hx480_0 := (HB.out.cell (World.block_lt_of_cell? w _ hx480_0)).trans hx480_0
             replace p480 := eq_true p480
             replace q480 := eq_true q480
             obtain ⟨Ao64, co64, eo64⟩ := Kd.R_slice HO_18.out
             subst eo64
             go_wp2_with (first | ((with_reducible refine gate_callee (f := 32) rfl ?_); refine goesL_ (some 92) rfl rfl Tryd.func32 (by kernel_rfl) rfl #[.int .i64 (rd l3 x17_2), .int .i64 0, .int .i64 (wrap64 ((t475.length : Int) - 1))] rfl (by (try simp only [List.map_toArray, List.map_cons, List.map_nil]); first | done | rfl | (simp only [List.length_drop, List.length_take]; rfl)) ?_; (with_reducible refine (winnowlaw19_few.calls (rd l3 x17_2) 0 (wrap64 ((t475.length : Int) - 1)) t481 _ A63.out).mono ?_); rintro e w' ⟨rfl, ⟨nd, rfl⟩⟩; refine ⟨_, rfl, ?_⟩))
             go_meet
             case rel => exact ⟨_, (t481), (by first | rfl | (simp; done) | (simp [*]; done)), H', ⟨by have := HJ9.out; have := HK2.out; have := HJ46.out; first | omega | exact Nat.le_refl _⟩, ⟨by (with_reducible repeat (first | apply Kd.R_alloc | apply Kd.R_drewN | apply Kd.R_drew)); exact HO_18.out⟩, ⟨by (with_reducible repeat (first | apply Kd.R_alloc | apply Kd.R_drewN | apply Kd.R_drew)); exact HO_473001.out⟩, ⟨by (with_reducible repeat (first | apply Kd.R_alloc | apply Kd.R_drewN | apply Kd.R_drew)); exact HO_473002.out⟩, ⟨by (with_reducible repeat (first | refine blk_drewN ?_ _ | refine blk_drew ?_ | refine blk_alloc ?_ _)); exact BK472.out⟩, ⟨by repeat (first | (with_reducible first | exact HB.out | apply below_alloc | apply pw_below_drewN | apply below_drew1 | refine below_set ?_ GE472.out) | exact HB.out)⟩⟩
            ·rw [if_neg c62] at H
             exact absurd H (by simp)
           ·rw [if_neg c61] at H
            have c61b0 : decide (x17_2 < (l3.length : Int)) = false := decide_eq_false c61
            clear c61
            (first | rw [c61b0] | (simp only [i64_w, i32_w]; rw [c61b0]) | skip)
            have H' := Aside0.mk H
            clear H
            go_wp2
            go_meet
            case rel => exact ⟨_, (0), (by first | rfl | (simp; done) | (simp [*]; done)), H', ⟨by have := HJ9.out; have := HK2.out; have := HJ46.out; first | omega | exact Nat.le_refl _⟩, ⟨by (with_reducible repeat (first | apply Kd.R_alloc | apply Kd.R_drewN | apply Kd.R_drew)); exact HO_18.out⟩, ⟨by (with_reducible repeat (first | apply Kd.R_alloc | apply Kd.R_drewN | apply Kd.R_drew)); exact HO_473001.out⟩, ⟨by (with_reducible repeat (first | apply Kd.R_alloc | apply Kd.R_drewN | apply Kd.R_drew)); exact HO_473002.out⟩, ⟨by (with_reducible repeat (first | refine blk_drewN ?_ _ | refine blk_drew ?_ | refine blk_alloc ?_ _)); exact BK472.out⟩, ⟨by repeat (first | (with_reducible first | exact HB.out | apply below_alloc | apply pw_below_drewN | apply below_drew1 | refine below_set ?_ GE472.out) | exact HB.out)⟩⟩
          case rest => as_aux_lemma =>
           clear HC60
           (try clear c1); (try clear c2); (try clear p2); (try clear c3); (try clear c4); (try clear p4); (try clear q4); (try clear hx4); (try clear c5); (try clear p5); (try clear q5); (try clear hx5); (try clear c6); (try clear p6); (try clear c9); (try clear c11); (try clear c12); (try clear c16); (try clear c16b0); (try clear c16b1); (try clear c18); (try clear c20); (try clear c22); (try clear c27); (try clear c27b0); (try clear c28); (try clear c28b0); (try clear c29); (try clear c29b0); (try clear c30); (try clear c30b0); (try clear c30b1); (try clear c32); (try clear c33); (try clear c34); (try clear c38); (try clear c38b0); (try clear p48); (try clear q48); (try clear hx48); (try clear p51); (try clear q51); (try clear hx51); (try clear c56); (try clear c56b0); (try clear c56b1); (try clear c56b2); (try clear c59); (try clear c61); (try clear c61b0); (try clear c62); (try clear c62b0); (try clear p64); (try clear hcz13_0); (try clear hcz13_1); (try clear hcz13_2); (try clear hcz13_3); (try clear hcz18_0); (try clear hcz18_1); (try clear hcz18_2); (try clear hcz18_3); (try clear hcz23_0); (try clear hcz23_1); (try clear hcz23_2); (try clear hcz23_3); (try clear hcz31_0); (try clear hcz31_1); (try clear hcz31_2); (try clear hcz31_3); (try clear hcz32_0); (try clear hcz32_1); (try clear hcz32_2); (try clear hcz32_3); (try clear hcz35_0); (try clear hcz35_1); (try clear hcz35_2); (try clear hcz35_3); (try clear hcz37_0); (try clear hcz37_1); (try clear hcz37_2); (try clear hcz37_3); (try clear hcz39_0); (try clear hcz39_1); (try clear hcz39_2); (try clear hcz39_3); (try clear hcz41_0); (try clear hcz41_1); (try clear hcz41_2); (try clear hcz41_3); (try clear hcz42_0); (try clear hcz42_1); (try clear hcz42_2); (try clear hcz42_3); (try clear hcz44_0); (try clear hcz44_1); (try clear hcz44_2); (try clear hcz44_3); (try clear hcz48_0); (try clear hcz48_1); (try clear hcz48_2); (try clear hcz48_3); (try clear hcz52_0); (try clear hcz52_1); (try clear hcz52_2); (try clear hcz52_3)
           (try clear hcz54_0); (try clear hcz54_1); (try clear hcz54_2); (try clear hcz54_3); (try clear hfz13_0); (try clear hfz13_1); (try clear hfz13_2); (try clear hfz13_3); (try clear hfz18_0); (try clear hfz18_1); (try clear hfz18_2); (try clear hfz18_3); (try clear hfz23_0); (try clear hfz23_1); (try clear hfz23_2); (try clear hfz23_3); (try clear hfz31_0); (try clear hfz31_1); (try clear hfz31_2); (try clear hfz31_3); (try clear hfz32_0); (try clear hfz32_1); (try clear hfz32_2); (try clear hfz32_3); (try clear hfz35_0); (try clear hfz35_1); (try clear hfz35_2); (try clear hfz35_3); (try clear hfz37_0); (try clear hfz37_1); (try clear hfz37_2); (try clear hfz37_3); (try clear hfz39_0); (try clear hfz39_1); (try clear hfz39_2); (try clear hfz39_3); (try clear hfz41_0); (try clear hfz41_1); (try clear hfz41_2); (try clear hfz41_3); (try clear hfz42_0); (try clear hfz42_1); (try clear hfz42_2); (try clear hfz42_3); (try clear hfz44_0); (try clear hfz44_1); (try clear hfz44_2); (try clear hfz44_3); (try clear hfz48_0); (try clear hfz48_1); (try clear hfz48_2); (try clear hfz48_3); (try clear hfz52_0); (try clear hfz52_1); (try clear hfz52_2); (try clear hfz52_3); (try clear hfz54_0); (try clear hfz54_1); (try clear hfz54_2); (try clear hfz54_3); (try clear hx480_0); (try clear hx512_0); (try clear hx512_1); (try clear hx512_2); (try clear p2); (try clear p480); (try clear p5); (try clear p51); (try clear p512); (try clear p6); (try clear q480); (try clear q5); (try clear q51); (try clear q512)
           obtain ⟨kq, x21_59, rfl, HA, HJ59, HO_18, HO_473001, HO_473002, BK472, HB⟩ := hcut
           cases kq with
           | zero => exact absurd HA.out (by simp [winnowlaw19_LedgerComes.j3])
           | succ kj59 =>
            have H := HA.out
            clear HA
            simp only [winnowlaw19_LedgerComes.j3] at H
            have HC65 := Aside0.mk H
            clear H
            go_upto_if 96 with (fail)
            go_cut [22] (fun v22 wc => ∃ (kq : Nat) (x22_64 : Int), v22 = .int .i64 x22_64 ∧ Aside0 (winnowlaw19_LedgerComes.j4 kq l3 l4 t460 t461 t462 x16_2 x17_2 t475 x21_59 x22_64 x473000_2 x473001_2 x473002_2 x473003_2 = some r) ∧ Aside0 (kq ≤ kj59) ∧ Aside0 (Kd.R k29 29 wc w.heap.size (fun _ => True) v476 t475) ∧ Aside0 (Kd.R k38 38 wc w.heap.size (fun k_ => some k_ ≠ ((.slice Ao50 x473002_2.length co50) : Value).ownBlock) (.slice Ao49 x473001_2.length co49) x473001_2) ∧ Aside0 (Kd.R k38 38 wc w.heap.size (fun k_ => some k_ ≠ ((.slice Ao49 x473001_2.length co49) : Value).ownBlock) (.slice Ao50 x473002_2.length co50) x473002_2) ∧ Aside0 (wc.heap[gb472]? = some (.cells #[.int .i64 x473000_2, (.slice Ao49 x473001_2.length co49), (.slice Ao50 x473002_2.length co50), .bool x473003_2] 24 (0, 0))) ∧ Aside0 (Below w.heap.size w wc))
            case first => as_aux_lemma =>
             have H := HC65.out
             clear HC65
             by_cases c66 : x17_2 < (l4.length : Int)
             ·rw [if_pos c66] at H
              have c66b0 : decide (x17_2 < (l4.length : Int)) = true := decide_eq_true c66
              clear c66
              (first | rw [c66b0] | (simp only [i64_w, i32_w]; rw [c66b0]) | skip)
              by_cases c67 : 0 ≤ x17_2
              ·rw [if_pos c67] at H
               have c67b0 : decide (0 ≤ x17_2) = true := decide_eq_true c67
               clear c67
               replace H := Option.bind_eq_some_iff.mp H
               obtain ⟨t483, A680, H⟩ := H
               replace H : (winnowlaw19_LedgerComes.j4 kj59 l3 l4 t460 t461 t462 x16_2 x17_2 t475 x21_59 t483 x473000_2 x473001_2 x473002_2 x473003_2) = some r := H
               have A68 := Aside0.mk A680
               clear A680
               have H' := Aside0.mk H
               clear H
               have p482 : 0 ≤ (x17_2 : Int) := of_decide_eq_true (by first | (with_reducible assumption) | assumption)
               have q482 : x17_2 < (l4.length : Int) := of_decide_eq_true (by first | (with_reducible assumption) | assumption)
               obtain ⟨ad482, e482, hx482_0⟩ := Kd.at_int HR4.out x17_2 p482 q482
               cases e482
               replace hx482_0 := (HB.out.cell (World.block_lt_of_cell? w _ hx482_0)).trans hx482_0
               replace p482 := eq_true p482
               replace q482 := eq_true q482
               go_wp2_with (first | ((with_reducible refine gate_callee (f := 32) rfl ?_); refine goesL_ (some 103) rfl rfl Tryd.func32 (by kernel_rfl) rfl #[.int .i64 (rd l4 x17_2), .int .i64 0, .int .i64 (wrap64 (2 + t460))] rfl (by (try simp only [List.map_toArray, List.map_cons, List.map_nil]); first | done | rfl | (simp only [List.length_drop, List.length_take]; rfl)) ?_; (with_reducible refine (winnowlaw19_few.calls (rd l4 x17_2) 0 (wrap64 (2 + t460)) t483 _ A68.out).mono ?_); rintro e w' ⟨rfl, ⟨nd, rfl⟩⟩; refine ⟨_, rfl, ?_⟩))
               go_meet
               case rel => exact ⟨_, (t483), (by first | rfl | (simp; done) | (simp [*]; done)), H', ⟨by have := HJ9.out; have := HK2.out; have := HJ46.out; have := HJ59.out; first | omega | exact Nat.le_refl _⟩, ⟨by (with_reducible repeat (first | apply Kd.R_alloc | apply Kd.R_drewN | apply Kd.R_drew)); exact HO_18.out⟩, ⟨by (with_reducible repeat (first | apply Kd.R_alloc | apply Kd.R_drewN | apply Kd.R_drew)); exact HO_473001.out⟩, ⟨by (with_reducible repeat (first | apply Kd.R_alloc | apply Kd.R_drewN | apply Kd.R_drew)); exact HO_473002.out⟩, ⟨by (with_reducible repeat (first | refine blk_drewN ?_ _ | refine blk_drew ?_ | refine blk_alloc ?_ _)); exact BK472.out⟩, ⟨by repeat (first | (with_reducible first | exact HB.out | apply below_alloc | apply pw_below_drewN | apply below_drew1 | refine below_set ?_ GE472.out) | exact HB.out)⟩⟩
              ·rw [if_neg c67] at H
               exact absurd H (by simp)
             ·rw [if_neg c66] at H
              have c66b0 : decide (x17_2 < (l4.length : Int)) = false := decide_eq_false c66
              clear c66
              (first | rw [c66b0] | (simp only [i64_w, i32_w]; rw [c66b0]) | skip)
              have H' := Aside0.mk H
              clear H
              go_wp2
              go_meet
              case rel => exact ⟨_, (0), (by first | rfl | (simp; done) | (simp [*]; done)), H', ⟨by have := HJ9.out; have := HK2.out; have := HJ46.out; have := HJ59.out; first | omega | exact Nat.le_refl _⟩, ⟨by (with_reducible repeat (first | apply Kd.R_alloc | apply Kd.R_drewN | apply Kd.R_drew)); exact HO_18.out⟩, ⟨by (with_reducible repeat (first | apply Kd.R_alloc | apply Kd.R_drewN | apply Kd.R_drew)); exact HO_473001.out⟩, ⟨by (with_reducible repeat (first | apply Kd.R_alloc | apply Kd.R_drewN | apply Kd.R_drew)); exact HO_473002.out⟩, ⟨by (with_reducible repeat (first | refine blk_drewN ?_ _ | refine blk_drew ?_ | refine blk_alloc ?_ _)); exact BK472.out⟩, ⟨by repeat (first | (with_reducible first | exact HB.out | apply below_alloc | apply pw_below_drewN | apply below_drew1 | refine below_set ?_ GE472.out) | exact HB.out)⟩⟩
            case rest => as_aux_lemma =>
             clear HC65
             (try clear c1); (try clear c2); (try clear p2); (try clear c3); (try clear c4); (try clear p4); (try clear q4); (try clear hx4); (try clear c5); (try clear p5); (try clear q5); (try clear hx5); (try clear c6); (try clear p6); (try clear c9); (try clear c11); (try clear c12); (try clear c16); (try clear c16b0); (try clear c16b1); (try clear c18); (try clear c20); (try clear c22); (try clear c27); (try clear c27b0); (try clear c28); (try clear c28b0); (try clear c29); (try clear c29b0); (try clear c30); (try clear c30b0); (try clear c30b1); (try clear c32); (try clear c33); (try clear c34); (try clear c38); (try clear c38b0); (try clear p48); (try clear q48); (try clear hx48); (try clear p51); (try clear q51); (try clear hx51); (try clear c56); (try clear c56b0); (try clear c56b1); (try clear c56b2); (try clear c59); (try clear c61); (try clear c61b0); (try clear c62); (try clear c62b0); (try clear p64); (try clear c66); (try clear c66b0); (try clear c67); (try clear c67b0); (try clear hcz13_0); (try clear hcz13_1); (try clear hcz13_2); (try clear hcz13_3); (try clear hcz18_0); (try clear hcz18_1); (try clear hcz18_2); (try clear hcz18_3); (try clear hcz23_0); (try clear hcz23_1); (try clear hcz23_2); (try clear hcz23_3); (try clear hcz31_0); (try clear hcz31_1); (try clear hcz31_2); (try clear hcz31_3); (try clear hcz32_0); (try clear hcz32_1); (try clear hcz32_2); (try clear hcz32_3); (try clear hcz35_0); (try clear hcz35_1); (try clear hcz35_2); (try clear hcz35_3); (try clear hcz37_0); (try clear hcz37_1); (try clear hcz37_2); (try clear hcz37_3); (try clear hcz39_0); (try clear hcz39_1); (try clear hcz39_2); (try clear hcz39_3); (try clear hcz41_0); (try clear hcz41_1); (try clear hcz41_2); (try clear hcz41_3); (try clear hcz42_0); (try clear hcz42_1); (try clear hcz42_2); (try clear hcz42_3); (try clear hcz44_0); (try clear hcz44_1); (try clear hcz44_2); (try clear hcz44_3); (try clear hcz48_0); (try clear hcz48_1); (try clear hcz48_2); (try clear hcz48_3)
             (try clear hcz52_0); (try clear hcz52_1); (try clear hcz52_2); (try clear hcz52_3); (try clear hcz54_0); (try clear hcz54_1); (try clear hcz54_2); (try clear hcz54_3); (try clear hfz13_0); (try clear hfz13_1); (try clear hfz13_2); (try clear hfz13_3); (try clear hfz18_0); (try clear hfz18_1); (try clear hfz18_2); (try clear hfz18_3); (try clear hfz23_0); (try clear hfz23_1); (try clear hfz23_2); (try clear hfz23_3); (try clear hfz31_0); (try clear hfz31_1); (try clear hfz31_2); (try clear hfz31_3); (try clear hfz32_0); (try clear hfz32_1); (try clear hfz32_2); (try clear hfz32_3); (try clear hfz35_0); (try clear hfz35_1); (try clear hfz35_2); (try clear hfz35_3); (try clear hfz37_0); (try clear hfz37_1); (try clear hfz37_2); (try clear hfz37_3); (try clear hfz39_0); (try clear hfz39_1); (try clear hfz39_2); (try clear hfz39_3); (try clear hfz41_0); (try clear hfz41_1); (try clear hfz41_2); (try clear hfz41_3); (try clear hfz42_0); (try clear hfz42_1); (try clear hfz42_2); (try clear hfz42_3); (try clear hfz44_0); (try clear hfz44_1); (try clear hfz44_2); (try clear hfz44_3); (try clear hfz48_0); (try clear hfz48_1); (try clear hfz48_2); (try clear hfz48_3); (try clear hfz52_0); (try clear hfz52_1); (try clear hfz52_2); (try clear hfz52_3); (try clear hfz54_0); (try clear hfz54_1); (try clear hfz54_2); (try clear hfz54_3); (try clear hx480_0); (try clear hx482_0); (try clear hx512_0); (try clear hx512_1); (try clear hx512_2); (try clear p2); (try clear p4); (try clear p48); (try clear p480); (try clear p482); (try clear p5); (try clear p51); (try clear p512); (try clear p6); (try clear p64); (try clear q4); (try clear q48); (try clear q480); (try clear q482); (try clear q5); (try clear q51); (try clear q512)
             obtain ⟨kq, x22_64, rfl, HA, HJ64, HO_18, HO_473001, HO_473002, BK472, HB⟩ := hcut
             cases kq with
             | zero => exact absurd HA.out (by simp [winnowlaw19_LedgerComes.j4])
             | succ kj64 =>
              have H := HA.out
              clear HA
              simp only [winnowlaw19_LedgerComes.j4] at H
              by_cases c69 : 0 ≤ x21_59
              ·rw [if_pos c69] at H
               have c69b0 : decide (0 ≤ x21_59) = true := decide_eq_true c69
               clear c69
               by_cases c70 : x21_59 < (t475.length : Int)
               ·rw [if_pos c70] at H
                have c70b0 : decide (x21_59 < (t475.length : Int)) = true := decide_eq_true c70
                clear c70
                replace H := Option.bind_eq_some_iff.mp H
                obtain ⟨⟨t486, t487, t490, t493, t494, t495, t496⟩, A710, H⟩ := H
                replace H : (if t496 = 0 then ((winnowlaw19_sized.f t486 t487 t490 t493 t460 t461).bind fun t498 => (if t498 = true then (if ((rd_T29 t475 x21_59).f1) < 0 then (winnowlaw19_LedgerComes.j5 kj64 l3 l4 t460 t461 t462 x16_2 x17_2 x22_64 true ((rd_T29 t475 x21_59).f0) ((rd_T29 t475 x21_59).f1) t486 t487 t490 t493) else (if ((rd_T29 t475 x21_59).f0) = 0 then (if ((rd_T29 t475 x21_59).f1) ≥ t460 then (winnowlaw19_LedgerComes.j5 kj64 l3 l4 t460 t461 t462 x16_2 x17_2 x22_64 true ((rd_T29 t475 x21_59).f0) ((rd_T29 t475 x21_59).f1) t486 t487 t490 t493) else (winnowlaw19_LedgerComes.j5 kj64 l3 l4 t460 t461 t462 x16_2 x17_2 x22_64 false ((rd_T29 t475 x21_59).f0) ((rd_T29 t475 x21_59).f1) t486 t487 t490 t493)) else (winnowlaw19_LedgerComes.j5 kj64 l3 l4 t460 t461 t462 x16_2 x17_2 x22_64 (decide (((rd_T29 t475 x21_59).f1) ≥ t461)) ((rd_T29 t475 x21_59).f0) ((rd_T29 t475 x21_59).f1) t486 t487 t490 t493))) else (winnowlaw19_LedgerComes.j5 kj64 l3 l4 t460 t461 t462 x16_2 x17_2 x22_64 true ((rd_T29 t475 x21_59).f0) ((rd_T29 t475 x21_59).f1) t486 t487 t490 t493))) else (winnowlaw19_LedgerComes.j5 kj64 l3 l4 t460 t461 t462 x16_2 x17_2 x22_64 true ((rd_T29 t475 x21_59).f0) ((rd_T29 t475 x21_59).f1) t486 t487 t490 t493)) = some r := H
                have A71 := Aside0.mk A710
                clear A710
                have HC72 := Aside0.mk H
                clear H
                obtain ⟨Ao73, co73, eo73⟩ := Kd.R_slice HO_18.out
                subst eo73
                have p484 : 0 ≤ (x21_59 : Int) := of_decide_eq_true (by first | (with_reducible assumption) | assumption)
                have q484 : x21_59 < (t475.length : Int) := of_decide_eq_true (by first | (with_reducible assumption) | assumption)
                obtain ⟨ad484, e484, hx484_0, hx484_1⟩ := at_T29 (Kd.R_reads' HO_18.out).2.2 x21_59 p484 q484
                cases e484
                replace p484 := eq_true p484
                replace q484 := eq_true q484
                go_upto_region 23 with (first | ((with_reducible refine gate_dst (N := 23) rfl ?_); refine box_event ?hg (N := 23) ?hd (cs := #[.int .i64 0, .int .i64 0]) (t := 29) ?hr ?_; (case hd => rfl); (case hg => rfl); (case hr => first | (go_simp; done) | (go_simp; rfl)); intro gb485 hg w74 hbox hb; have n0_ := Aside0.mk (Kd.R_below (Kd.R_elderB (by (with_reducible repeat (first | apply Kd.R_alloc | apply Kd.R_drewN | apply Kd.R_drew)); exact HO_18.out) gb485 (Nat.le_of_eq hg.symm)) hb); have n1_ := Aside0.mk (Kd.R_below (by (with_reducible repeat (first | apply Kd.R_alloc | apply Kd.R_drewN | apply Kd.R_drew)); exact HO_473001.out) hb); have n2_ := Aside0.mk (Kd.R_below (by (with_reducible repeat (first | apply Kd.R_alloc | apply Kd.R_drewN | apply Kd.R_drew)); exact HO_473002.out) hb); have n3_ := Aside0.mk (blk_below (g := gb472) (o := .cells #[.int .i64 x473000_2, .slice Ao49 x473001_2.length co49, .slice Ao50 x473002_2.length co50, .bool x473003_2] 24 (0, 0)) (by (with_reducible repeat (first | refine blk_drewN ?_ _ | refine blk_drew ?_ | refine blk_alloc ?_ _)); exact BK472.out) hb); have n4_ := Aside0.mk (below_step (by repeat (first | (with_reducible first | exact HB.out | apply below_alloc | apply pw_below_drewN | apply below_drew1 | refine below_set ?_ GE472.out) | exact HB.out)) hb); have n5_ := Aside0.mk (hbox); have n6_ := Aside0.mk ((by rw [hg]; exact (below_size (by repeat (first | (with_reducible first | exact HB.out | apply below_alloc | apply pw_below_drewN | apply below_drew1 | refine below_set ?_ GE472.out) | exact HB.out))) : w.heap.size ≤ gb485)); have n7_ := Aside0.mk ((by rw [hg]; exact (below_size (by repeat (first | (with_reducible first | exact HB.out | apply below_alloc | apply pw_below_drewN | apply below_drew1 | refine below_set ?_ GE472.out) | exact HB.out))) : w.heap.size ≤ gb485)); have n8_ := Aside0.mk ((by rw [hg]; exact Nat.ne_of_lt (blk_lt (g := gb472) (o := .cells #[.int .i64 x473000_2, .slice Ao49 x473001_2.length co49, .slice Ao50 x473002_2.length co50, .bool x473003_2] 24 (0, 0)) (by (with_reducible repeat (first | refine blk_drewN ?_ _ | refine blk_drew ?_ | refine blk_alloc ?_ _)); exact BK472.out)) : gb472 ≠ gb485)); have n9_ := Aside0.mk ((by rw [hg]; exact Nat.ne_of_gt (blk_lt (g := gb472) (o := .cells #[.int .i64 x473000_2, .slice Ao49 x473001_2.length co49, .slice Ao50 x473002_2.length co50, .bool x473003_2] 24 (0, 0)) (by (with_reducible repeat (first | refine blk_drewN ?_ _ | refine blk_drew ?_ | refine blk_alloc ?_ _)); exact BK472.out)) : gb485 ≠ gb472)); clear HO_18; clear HO_473001; clear HO_473002; clear BK472; clear HB; have HO_18 := n0_; have HO_473001 := n1_; have HO_473002 := n2_; have BK472 := n3_; have HB := n4_; have BK485 := n5_; have GW485 := n6_; have GE485 := n7_; have NB472_485 := n8_; have NB485_472 := n9_; clear n0_ n1_ n2_ n3_ n4_ n5_ n6_ n7_ n8_ n9_; clear hb hbox hg; have hnb75 := NB485_472.out; have hnc75 := NB472_485.out; have hcz76_0 : w74.cell? ⟨gb485, 0, none⟩ = some (.int .i64 0) := (blk_cell BK485.out 0).trans rfl; have hcz76_1 : w74.cell? ⟨gb485, 1, none⟩ = some (.int .i64 0) := (blk_cell BK485.out 1).trans rfl; have hfz76_0 := blk_frozen BK485.out 0; have hfz76_1 := blk_frozen BK485.out 1; have hcz77_0 : w74.cell? ⟨gb472, 0, none⟩ = some (.int .i64 x473000_2) := (blk_cell BK472.out 0).trans rfl; have hcz77_1 : w74.cell? ⟨gb472, 1, none⟩ = some (.slice Ao49 x473001_2.length co49) := (blk_cell BK472.out 1).trans rfl; have hcz77_2 : w74.cell? ⟨gb472, 2, none⟩ = some (.slice Ao50 x473002_2.length co50) := (blk_cell BK472.out 2).trans rfl; have hcz77_3 : w74.cell? ⟨gb472, 3, none⟩ = some (.bool x473003_2) := (blk_cell BK472.out 3).trans rfl; have hfz77_0 := blk_frozen BK472.out 0; have hfz77_1 := blk_frozen BK472.out 1; have hfz77_2 := blk_frozen BK472.out 2; have hfz77_3 := blk_frozen BK472.out 3) | ((with_reducible refine gate_callee (f := 28) rfl ?_); refine goesL_ (some 111) rfl rfl Tryd.func28 (by kernel_rfl) rfl #[.agg #[.int .i64 x473000_2, .slice Ao49 x473001_2.length co49, .slice Ao50 x473002_2.length co50, .bool x473003_2], .agg #[.int .i64 ((rd_T29 t475 x21_59).f0), .int .i64 ((rd_T29 t475 x21_59).f1)]] rfl (by (try simp only [List.map_toArray, List.map_cons, List.map_nil]); first | done | rfl | (simp only [List.length_drop, List.length_take]; rfl)) ?_; (with_reducible refine (ledger_Begin.calls x473000_2 _ _ x473001_2 _ _ x473002_2 x473003_2 ((rd_T29 t475 x21_59).f0) ((rd_T29 t475 x21_59).f1) t486 t487 t490 t493 t494 t495 t496 _ ?side1 ?side2 ?side3 ?side4 A71.out (Tab.below HTAB.out (by repeat (first | (with_reducible first | exact HB.out | apply below_alloc | apply pw_below_drewN | apply below_drew1 | refine below_set ?_ GE472.out | refine below_set ?_ GE485.out) | exact HB.out)))).mono ?_); (case side1 => refine (Kd.R_reads' (e := 38) (base := w.heap.size) (ok := fun k_ => some k_ ≠ (.slice Ao50 x473002_2.length co50 : Value).ownBlock) (n := x473001_2.length) (c := co49) ?_).2.2; exact (by (with_reducible repeat (first | apply Kd.R_alloc | apply Kd.R_drewN | apply Kd.R_drew)); exact (Kd.R_mono (Kd.R_far (p := ⟨gb485, 1, none⟩) (Kd.R_far (p := ⟨gb485, 0, none⟩) (Kd.R_types HO_473001.out BK485.out (by decide)) (fun _ hk => hk.2) (.int .i64 ((rd_T29 t475 x21_59).f0))) (fun _ hk => hk.2) (.int .i64 ((rd_T29 t475 x21_59).f1))) (fun _ h_ => h_.1)))); (case side2 => exact (Kd.R_reads' HO_473001.out).2.1); (case side3 => refine (Kd.R_reads' (e := 38) (base := w.heap.size) (ok := fun k_ => some k_ ≠ (.slice Ao49 x473001_2.length co49 : Value).ownBlock) (n := x473002_2.length) (c := co50) ?_).2.2; exact (by (with_reducible repeat (first | apply Kd.R_alloc | apply Kd.R_drewN | apply Kd.R_drew)); exact (Kd.R_mono (Kd.R_far (p := ⟨gb485, 1, none⟩) (Kd.R_far (p := ⟨gb485, 0, none⟩) (Kd.R_types HO_473002.out BK485.out (by decide)) (fun _ hk => hk.2) (.int .i64 ((rd_T29 t475 x21_59).f0))) (fun _ hk => hk.2) (.int .i64 ((rd_T29 t475 x21_59).f1))) (fun _ h_ => h_.1)))); (case side4 => exact (Kd.R_reads' HO_473002.out).2.1); rintro e w78 ⟨v488, v491, rfl, ho0, ho1, hb⟩; refine ⟨_, rfl, ?_⟩; have n0_ := Aside0.mk (Kd.R_below (by (with_reducible repeat (first | apply Kd.R_alloc | apply Kd.R_drewN | apply Kd.R_drew)); exact (Kd.R_mono (Kd.R_far (p := ⟨gb485, 1, none⟩) (Kd.R_far (p := ⟨gb485, 0, none⟩) (Kd.R_mono HO_18.out (fun k_ hk => (⟨hk, hk.2⟩ : _ ∧ k_ ≠ gb485))) (fun _ hk => hk.2) (.int .i64 ((rd_T29 t475 x21_59).f0))) (fun _ hk => hk.2) (.int .i64 ((rd_T29 t475 x21_59).f1))) (fun _ h_ => h_.1))) hb); have n1_ := Aside0.mk (Kd.R_mono (Kd.R_told (Kd.R_told (Kd.R_old (by (with_reducible repeat (first | apply Kd.R_alloc | apply Kd.R_drewN | apply Kd.R_drew)); exact (Kd.R_mono (Kd.R_far (p := ⟨gb485, 1, none⟩) (Kd.R_far (p := ⟨gb485, 0, none⟩) (Kd.R_types HO_473001.out BK485.out (by decide)) (fun _ hk => hk.2) (.int .i64 ((rd_T29 t475 x21_59).f0))) (fun _ hk => hk.2) (.int .i64 ((rd_T29 t475 x21_59).f1))) (fun _ h_ => h_.1))) hb) (Kd.R_base ho0)) (Kd.R_base ho1)) (fun _ h_ => h_.1)); have n2_ := Aside0.mk (Kd.R_mono (Kd.R_told (Kd.R_told (Kd.R_old (by (with_reducible repeat (first | apply Kd.R_alloc | apply Kd.R_drewN | apply Kd.R_drew)); exact (Kd.R_mono (Kd.R_far (p := ⟨gb485, 1, none⟩) (Kd.R_far (p := ⟨gb485, 0, none⟩) (Kd.R_types HO_473002.out BK485.out (by decide)) (fun _ hk => hk.2) (.int .i64 ((rd_T29 t475 x21_59).f0))) (fun _ hk => hk.2) (.int .i64 ((rd_T29 t475 x21_59).f1))) (fun _ h_ => h_.1))) hb) (Kd.R_base ho0)) (Kd.R_base ho1)) (fun _ h_ => h_.1)); have n3_ := Aside0.mk (Kd.R_lower (Kd.R_new' (Kd.R_new' ho0 (Kd.R_lt (by (with_reducible repeat (first | apply Kd.R_alloc | apply Kd.R_drewN | apply Kd.R_drew)); exact (Kd.R_mono (Kd.R_far (p := ⟨gb485, 1, none⟩) (Kd.R_far (p := ⟨gb485, 0, none⟩) (Kd.R_types HO_473001.out BK485.out (by decide)) (fun _ hk => hk.2) (.int .i64 ((rd_T29 t475 x21_59).f0))) (fun _ hk => hk.2) (.int .i64 ((rd_T29 t475 x21_59).f1))) (fun _ h_ => h_.1))))) (Kd.R_lt (by (with_reducible repeat (first | apply Kd.R_alloc | apply Kd.R_drewN | apply Kd.R_drew)); exact (Kd.R_mono (Kd.R_far (p := ⟨gb485, 1, none⟩) (Kd.R_far (p := ⟨gb485, 0, none⟩) (Kd.R_types HO_473002.out BK485.out (by decide)) (fun _ hk => hk.2) (.int .i64 ((rd_T29 t475 x21_59).f0))) (fun _ hk => hk.2) (.int .i64 ((rd_T29 t475 x21_59).f1))) (fun _ h_ => h_.1))))) (below_size (by repeat (first | (with_reducible first | exact HB.out | apply below_alloc | apply pw_below_drewN | apply below_drew1 | refine below_set ?_ GE472.out | refine below_set ?_ GE485.out) | exact HB.out)))); have n4_ := Aside0.mk (Kd.R_lower (Kd.R_new' (Kd.R_new' ho1 (Kd.R_lt (by (with_reducible repeat (first | apply Kd.R_alloc | apply Kd.R_drewN | apply Kd.R_drew)); exact (Kd.R_mono (Kd.R_far (p := ⟨gb485, 1, none⟩) (Kd.R_far (p := ⟨gb485, 0, none⟩) (Kd.R_types HO_473001.out BK485.out (by decide)) (fun _ hk => hk.2) (.int .i64 ((rd_T29 t475 x21_59).f0))) (fun _ hk => hk.2) (.int .i64 ((rd_T29 t475 x21_59).f1))) (fun _ h_ => h_.1))))) (Kd.R_lt (by (with_reducible repeat (first | apply Kd.R_alloc | apply Kd.R_drewN | apply Kd.R_drew)); exact (Kd.R_mono (Kd.R_far (p := ⟨gb485, 1, none⟩) (Kd.R_far (p := ⟨gb485, 0, none⟩) (Kd.R_types HO_473002.out BK485.out (by decide)) (fun _ hk => hk.2) (.int .i64 ((rd_T29 t475 x21_59).f0))) (fun _ hk => hk.2) (.int .i64 ((rd_T29 t475 x21_59).f1))) (fun _ h_ => h_.1))))) (below_size (by repeat (first | (with_reducible first | exact HB.out | apply below_alloc | apply pw_below_drewN | apply below_drew1 | refine below_set ?_ GE472.out | refine below_set ?_ GE485.out) | exact HB.out)))); have n5_ := Aside0.mk (blk_below (g := gb472) (o := .cells #[.int .i64 x473000_2, .slice Ao49 x473001_2.length co49, .slice Ao50 x473002_2.length co50, .bool x473003_2] 24 (0, 0)) (by (with_reducible repeat (first | refine blk_drewN ?_ _ | refine blk_drew ?_ | refine blk_alloc ?_ _)); refine blk_far ?_ NB472_485.out _; (with_reducible repeat (first | refine blk_drewN ?_ _ | refine blk_drew ?_ | refine blk_alloc ?_ _)); refine blk_far ?_ NB472_485.out _; (with_reducible repeat (first | refine blk_drewN ?_ _ | refine blk_drew ?_ | refine blk_alloc ?_ _)); exact BK472.out) hb); have n6_ := Aside0.mk (blk_below (g := gb485) (o := .cells #[.int .i64 ((rd_T29 t475 x21_59).f0), .int .i64 ((rd_T29 t475 x21_59).f1)] 29 (0, 0)) (by (with_reducible repeat (first | refine blk_drewN ?_ _ | refine blk_drew ?_ | refine blk_alloc ?_ _)); refine blk_put (cs := #[.int .i64 ((rd_T29 t475 x21_59).f0), .int .i64 0]) ?_ 1 _ rfl; (with_reducible repeat (first | refine blk_drewN ?_ _ | refine blk_drew ?_ | refine blk_alloc ?_ _)); refine blk_put (cs := #[.int .i64 0, .int .i64 0]) ?_ 0 _ rfl; (with_reducible repeat (first | refine blk_drewN ?_ _ | refine blk_drew ?_ | refine blk_alloc ?_ _)); exact BK485.out) hb); have n7_ := Aside0.mk (below_step (by repeat (first | (with_reducible first | exact HB.out | apply below_alloc | apply pw_below_drewN | apply below_drew1 | refine below_set ?_ GE472.out | refine below_set ?_ GE485.out) | exact HB.out)) hb); clear HO_18; clear HO_473001; clear HO_473002; clear BK472; clear BK485; clear HB; have HO_18 := n0_; have HO_473001 := n1_; have HO_473002 := n2_; have HO489 := n3_; have HO492 := n4_; have BK472 := n5_; have BK485 := n6_; have HB := n7_; clear n0_ n1_ n2_ n3_ n4_ n5_ n6_ n7_; (try clear hb); (try clear hb2); (try clear hk); (try clear hi); (try clear ho0); (try clear ho1)) | ((with_reducible refine gate_dst (N := 24) rfl ?_); refine box_event ?hg (N := 24) ?hd (cs := #[.int .i64 0, .slice none 0 0, .slice none 0 0, .bool false]) (t := 24) ?hr ?_; (case hd => rfl); (case hg => rfl); (case hr => first | (go_simp; done) | (go_simp; rfl)); intro gb497 hg w79 hbox hb; have n0_ := Aside0.mk (Kd.R_below (by (with_reducible repeat (first | apply Kd.R_alloc | apply Kd.R_drewN | apply Kd.R_drew)); exact HO_18.out) hb); have n1_ := Aside0.mk (Kd.R_below (by (with_reducible repeat (first | apply Kd.R_alloc | apply Kd.R_drewN | apply Kd.R_drew)); exact HO_473001.out) hb); have n2_ := Aside0.mk (Kd.R_below (by (with_reducible repeat (first | apply Kd.R_alloc | apply Kd.R_drewN | apply Kd.R_drew)); exact HO_473002.out) hb); have n3_ := Aside0.mk (Kd.R_below (by (with_reducible repeat (first | apply Kd.R_alloc | apply Kd.R_drewN | apply Kd.R_drew)); exact HO489.out) hb); have n4_ := Aside0.mk (Kd.R_below (by (with_reducible repeat (first | apply Kd.R_alloc | apply Kd.R_drewN | apply Kd.R_drew)); exact HO492.out) hb); have n5_ := Aside0.mk (blk_below (g := gb472) (o := .cells #[.int .i64 x473000_2, .slice Ao49 x473001_2.length co49, .slice Ao50 x473002_2.length co50, .bool x473003_2] 24 (0, 0)) (by (with_reducible repeat (first | refine blk_drewN ?_ _ | refine blk_drew ?_ | refine blk_alloc ?_ _)); exact BK472.out) hb); have n6_ := Aside0.mk (blk_below (g := gb485) (o := .cells #[.int .i64 ((rd_T29 t475 x21_59).f0), .int .i64 ((rd_T29 t475 x21_59).f1)] 29 (0, 0)) (by (with_reducible repeat (first | refine blk_drewN ?_ _ | refine blk_drew ?_ | refine blk_alloc ?_ _)); exact BK485.out) hb); have n7_ := Aside0.mk (below_step (by repeat (first | (with_reducible first | exact HB.out | apply below_alloc | apply pw_below_drewN | apply below_drew1 | refine below_set ?_ GE472.out | refine below_set ?_ GE485.out) | exact HB.out)) hb); have n8_ := Aside0.mk (hbox); have n9_ := Aside0.mk ((by rw [hg]; exact (below_size (by repeat (first | (with_reducible first | exact HB.out | apply below_alloc | apply pw_below_drewN | apply below_drew1 | refine below_set ?_ GE472.out | refine below_set ?_ GE485.out) | exact HB.out))) : w.heap.size ≤ gb497)); have n10_ := Aside0.mk ((by rw [hg]; exact (below_size (by repeat (first | (with_reducible first | exact HB.out | apply below_alloc | apply pw_below_drewN | apply below_drew1 | refine below_set ?_ GE472.out | refine below_set ?_ GE485.out) | exact HB.out))) : w.heap.size ≤ gb497)); have n11_ := Aside0.mk ((by rw [hg]; exact Nat.ne_of_lt (blk_lt (g := gb472) (o := .cells #[.int .i64 x473000_2, .slice Ao49 x473001_2.length co49, .slice Ao50 x473002_2.length co50, .bool x473003_2] 24 (0, 0)) (by (with_reducible repeat (first | refine blk_drewN ?_ _ | refine blk_drew ?_ | refine blk_alloc ?_ _)); exact BK472.out)) : gb472 ≠ gb497)); have n12_ := Aside0.mk ((by rw [hg]; exact Nat.ne_of_gt (blk_lt (g := gb472) (o := .cells #[.int .i64 x473000_2, .slice Ao49 x473001_2.length co49, .slice Ao50 x473002_2.length co50, .bool x473003_2] 24 (0, 0)) (by (with_reducible repeat (first | refine blk_drewN ?_ _ | refine blk_drew ?_ | refine blk_alloc ?_ _)); exact BK472.out)) : gb497 ≠ gb472)); have n13_ := Aside0.mk ((by rw [hg]; exact Nat.ne_of_lt (blk_lt (g := gb485) (o := .cells #[.int .i64 ((rd_T29 t475 x21_59).f0), .int .i64 ((rd_T29 t475 x21_59).f1)] 29 (0, 0)) (by (with_reducible repeat (first | refine blk_drewN ?_ _ | refine blk_drew ?_ | refine blk_alloc ?_ _)); exact BK485.out)) : gb485 ≠ gb497)); have n14_ := Aside0.mk ((by rw [hg]; exact Nat.ne_of_gt (blk_lt (g := gb485) (o := .cells #[.int .i64 ((rd_T29 t475 x21_59).f0), .int .i64 ((rd_T29 t475 x21_59).f1)] 29 (0, 0)) (by (with_reducible repeat (first | refine blk_drewN ?_ _ | refine blk_drew ?_ | refine blk_alloc ?_ _)); exact BK485.out)) : gb497 ≠ gb485)); clear HO_18; clear HO_473001; clear HO_473002; clear HO489; clear HO492; clear BK472; clear BK485; clear HB; have HO_18 := n0_; have HO_473001 := n1_; have HO_473002 := n2_; have HO489 := n3_; have HO492 := n4_; have BK472 := n5_; have BK485 := n6_; have HB := n7_; have BK497 := n8_; have GW497 := n9_; have GE497 := n10_; have NB472_497 := n11_; have NB497_472 := n12_; have NB485_497 := n13_; have NB497_485 := n14_; clear n0_ n1_ n2_ n3_ n4_ n5_ n6_ n7_ n8_ n9_ n10_ n11_ n12_ n13_ n14_; clear hb hbox hg; have hnb80 := NB497_472.out; have hnc80 := NB472_497.out; have hnb81 := NB497_485.out; have hnc81 := NB485_497.out; have hcz82_0 : w79.cell? ⟨gb497, 0, none⟩ = some (.int .i64 0) := (blk_cell BK497.out 0).trans rfl; have hcz82_1 : w79.cell? ⟨gb497, 1, none⟩ = some (.slice none 0 0) := (blk_cell BK497.out 1).trans rfl; have hcz82_2 : w79.cell? ⟨gb497, 2, none⟩ = some (.slice none 0 0) := (blk_cell BK497.out 2).trans rfl; have hcz82_3 : w79.cell? ⟨gb497, 3, none⟩ = some (.bool false) := (blk_cell BK497.out 3).trans rfl; have hfz82_0 := blk_frozen BK497.out 0; have hfz82_1 := blk_frozen BK497.out 1; have hfz82_2 := blk_frozen BK497.out 2; have hfz82_3 := blk_frozen BK497.out 3; obtain ⟨Ao83, co83, eo83⟩ := Kd.R_slice HO489.out; subst eo83; obtain ⟨Ao84, co84, eo84⟩ := Kd.R_slice HO492.out; subst eo84))
                (try simp only [Act.put, List.setIfInBounds_toArray, List.set_cons_zero, List.set_cons_succ])
                go_cut [151] (fun v151 wc => ∃ (kq : Nat) (x151_71 : Bool), v151 = .bool x151_71 ∧ Aside0 (winnowlaw19_LedgerComes.j5 kq l3 l4 t460 t461 t462 x16_2 x17_2 x22_64 x151_71 ((rd_T29 t475 x21_59).f0) ((rd_T29 t475 x21_59).f1) t486 t487 t490 t493 = some r) ∧ Aside0 (kq ≤ kj64) ∧ Aside0 (Kd.R k38 38 wc w.heap.size (fun k_ => some k_ ≠ ((.slice Ao50 x473002_2.length co50) : Value).ownBlock ∧ some k_ ≠ ((.slice Ao83 t487.length co83) : Value).ownBlock ∧ some k_ ≠ ((.slice Ao84 t490.length co84) : Value).ownBlock) (.slice Ao49 x473001_2.length co49) x473001_2) ∧ Aside0 (Kd.R k38 38 wc w.heap.size (fun k_ => some k_ ≠ ((.slice Ao49 x473001_2.length co49) : Value).ownBlock ∧ some k_ ≠ ((.slice Ao83 t487.length co83) : Value).ownBlock ∧ some k_ ≠ ((.slice Ao84 t490.length co84) : Value).ownBlock) (.slice Ao50 x473002_2.length co50) x473002_2) ∧ Aside0 (Kd.R k38 38 wc w.heap.size (fun k_ => some k_ ≠ ((.slice Ao49 x473001_2.length co49) : Value).ownBlock ∧ some k_ ≠ ((.slice Ao50 x473002_2.length co50) : Value).ownBlock ∧ some k_ ≠ ((.slice Ao84 t490.length co84) : Value).ownBlock) (.slice Ao83 t487.length co83) t487) ∧ Aside0 (Kd.R k38 38 wc w.heap.size (fun k_ => some k_ ≠ ((.slice Ao49 x473001_2.length co49) : Value).ownBlock ∧ some k_ ≠ ((.slice Ao50 x473002_2.length co50) : Value).ownBlock ∧ some k_ ≠ ((.slice Ao83 t487.length co83) : Value).ownBlock) (.slice Ao84 t490.length co84) t490) ∧ Aside0 (wc.heap[gb472]? = some (.cells #[.int .i64 x473000_2, (.slice Ao49 x473001_2.length co49), (.slice Ao50 x473002_2.length co50), .bool x473003_2] 24 (0, 0))) ∧ Aside0 (wc.heap[gb485]? = some (.cells #[.int .i64 ((rd_T29 t475 x21_59).f0), .int .i64 ((rd_T29 t475 x21_59).f1)] 29 (0, 0))) ∧ Aside0 (wc.heap[gb497]? = some (.cells #[.int .i64 t486, (.slice Ao83 t487.length co83), (.slice Ao84 t490.length co84), .bool t493] 24 (0, 0))) ∧ Aside0 (Below w.heap.size w wc))
                case first => as_aux_lemma =>
                 have H := HC72.out
                 clear HC72
                 by_cases c85 : t496 = 0
                 ·rw [if_pos c85] at H
                  have c85b0 : (t496 == 0) = true := beq_iff_eq.mpr c85
                  have c85b1 : (t496 != 0) = false := bne_eq_false_iff_eq.mpr c85
                  clear c85
                  (first | rw [c85b0] | (simp only [i64_w, i32_w]; rw [c85b0]) | skip)
                  replace H := Option.bind_eq_some_iff.mp H
                  obtain ⟨t498, A860, H⟩ := H
                  replace H : (if t498 = true then (if ((rd_T29 t475 x21_59).f1) < 0 then (winnowlaw19_LedgerComes.j5 kj64 l3 l4 t460 t461 t462 x16_2 x17_2 x22_64 true ((rd_T29 t475 x21_59).f0) ((rd_T29 t475 x21_59).f1) t486 t487 t490 t493) else (if ((rd_T29 t475 x21_59).f0) = 0 then (if ((rd_T29 t475 x21_59).f1) ≥ t460 then (winnowlaw19_LedgerComes.j5 kj64 l3 l4 t460 t461 t462 x16_2 x17_2 x22_64 true ((rd_T29 t475 x21_59).f0) ((rd_T29 t475 x21_59).f1) t486 t487 t490 t493) else (winnowlaw19_LedgerComes.j5 kj64 l3 l4 t460 t461 t462 x16_2 x17_2 x22_64 false ((rd_T29 t475 x21_59).f0) ((rd_T29 t475 x21_59).f1) t486 t487 t490 t493)) else (winnowlaw19_LedgerComes.j5 kj64 l3 l4 t460 t461 t462 x16_2 x17_2 x22_64 (decide (((rd_T29 t475 x21_59).f1) ≥ t461)) ((rd_T29 t475 x21_59).f0) ((rd_T29 t475 x21_59).f1) t486 t487 t490 t493))) else (winnowlaw19_LedgerComes.j5 kj64 l3 l4 t460 t461 t462 x16_2 x17_2 x22_64 true ((rd_T29 t475 x21_59).f0) ((rd_T29 t475 x21_59).f1) t486 t487 t490 t493)) = some r := H
                  have A86 := Aside0.mk A860
                  clear A860
                  by_cases c87 : t498 = true
                  ·subst c87
                   have H1 : (if ((rd_T29 t475 x21_59).f1) < 0 then (winnowlaw19_LedgerComes.j5 kj64 l3 l4 t460 t461 t462 x16_2 x17_2 x22_64 true ((rd_T29 t475 x21_59).f0) ((rd_T29 t475 x21_59).f1) t486 t487 t490 t493) else (if ((rd_T29 t475 x21_59).f0) = 0 then (if ((rd_T29 t475 x21_59).f1) ≥ t460 then (winnowlaw19_LedgerComes.j5 kj64 l3 l4 t460 t461 t462 x16_2 x17_2 x22_64 true ((rd_T29 t475 x21_59).f0) ((rd_T29 t475 x21_59).f1) t486 t487 t490 t493) else (winnowlaw19_LedgerComes.j5 kj64 l3 l4 t460 t461 t462 x16_2 x17_2 x22_64 false ((rd_T29 t475 x21_59).f0) ((rd_T29 t475 x21_59).f1) t486 t487 t490 t493)) else (winnowlaw19_LedgerComes.j5 kj64 l3 l4 t460 t461 t462 x16_2 x17_2 x22_64 (decide (((rd_T29 t475 x21_59).f1) ≥ t461)) ((rd_T29 t475 x21_59).f0) ((rd_T29 t475 x21_59).f1) t486 t487 t490 t493))) = some r := by rw [if_pos rfl] at H; exact H
                   clear H
                   have H := H1
                   clear H1
                   by_cases c88 : ((rd_T29 t475 x21_59).f1) < 0
                   ·rw [if_pos c88] at H
                    have c88b0 : decide (((rd_T29 t475 x21_59).f1) < 0) = true := decide_eq_true c88
                    clear c88
                    have H' := Aside0.mk H
                    clear H
                    have hnb89 := NB497_472.out
                    have hnc89 := NB472_497.out
                    have hnb90 := NB497_485.out
                    have hnc90 := NB485_497.out
                    have hcz91_0 : w79.cell? ⟨gb497, 0, none⟩ = some (.int .i64 0) := (blk_cell BK497.out 0).trans rfl
                    have hcz91_1 : w79.cell? ⟨gb497, 1, none⟩ = some (.slice none 0 0) := (blk_cell BK497.out 1).trans rfl
                    have hcz91_2 : w79.cell? ⟨gb497, 2, none⟩ = some (.slice none 0 0) := (blk_cell BK497.out 2).trans rfl
                    have hcz91_3 : w79.cell? ⟨gb497, 3, none⟩ = some (.bool false) := (blk_cell BK497.out 3).trans rfl
                    have hfz91_0 := blk_frozen BK497.out 0
                    have hfz91_1 := blk_frozen BK497.out 1
                    have hfz91_2 := blk_frozen BK497.out 2
                    have hfz91_3 := blk_frozen BK497.out 3
                    go_wp2_with (first | (go_at_call 34; (with_reducible refine (winnowlaw19_sized.calls t486 _ _ t487 _ _ t490 t493 t460 t461 true _ ?side1 ?side2 ?side3 ?side4 A86.out).mono ?_); (case side1 => refine (Kd.R_reads' (e := 38) (base := w.heap.size) (ok := fun k_ => ((some k_ ≠ (.slice Ao84 t490.length co84 : Value).ownBlock ∧ some k_ ≠ (.slice Ao49 x473001_2.length co49 : Value).ownBlock) ∧ some k_ ≠ (.slice Ao50 x473002_2.length co50 : Value).ownBlock)) (n := t487.length) (c := co83) ?_).2.2; exact (by (with_reducible repeat (first | apply Kd.R_alloc | apply Kd.R_drewN | apply Kd.R_drew)); exact (Kd.R_mono (Kd.R_far (p := ⟨gb497, 3, none⟩) (Kd.R_far (p := ⟨gb497, 2, none⟩) (Kd.R_far (p := ⟨gb497, 1, none⟩) (Kd.R_far (p := ⟨gb497, 0, none⟩) (Kd.R_types HO489.out BK497.out (by decide)) (fun _ hk => hk.2) (.int .i64 t486)) (fun _ hk => hk.2) (.slice Ao83 t487.length co83)) (fun _ hk => hk.2) (.slice Ao84 t490.length co84)) (fun _ hk => hk.2) (.bool t493)) (fun _ h_ => h_.1)))); (case side2 => exact (Kd.R_reads' HO489.out).2.1); (case side3 => refine (Kd.R_reads' (e := 38) (base := w.heap.size) (ok := fun k_ => ((some k_ ≠ (.slice Ao83 t487.length co83 : Value).ownBlock ∧ some k_ ≠ (.slice Ao49 x473001_2.length co49 : Value).ownBlock) ∧ some k_ ≠ (.slice Ao50 x473002_2.length co50 : Value).ownBlock)) (n := t490.length) (c := co84) ?_).2.2; exact (by (with_reducible repeat (first | apply Kd.R_alloc | apply Kd.R_drewN | apply Kd.R_drew)); exact (Kd.R_mono (Kd.R_far (p := ⟨gb497, 3, none⟩) (Kd.R_far (p := ⟨gb497, 2, none⟩) (Kd.R_far (p := ⟨gb497, 1, none⟩) (Kd.R_far (p := ⟨gb497, 0, none⟩) (Kd.R_types HO492.out BK497.out (by decide)) (fun _ hk => hk.2) (.int .i64 t486)) (fun _ hk => hk.2) (.slice Ao83 t487.length co83)) (fun _ hk => hk.2) (.slice Ao84 t490.length co84)) (fun _ hk => hk.2) (.bool t493)) (fun _ h_ => h_.1)))); (case side4 => exact (Kd.R_reads' HO492.out).2.1); rintro e w92 ⟨rfl, hb⟩; have n0_ := Aside0.mk (Kd.R_below (by (with_reducible repeat (first | apply Kd.R_alloc | apply Kd.R_drewN | apply Kd.R_drew)); exact (Kd.R_mono (Kd.R_far (p := ⟨gb497, 3, none⟩) (Kd.R_far (p := ⟨gb497, 2, none⟩) (Kd.R_far (p := ⟨gb497, 1, none⟩) (Kd.R_far (p := ⟨gb497, 0, none⟩) (Kd.R_types HO_18.out BK497.out (by decide)) (fun _ hk => hk.2) (.int .i64 t486)) (fun _ hk => hk.2) (.slice Ao83 t487.length co83)) (fun _ hk => hk.2) (.slice Ao84 t490.length co84)) (fun _ hk => hk.2) (.bool t493)) (fun _ h_ => h_.1))) hb); have n1_ := Aside0.mk (Kd.R_below (by (with_reducible repeat (first | apply Kd.R_alloc | apply Kd.R_drewN | apply Kd.R_drew)); exact (Kd.R_mono (Kd.R_far (p := ⟨gb497, 3, none⟩) (Kd.R_far (p := ⟨gb497, 2, none⟩) (Kd.R_far (p := ⟨gb497, 1, none⟩) (Kd.R_far (p := ⟨gb497, 0, none⟩) (Kd.R_types HO_473001.out BK497.out (by decide)) (fun _ hk => hk.2) (.int .i64 t486)) (fun _ hk => hk.2) (.slice Ao83 t487.length co83)) (fun _ hk => hk.2) (.slice Ao84 t490.length co84)) (fun _ hk => hk.2) (.bool t493)) (fun _ h_ => h_.1))) hb); have n2_ := Aside0.mk (Kd.R_below (by (with_reducible repeat (first | apply Kd.R_alloc | apply Kd.R_drewN | apply Kd.R_drew)); exact (Kd.R_mono (Kd.R_far (p := ⟨gb497, 3, none⟩) (Kd.R_far (p := ⟨gb497, 2, none⟩) (Kd.R_far (p := ⟨gb497, 1, none⟩) (Kd.R_far (p := ⟨gb497, 0, none⟩) (Kd.R_types HO_473002.out BK497.out (by decide)) (fun _ hk => hk.2) (.int .i64 t486)) (fun _ hk => hk.2) (.slice Ao83 t487.length co83)) (fun _ hk => hk.2) (.slice Ao84 t490.length co84)) (fun _ hk => hk.2) (.bool t493)) (fun _ h_ => h_.1))) hb); have n3_ := Aside0.mk (Kd.R_below (by (with_reducible repeat (first | apply Kd.R_alloc | apply Kd.R_drewN | apply Kd.R_drew)); exact (Kd.R_mono (Kd.R_far (p := ⟨gb497, 3, none⟩) (Kd.R_far (p := ⟨gb497, 2, none⟩) (Kd.R_far (p := ⟨gb497, 1, none⟩) (Kd.R_far (p := ⟨gb497, 0, none⟩) (Kd.R_types HO489.out BK497.out (by decide)) (fun _ hk => hk.2) (.int .i64 t486)) (fun _ hk => hk.2) (.slice Ao83 t487.length co83)) (fun _ hk => hk.2) (.slice Ao84 t490.length co84)) (fun _ hk => hk.2) (.bool t493)) (fun _ h_ => h_.1))) hb); have n4_ := Aside0.mk (Kd.R_below (by (with_reducible repeat (first | apply Kd.R_alloc | apply Kd.R_drewN | apply Kd.R_drew)); exact (Kd.R_mono (Kd.R_far (p := ⟨gb497, 3, none⟩) (Kd.R_far (p := ⟨gb497, 2, none⟩) (Kd.R_far (p := ⟨gb497, 1, none⟩) (Kd.R_far (p := ⟨gb497, 0, none⟩) (Kd.R_types HO492.out BK497.out (by decide)) (fun _ hk => hk.2) (.int .i64 t486)) (fun _ hk => hk.2) (.slice Ao83 t487.length co83)) (fun _ hk => hk.2) (.slice Ao84 t490.length co84)) (fun _ hk => hk.2) (.bool t493)) (fun _ h_ => h_.1))) hb); have n5_ := Aside0.mk (blk_below (g := gb472) (o := .cells #[.int .i64 x473000_2, .slice Ao49 x473001_2.length co49, .slice Ao50 x473002_2.length co50, .bool x473003_2] 24 (0, 0)) (by (with_reducible repeat (first | refine blk_drewN ?_ _ | refine blk_drew ?_ | refine blk_alloc ?_ _)); refine blk_far ?_ NB472_497.out _; (with_reducible repeat (first | refine blk_drewN ?_ _ | refine blk_drew ?_ | refine blk_alloc ?_ _)); refine blk_far ?_ NB472_497.out _; (with_reducible repeat (first | refine blk_drewN ?_ _ | refine blk_drew ?_ | refine blk_alloc ?_ _)); refine blk_far ?_ NB472_497.out _; (with_reducible repeat (first | refine blk_drewN ?_ _ | refine blk_drew ?_ | refine blk_alloc ?_ _)); refine blk_far ?_ NB472_497.out _; (with_reducible repeat (first | refine blk_drewN ?_ _ | refine blk_drew ?_ | refine blk_alloc ?_ _)); exact BK472.out) hb); have n6_ := Aside0.mk (blk_below (g := gb485) (o := .cells #[.int .i64 ((rd_T29 t475 x21_59).f0), .int .i64 ((rd_T29 t475 x21_59).f1)] 29 (0, 0)) (by (with_reducible repeat (first | refine blk_drewN ?_ _ | refine blk_drew ?_ | refine blk_alloc ?_ _)); refine blk_far ?_ NB485_497.out _; (with_reducible repeat (first | refine blk_drewN ?_ _ | refine blk_drew ?_ | refine blk_alloc ?_ _)); refine blk_far ?_ NB485_497.out _; (with_reducible repeat (first | refine blk_drewN ?_ _ | refine blk_drew ?_ | refine blk_alloc ?_ _)); refine blk_far ?_ NB485_497.out _; (with_reducible repeat (first | refine blk_drewN ?_ _ | refine blk_drew ?_ | refine blk_alloc ?_ _)); refine blk_far ?_ NB485_497.out _; (with_reducible repeat (first | refine blk_drewN ?_ _ | refine blk_drew ?_ | refine blk_alloc ?_ _)); exact BK485.out) hb); have n7_ := Aside0.mk (blk_below (g := gb497) (o := .cells #[.int .i64 t486, .slice Ao83 t487.length co83, .slice Ao84 t490.length co84, .bool t493] 24 (0, 0)) (by (with_reducible repeat (first | refine blk_drewN ?_ _ | refine blk_drew ?_ | refine blk_alloc ?_ _)); refine blk_put (cs := #[.int .i64 t486, .slice Ao83 t487.length co83, .slice Ao84 t490.length co84, .bool false]) ?_ 3 _ rfl; (with_reducible repeat (first | refine blk_drewN ?_ _ | refine blk_drew ?_ | refine blk_alloc ?_ _)); refine blk_put (cs := #[.int .i64 t486, .slice Ao83 t487.length co83, .slice none 0 0, .bool false]) ?_ 2 _ rfl; (with_reducible repeat (first | refine blk_drewN ?_ _ | refine blk_drew ?_ | refine blk_alloc ?_ _)); refine blk_put (cs := #[.int .i64 t486, .slice none 0 0, .slice none 0 0, .bool false]) ?_ 1 _ rfl; (with_reducible repeat (first | refine blk_drewN ?_ _ | refine blk_drew ?_ | refine blk_alloc ?_ _)); refine blk_put (cs := #[.int .i64 0, .slice none 0 0, .slice none 0 0, .bool false]) ?_ 0 _ rfl; (with_reducible repeat (first | refine blk_drewN ?_ _ | refine blk_drew ?_ | refine blk_alloc ?_ _)); exact BK497.out) hb); have n8_ := Aside0.mk (below_step (by repeat (first | (with_reducible first | exact HB.out | apply below_alloc | apply pw_below_drewN | apply below_drew1 | refine below_set ?_ GE472.out | refine below_set ?_ GE485.out | refine below_set ?_ GE497.out) | exact HB.out)) hb); clear HO_18; clear HO_473001; clear HO_473002; clear HO489; clear HO492; clear BK472; clear BK485; clear BK497; clear HB; have HO_18 := n0_; have HO_473001 := n1_; have HO_473002 := n2_; have HO489 := n3_; have HO492 := n4_; have BK472 := n5_; have BK485 := n6_; have BK497 := n7_; have HB := n8_; clear n0_ n1_ n2_ n3_ n4_ n5_ n6_ n7_ n8_; (try clear hb); (try clear hb2); (try clear hk); (try clear hi); have hnb93 := NB485_472.out; have hnc93 := NB472_485.out; have hcz94_0 : w92.cell? ⟨gb485, 0, none⟩ = some (.int .i64 ((rd_T29 t475 x21_59).f0)) := (blk_cell BK485.out 0).trans rfl; have hcz94_1 : w92.cell? ⟨gb485, 1, none⟩ = some (.int .i64 ((rd_T29 t475 x21_59).f1)) := (blk_cell BK485.out 1).trans rfl; have hfz94_0 := blk_frozen BK485.out 0; have hfz94_1 := blk_frozen BK485.out 1))
                    go_meet
                    case rel => exact ⟨_, (true), (by first | rfl | (simp; done) | (simp [*]; done)), H', ⟨by have := HJ9.out; have := HK2.out; have := HJ46.out; have := HJ59.out; have := HJ64.out; first | omega | exact Nat.le_refl _⟩, ⟨by (with_reducible repeat (first | apply Kd.R_alloc | apply Kd.R_drewN | apply Kd.R_drew)); exact Kd.R_mono HO_473001.out (fun _ hk => ⟨hk.1.1, ⟨hk.1.2, hk.2⟩⟩)⟩, ⟨by (with_reducible repeat (first | apply Kd.R_alloc | apply Kd.R_drewN | apply Kd.R_drew)); exact Kd.R_mono HO_473002.out (fun _ hk => ⟨hk.1.1, ⟨hk.1.2, hk.2⟩⟩)⟩, ⟨by (with_reducible repeat (first | apply Kd.R_alloc | apply Kd.R_drewN | apply Kd.R_drew)); exact Kd.R_mono HO489.out (fun _ hk => ⟨hk.1.2, ⟨hk.2, hk.1.1⟩⟩)⟩, ⟨by (with_reducible repeat (first | apply Kd.R_alloc | apply Kd.R_drewN | apply Kd.R_drew)); exact Kd.R_mono HO492.out (fun _ hk => ⟨hk.1.2, ⟨hk.2, hk.1.1⟩⟩)⟩, ⟨by (with_reducible repeat (first | refine blk_drewN ?_ _ | refine blk_drew ?_ | refine blk_alloc ?_ _)); exact BK472.out⟩, ⟨by (with_reducible repeat (first | refine blk_drewN ?_ _ | refine blk_drew ?_ | refine blk_alloc ?_ _)); exact BK485.out⟩, ⟨by (with_reducible repeat (first | refine blk_drewN ?_ _ | refine blk_drew ?_ | refine blk_alloc ?_ _)); exact BK497.out⟩, ⟨by repeat (first | (with_reducible first | exact HB.out | apply below_alloc | apply pw_below_drewN | apply below_drew1 | refine below_set ?_ GE472.out | refine below_set ?_ GE485.out | refine below_set ?_ GE497.out) | exact HB.out)⟩⟩
                   ·rw [if_neg c88] at H
                    have c88b0 : decide (((rd_T29 t475 x21_59).f1) < 0) = false := decide_eq_false c88
                    clear c88
                    by_cases c95 : ((rd_T29 t475 x21_59).f0) = 0
                    ·rw [if_pos c95] at H
                     have c95b0 : (((rd_T29 t475 x21_59).f0) == 0) = true := beq_iff_eq.mpr c95
                     have c95b1 : (((rd_T29 t475 x21_59).f0) != 0) = false := bne_eq_false_iff_eq.mpr c95
                     clear c95
                     by_cases c96 : ((rd_T29 t475 x21_59).f1) ≥ t460
                     ·rw [if_pos c96] at H
                      have c96b0 : decide (t460 ≤ ((rd_T29 t475 x21_59).f1)) = true := decide_eq_true c96
                      clear c96
                      have H' := Aside0.mk H
                      clear H
                      have hnb97 := NB497_472.out
                      have hnc97 := NB472_497.out
                      have hnb98 := NB497_485.out
                      have hnc98 := NB485_497.out
                      have hcz99_0 : w79.cell? ⟨gb497, 0, none⟩ = some (.int .i64 0) := (blk_cell BK497.out 0).trans rfl
                      have hcz99_1 : w79.cell? ⟨gb497, 1, none⟩ = some (.slice none 0 0) := (blk_cell BK497.out 1).trans rfl
                      have hcz99_2 : w79.cell? ⟨gb497, 2, none⟩ = some (.slice none 0 0) := (blk_cell BK497.out 2).trans rfl
                      have hcz99_3 : w79.cell? ⟨gb497, 3, none⟩ = some (.bool false) := (blk_cell BK497.out 3).trans rfl
                      have hfz99_0 := blk_frozen BK497.out 0
                      have hfz99_1 := blk_frozen BK497.out 1
                      have hfz99_2 := blk_frozen BK497.out 2
                      have hfz99_3 := blk_frozen BK497.out 3
                      go_wp2_with (first | (go_at_call 34; (with_reducible refine (winnowlaw19_sized.calls t486 _ _ t487 _ _ t490 t493 t460 t461 true _ ?side1 ?side2 ?side3 ?side4 A86.out).mono ?_); (case side1 => refine (Kd.R_reads' (e := 38) (base := w.heap.size) (ok := fun k_ => ((some k_ ≠ (.slice Ao84 t490.length co84 : Value).ownBlock ∧ some k_ ≠ (.slice Ao49 x473001_2.length co49 : Value).ownBlock) ∧ some k_ ≠ (.slice Ao50 x473002_2.length co50 : Value).ownBlock)) (n := t487.length) (c := co83) ?_).2.2; exact (by (with_reducible repeat (first | apply Kd.R_alloc | apply Kd.R_drewN | apply Kd.R_drew)); exact (Kd.R_mono (Kd.R_far (p := ⟨gb497, 3, none⟩) (Kd.R_far (p := ⟨gb497, 2, none⟩) (Kd.R_far (p := ⟨gb497, 1, none⟩) (Kd.R_far (p := ⟨gb497, 0, none⟩) (Kd.R_types HO489.out BK497.out (by decide)) (fun _ hk => hk.2) (.int .i64 t486)) (fun _ hk => hk.2) (.slice Ao83 t487.length co83)) (fun _ hk => hk.2) (.slice Ao84 t490.length co84)) (fun _ hk => hk.2) (.bool t493)) (fun _ h_ => h_.1)))); (case side2 => exact (Kd.R_reads' HO489.out).2.1); (case side3 => refine (Kd.R_reads' (e := 38) (base := w.heap.size) (ok := fun k_ => ((some k_ ≠ (.slice Ao83 t487.length co83 : Value).ownBlock ∧ some k_ ≠ (.slice Ao49 x473001_2.length co49 : Value).ownBlock) ∧ some k_ ≠ (.slice Ao50 x473002_2.length co50 : Value).ownBlock)) (n := t490.length) (c := co84) ?_).2.2; exact (by (with_reducible repeat (first | apply Kd.R_alloc | apply Kd.R_drewN | apply Kd.R_drew)); exact (Kd.R_mono (Kd.R_far (p := ⟨gb497, 3, none⟩) (Kd.R_far (p := ⟨gb497, 2, none⟩) (Kd.R_far (p := ⟨gb497, 1, none⟩) (Kd.R_far (p := ⟨gb497, 0, none⟩) (Kd.R_types HO492.out BK497.out (by decide)) (fun _ hk => hk.2) (.int .i64 t486)) (fun _ hk => hk.2) (.slice Ao83 t487.length co83)) (fun _ hk => hk.2) (.slice Ao84 t490.length co84)) (fun _ hk => hk.2) (.bool t493)) (fun _ h_ => h_.1)))); (case side4 => exact (Kd.R_reads' HO492.out).2.1); rintro e w100 ⟨rfl, hb⟩; have n0_ := Aside0.mk (Kd.R_below (by (with_reducible repeat (first | apply Kd.R_alloc | apply Kd.R_drewN | apply Kd.R_drew)); exact (Kd.R_mono (Kd.R_far (p := ⟨gb497, 3, none⟩) (Kd.R_far (p := ⟨gb497, 2, none⟩) (Kd.R_far (p := ⟨gb497, 1, none⟩) (Kd.R_far (p := ⟨gb497, 0, none⟩) (Kd.R_types HO_18.out BK497.out (by decide)) (fun _ hk => hk.2) (.int .i64 t486)) (fun _ hk => hk.2) (.slice Ao83 t487.length co83)) (fun _ hk => hk.2) (.slice Ao84 t490.length co84)) (fun _ hk => hk.2) (.bool t493)) (fun _ h_ => h_.1))) hb); have n1_ := Aside0.mk (Kd.R_below (by (with_reducible repeat (first | apply Kd.R_alloc | apply Kd.R_drewN | apply Kd.R_drew)); exact (Kd.R_mono (Kd.R_far (p := ⟨gb497, 3, none⟩) (Kd.R_far (p := ⟨gb497, 2, none⟩) (Kd.R_far (p := ⟨gb497, 1, none⟩) (Kd.R_far (p := ⟨gb497, 0, none⟩) (Kd.R_types HO_473001.out BK497.out (by decide)) (fun _ hk => hk.2) (.int .i64 t486)) (fun _ hk => hk.2) (.slice Ao83 t487.length co83)) (fun _ hk => hk.2) (.slice Ao84 t490.length co84)) (fun _ hk => hk.2) (.bool t493)) (fun _ h_ => h_.1))) hb); have n2_ := Aside0.mk (Kd.R_below (by (with_reducible repeat (first | apply Kd.R_alloc | apply Kd.R_drewN | apply Kd.R_drew)); exact (Kd.R_mono (Kd.R_far (p := ⟨gb497, 3, none⟩) (Kd.R_far (p := ⟨gb497, 2, none⟩) (Kd.R_far (p := ⟨gb497, 1, none⟩) (Kd.R_far (p := ⟨gb497, 0, none⟩) (Kd.R_types HO_473002.out BK497.out (by decide)) (fun _ hk => hk.2) (.int .i64 t486)) (fun _ hk => hk.2) (.slice Ao83 t487.length co83)) (fun _ hk => hk.2) (.slice Ao84 t490.length co84)) (fun _ hk => hk.2) (.bool t493)) (fun _ h_ => h_.1))) hb); have n3_ := Aside0.mk (Kd.R_below (by (with_reducible repeat (first | apply Kd.R_alloc | apply Kd.R_drewN | apply Kd.R_drew)); exact (Kd.R_mono (Kd.R_far (p := ⟨gb497, 3, none⟩) (Kd.R_far (p := ⟨gb497, 2, none⟩) (Kd.R_far (p := ⟨gb497, 1, none⟩) (Kd.R_far (p := ⟨gb497, 0, none⟩) (Kd.R_types HO489.out BK497.out (by decide)) (fun _ hk => hk.2) (.int .i64 t486)) (fun _ hk => hk.2) (.slice Ao83 t487.length co83)) (fun _ hk => hk.2) (.slice Ao84 t490.length co84)) (fun _ hk => hk.2) (.bool t493)) (fun _ h_ => h_.1))) hb); have n4_ := Aside0.mk (Kd.R_below (by (with_reducible repeat (first | apply Kd.R_alloc | apply Kd.R_drewN | apply Kd.R_drew)); exact (Kd.R_mono (Kd.R_far (p := ⟨gb497, 3, none⟩) (Kd.R_far (p := ⟨gb497, 2, none⟩) (Kd.R_far (p := ⟨gb497, 1, none⟩) (Kd.R_far (p := ⟨gb497, 0, none⟩) (Kd.R_types HO492.out BK497.out (by decide)) (fun _ hk => hk.2) (.int .i64 t486)) (fun _ hk => hk.2) (.slice Ao83 t487.length co83)) (fun _ hk => hk.2) (.slice Ao84 t490.length co84)) (fun _ hk => hk.2) (.bool t493)) (fun _ h_ => h_.1))) hb); have n5_ := Aside0.mk (blk_below (g := gb472) (o := .cells #[.int .i64 x473000_2, .slice Ao49 x473001_2.length co49, .slice Ao50 x473002_2.length co50, .bool x473003_2] 24 (0, 0)) (by (with_reducible repeat (first | refine blk_drewN ?_ _ | refine blk_drew ?_ | refine blk_alloc ?_ _)); refine blk_far ?_ NB472_497.out _; (with_reducible repeat (first | refine blk_drewN ?_ _ | refine blk_drew ?_ | refine blk_alloc ?_ _)); refine blk_far ?_ NB472_497.out _; (with_reducible repeat (first | refine blk_drewN ?_ _ | refine blk_drew ?_ | refine blk_alloc ?_ _)); refine blk_far ?_ NB472_497.out _; (with_reducible repeat (first | refine blk_drewN ?_ _ | refine blk_drew ?_ | refine blk_alloc ?_ _)); refine blk_far ?_ NB472_497.out _; (with_reducible repeat (first | refine blk_drewN ?_ _ | refine blk_drew ?_ | refine blk_alloc ?_ _)); exact BK472.out) hb); have n6_ := Aside0.mk (blk_below (g := gb485) (o := .cells #[.int .i64 ((rd_T29 t475 x21_59).f0), .int .i64 ((rd_T29 t475 x21_59).f1)] 29 (0, 0)) (by (with_reducible repeat (first | refine blk_drewN ?_ _ | refine blk_drew ?_ | refine blk_alloc ?_ _)); refine blk_far ?_ NB485_497.out _; (with_reducible repeat (first | refine blk_drewN ?_ _ | refine blk_drew ?_ | refine blk_alloc ?_ _)); refine blk_far ?_ NB485_497.out _; (with_reducible repeat (first | refine blk_drewN ?_ _ | refine blk_drew ?_ | refine blk_alloc ?_ _)); refine blk_far ?_ NB485_497.out _; (with_reducible repeat (first | refine blk_drewN ?_ _ | refine blk_drew ?_ | refine blk_alloc ?_ _)); refine blk_far ?_ NB485_497.out _; (with_reducible repeat (first | refine blk_drewN ?_ _ | refine blk_drew ?_ | refine blk_alloc ?_ _)); exact BK485.out) hb); have n7_ := Aside0.mk (blk_below (g := gb497) (o := .cells #[.int .i64 t486, .slice Ao83 t487.length co83, .slice Ao84 t490.length co84, .bool t493] 24 (0, 0)) (by (with_reducible repeat (first | refine blk_drewN ?_ _ | refine blk_drew ?_ | refine blk_alloc ?_ _)); refine blk_put (cs := #[.int .i64 t486, .slice Ao83 t487.length co83, .slice Ao84 t490.length co84, .bool false]) ?_ 3 _ rfl; (with_reducible repeat (first | refine blk_drewN ?_ _ | refine blk_drew ?_ | refine blk_alloc ?_ _)); refine blk_put (cs := #[.int .i64 t486, .slice Ao83 t487.length co83, .slice none 0 0, .bool false]) ?_ 2 _ rfl; (with_reducible repeat (first | refine blk_drewN ?_ _ | refine blk_drew ?_ | refine blk_alloc ?_ _)); refine blk_put (cs := #[.int .i64 t486, .slice none 0 0, .slice none 0 0, .bool false]) ?_ 1 _ rfl; (with_reducible repeat (first | refine blk_drewN ?_ _ | refine blk_drew ?_ | refine blk_alloc ?_ _)); refine blk_put (cs := #[.int .i64 0, .slice none 0 0, .slice none 0 0, .bool false]) ?_ 0 _ rfl; (with_reducible repeat (first | refine blk_drewN ?_ _ | refine blk_drew ?_ | refine blk_alloc ?_ _)); exact BK497.out) hb); have n8_ := Aside0.mk (below_step (by repeat (first | (with_reducible first | exact HB.out | apply below_alloc | apply pw_below_drewN | apply below_drew1 | refine below_set ?_ GE472.out | refine below_set ?_ GE485.out | refine below_set ?_ GE497.out) | exact HB.out)) hb); clear HO_18; clear HO_473001; clear HO_473002; clear HO489; clear HO492; clear BK472; clear BK485; clear BK497; clear HB; have HO_18 := n0_; have HO_473001 := n1_; have HO_473002 := n2_; have HO489 := n3_; have HO492 := n4_; have BK472 := n5_; have BK485 := n6_; have BK497 := n7_; have HB := n8_; clear n0_ n1_ n2_ n3_ n4_ n5_ n6_ n7_ n8_; (try clear hb); (try clear hb2); (try clear hk); (try clear hi); have hnb101 := NB485_472.out; have hnc101 := NB472_485.out; have hcz102_0 : w100.cell? ⟨gb485, 0, none⟩ = some (.int .i64 ((rd_T29 t475 x21_59).f0)) := (blk_cell BK485.out 0).trans rfl; have hcz102_1 : w100.cell? ⟨gb485, 1, none⟩ = some (.int .i64 ((rd_T29 t475 x21_59).f1)) := (blk_cell BK485.out 1).trans rfl; have hfz102_0 := blk_frozen BK485.out 0; have hfz102_1 := blk_frozen BK485.out 1))
                      go_meet
                      case rel => exact ⟨_, (true), (by first | rfl | (simp; done) | (simp [*]; done)), H', ⟨by have := HJ9.out; have := HK2.out; have := HJ46.out; have := HJ59.out; have := HJ64.out; first | omega | exact Nat.le_refl _⟩, ⟨by (with_reducible repeat (first | apply Kd.R_alloc | apply Kd.R_drewN | apply Kd.R_drew)); exact Kd.R_mono HO_473001.out (fun _ hk => ⟨hk.1.1, ⟨hk.1.2, hk.2⟩⟩)⟩, ⟨by (with_reducible repeat (first | apply Kd.R_alloc | apply Kd.R_drewN | apply Kd.R_drew)); exact Kd.R_mono HO_473002.out (fun _ hk => ⟨hk.1.1, ⟨hk.1.2, hk.2⟩⟩)⟩, ⟨by (with_reducible repeat (first | apply Kd.R_alloc | apply Kd.R_drewN | apply Kd.R_drew)); exact Kd.R_mono HO489.out (fun _ hk => ⟨hk.1.2, ⟨hk.2, hk.1.1⟩⟩)⟩, ⟨by (with_reducible repeat (first | apply Kd.R_alloc | apply Kd.R_drewN | apply Kd.R_drew)); exact Kd.R_mono HO492.out (fun _ hk => ⟨hk.1.2, ⟨hk.2, hk.1.1⟩⟩)⟩, ⟨by (with_reducible repeat (first | refine blk_drewN ?_ _ | refine blk_drew ?_ | refine blk_alloc ?_ _)); exact BK472.out⟩, ⟨by (with_reducible repeat (first | refine blk_drewN ?_ _ | refine blk_drew ?_ | refine blk_alloc ?_ _)); exact BK485.out⟩, ⟨by (with_reducible repeat (first | refine blk_drewN ?_ _ | refine blk_drew ?_ | refine blk_alloc ?_ _)); exact BK497.out⟩, ⟨by repeat (first | (with_reducible first | exact HB.out | apply below_alloc | apply pw_below_drewN | apply below_drew1 | refine below_set ?_ GE472.out | refine below_set ?_ GE485.out | refine below_set ?_ GE497.out) | exact HB.out)⟩⟩
                     ·rw [if_neg c96] at H
                      have c96b0 : decide (t460 ≤ ((rd_T29 t475 x21_59).f1)) = false := decide_eq_false c96
                      clear c96
                      have H' := Aside0.mk H
                      clear H
                      have hnb103 := NB497_472.out
                      have hnc103 := NB472_497.out
                      have hnb104 := NB497_485.out
                      have hnc104 := NB485_497.out
                      have hcz105_0 : w79.cell? ⟨gb497, 0, none⟩ = some (.int .i64 0) := (blk_cell BK497.out 0).trans rfl
                      have hcz105_1 : w79.cell? ⟨gb497, 1, none⟩ = some (.slice none 0 0) := (blk_cell BK497.out 1).trans rfl
                      have hcz105_2 : w79.cell? ⟨gb497, 2, none⟩ = some (.slice none 0 0) := (blk_cell BK497.out 2).trans rfl
                      have hcz105_3 : w79.cell? ⟨gb497, 3, none⟩ = some (.bool false) := (blk_cell BK497.out 3).trans rfl
                      have hfz105_0 := blk_frozen BK497.out 0
                      have hfz105_1 := blk_frozen BK497.out 1
                      have hfz105_2 := blk_frozen BK497.out 2
                      have hfz105_3 := blk_frozen BK497.out 3
                      go_wp2_with (first | (go_at_call 34; (with_reducible refine (winnowlaw19_sized.calls t486 _ _ t487 _ _ t490 t493 t460 t461 true _ ?side1 ?side2 ?side3 ?side4 A86.out).mono ?_); (case side1 => refine (Kd.R_reads' (e := 38) (base := w.heap.size) (ok := fun k_ => ((some k_ ≠ (.slice Ao84 t490.length co84 : Value).ownBlock ∧ some k_ ≠ (.slice Ao49 x473001_2.length co49 : Value).ownBlock) ∧ some k_ ≠ (.slice Ao50 x473002_2.length co50 : Value).ownBlock)) (n := t487.length) (c := co83) ?_).2.2; exact (by (with_reducible repeat (first | apply Kd.R_alloc | apply Kd.R_drewN | apply Kd.R_drew)); exact (Kd.R_mono (Kd.R_far (p := ⟨gb497, 3, none⟩) (Kd.R_far (p := ⟨gb497, 2, none⟩) (Kd.R_far (p := ⟨gb497, 1, none⟩) (Kd.R_far (p := ⟨gb497, 0, none⟩) (Kd.R_types HO489.out BK497.out (by decide)) (fun _ hk => hk.2) (.int .i64 t486)) (fun _ hk => hk.2) (.slice Ao83 t487.length co83)) (fun _ hk => hk.2) (.slice Ao84 t490.length co84)) (fun _ hk => hk.2) (.bool t493)) (fun _ h_ => h_.1)))); (case side2 => exact (Kd.R_reads' HO489.out).2.1); (case side3 => refine (Kd.R_reads' (e := 38) (base := w.heap.size) (ok := fun k_ => ((some k_ ≠ (.slice Ao83 t487.length co83 : Value).ownBlock ∧ some k_ ≠ (.slice Ao49 x473001_2.length co49 : Value).ownBlock) ∧ some k_ ≠ (.slice Ao50 x473002_2.length co50 : Value).ownBlock)) (n := t490.length) (c := co84) ?_).2.2; exact (by (with_reducible repeat (first | apply Kd.R_alloc | apply Kd.R_drewN | apply Kd.R_drew)); exact (Kd.R_mono (Kd.R_far (p := ⟨gb497, 3, none⟩) (Kd.R_far (p := ⟨gb497, 2, none⟩) (Kd.R_far (p := ⟨gb497, 1, none⟩) (Kd.R_far (p := ⟨gb497, 0, none⟩) (Kd.R_types HO492.out BK497.out (by decide)) (fun _ hk => hk.2) (.int .i64 t486)) (fun _ hk => hk.2) (.slice Ao83 t487.length co83)) (fun _ hk => hk.2) (.slice Ao84 t490.length co84)) (fun _ hk => hk.2) (.bool t493)) (fun _ h_ => h_.1)))); (case side4 => exact (Kd.R_reads' HO492.out).2.1); rintro e w106 ⟨rfl, hb⟩; have n0_ := Aside0.mk (Kd.R_below (by (with_reducible repeat (first | apply Kd.R_alloc | apply Kd.R_drewN | apply Kd.R_drew)); exact (Kd.R_mono (Kd.R_far (p := ⟨gb497, 3, none⟩) (Kd.R_far (p := ⟨gb497, 2, none⟩) (Kd.R_far (p := ⟨gb497, 1, none⟩) (Kd.R_far (p := ⟨gb497, 0, none⟩) (Kd.R_types HO_18.out BK497.out (by decide)) (fun _ hk => hk.2) (.int .i64 t486)) (fun _ hk => hk.2) (.slice Ao83 t487.length co83)) (fun _ hk => hk.2) (.slice Ao84 t490.length co84)) (fun _ hk => hk.2) (.bool t493)) (fun _ h_ => h_.1))) hb); have n1_ := Aside0.mk (Kd.R_below (by (with_reducible repeat (first | apply Kd.R_alloc | apply Kd.R_drewN | apply Kd.R_drew)); exact (Kd.R_mono (Kd.R_far (p := ⟨gb497, 3, none⟩) (Kd.R_far (p := ⟨gb497, 2, none⟩) (Kd.R_far (p := ⟨gb497, 1, none⟩) (Kd.R_far (p := ⟨gb497, 0, none⟩) (Kd.R_types HO_473001.out BK497.out (by decide)) (fun _ hk => hk.2) (.int .i64 t486)) (fun _ hk => hk.2) (.slice Ao83 t487.length co83)) (fun _ hk => hk.2) (.slice Ao84 t490.length co84)) (fun _ hk => hk.2) (.bool t493)) (fun _ h_ => h_.1))) hb); have n2_ := Aside0.mk (Kd.R_below (by (with_reducible repeat (first | apply Kd.R_alloc | apply Kd.R_drewN | apply Kd.R_drew)); exact (Kd.R_mono (Kd.R_far (p := ⟨gb497, 3, none⟩) (Kd.R_far (p := ⟨gb497, 2, none⟩) (Kd.R_far (p := ⟨gb497, 1, none⟩) (Kd.R_far (p := ⟨gb497, 0, none⟩) (Kd.R_types HO_473002.out BK497.out (by decide)) (fun _ hk => hk.2) (.int .i64 t486)) (fun _ hk => hk.2) (.slice Ao83 t487.length co83)) (fun _ hk => hk.2) (.slice Ao84 t490.length co84)) (fun _ hk => hk.2) (.bool t493)) (fun _ h_ => h_.1))) hb); have n3_ := Aside0.mk (Kd.R_below (by (with_reducible repeat (first | apply Kd.R_alloc | apply Kd.R_drewN | apply Kd.R_drew)); exact (Kd.R_mono (Kd.R_far (p := ⟨gb497, 3, none⟩) (Kd.R_far (p := ⟨gb497, 2, none⟩) (Kd.R_far (p := ⟨gb497, 1, none⟩) (Kd.R_far (p := ⟨gb497, 0, none⟩) (Kd.R_types HO489.out BK497.out (by decide)) (fun _ hk => hk.2) (.int .i64 t486)) (fun _ hk => hk.2) (.slice Ao83 t487.length co83)) (fun _ hk => hk.2) (.slice Ao84 t490.length co84)) (fun _ hk => hk.2) (.bool t493)) (fun _ h_ => h_.1))) hb); have n4_ := Aside0.mk (Kd.R_below (by (with_reducible repeat (first | apply Kd.R_alloc | apply Kd.R_drewN | apply Kd.R_drew)); exact (Kd.R_mono (Kd.R_far (p := ⟨gb497, 3, none⟩) (Kd.R_far (p := ⟨gb497, 2, none⟩) (Kd.R_far (p := ⟨gb497, 1, none⟩) (Kd.R_far (p := ⟨gb497, 0, none⟩) (Kd.R_types HO492.out BK497.out (by decide)) (fun _ hk => hk.2) (.int .i64 t486)) (fun _ hk => hk.2) (.slice Ao83 t487.length co83)) (fun _ hk => hk.2) (.slice Ao84 t490.length co84)) (fun _ hk => hk.2) (.bool t493)) (fun _ h_ => h_.1))) hb); have n5_ := Aside0.mk (blk_below (g := gb472) (o := .cells #[.int .i64 x473000_2, .slice Ao49 x473001_2.length co49, .slice Ao50 x473002_2.length co50, .bool x473003_2] 24 (0, 0)) (by (with_reducible repeat (first | refine blk_drewN ?_ _ | refine blk_drew ?_ | refine blk_alloc ?_ _)); refine blk_far ?_ NB472_497.out _; (with_reducible repeat (first | refine blk_drewN ?_ _ | refine blk_drew ?_ | refine blk_alloc ?_ _)); refine blk_far ?_ NB472_497.out _; (with_reducible repeat (first | refine blk_drewN ?_ _ | refine blk_drew ?_ | refine blk_alloc ?_ _)); refine blk_far ?_ NB472_497.out _; (with_reducible repeat (first | refine blk_drewN ?_ _ | refine blk_drew ?_ | refine blk_alloc ?_ _)); refine blk_far ?_ NB472_497.out _; (with_reducible repeat (first | refine blk_drewN ?_ _ | refine blk_drew ?_ | refine blk_alloc ?_ _)); exact BK472.out) hb); have n6_ := Aside0.mk (blk_below (g := gb485) (o := .cells #[.int .i64 ((rd_T29 t475 x21_59).f0), .int .i64 ((rd_T29 t475 x21_59).f1)] 29 (0, 0)) (by (with_reducible repeat (first | refine blk_drewN ?_ _ | refine blk_drew ?_ | refine blk_alloc ?_ _)); refine blk_far ?_ NB485_497.out _; (with_reducible repeat (first | refine blk_drewN ?_ _ | refine blk_drew ?_ | refine blk_alloc ?_ _)); refine blk_far ?_ NB485_497.out _; (with_reducible repeat (first | refine blk_drewN ?_ _ | refine blk_drew ?_ | refine blk_alloc ?_ _)); refine blk_far ?_ NB485_497.out _; (with_reducible repeat (first | refine blk_drewN ?_ _ | refine blk_drew ?_ | refine blk_alloc ?_ _)); refine blk_far ?_ NB485_497.out _; (with_reducible repeat (first | refine blk_drewN ?_ _ | refine blk_drew ?_ | refine blk_alloc ?_ _)); exact BK485.out) hb); have n7_ := Aside0.mk (blk_below (g := gb497) (o := .cells #[.int .i64 t486, .slice Ao83 t487.length co83, .slice Ao84 t490.length co84, .bool t493] 24 (0, 0)) (by (with_reducible repeat (first | refine blk_drewN ?_ _ | refine blk_drew ?_ | refine blk_alloc ?_ _)); refine blk_put (cs := #[.int .i64 t486, .slice Ao83 t487.length co83, .slice Ao84 t490.length co84, .bool false]) ?_ 3 _ rfl; (with_reducible repeat (first | refine blk_drewN ?_ _ | refine blk_drew ?_ | refine blk_alloc ?_ _)); refine blk_put (cs := #[.int .i64 t486, .slice Ao83 t487.length co83, .slice none 0 0, .bool false]) ?_ 2 _ rfl; (with_reducible repeat (first | refine blk_drewN ?_ _ | refine blk_drew ?_ | refine blk_alloc ?_ _)); refine blk_put (cs := #[.int .i64 t486, .slice none 0 0, .slice none 0 0, .bool false]) ?_ 1 _ rfl; (with_reducible repeat (first | refine blk_drewN ?_ _ | refine blk_drew ?_ | refine blk_alloc ?_ _)); refine blk_put (cs := #[.int .i64 0, .slice none 0 0, .slice none 0 0, .bool false]) ?_ 0 _ rfl; (with_reducible repeat (first | refine blk_drewN ?_ _ | refine blk_drew ?_ | refine blk_alloc ?_ _)); exact BK497.out) hb); have n8_ := Aside0.mk (below_step (by repeat (first | (with_reducible first | exact HB.out | apply below_alloc | apply pw_below_drewN | apply below_drew1 | refine below_set ?_ GE472.out | refine below_set ?_ GE485.out | refine below_set ?_ GE497.out) | exact HB.out)) hb); clear HO_18; clear HO_473001; clear HO_473002; clear HO489; clear HO492; clear BK472; clear BK485; clear BK497; clear HB; have HO_18 := n0_; have HO_473001 := n1_; have HO_473002 := n2_; have HO489 := n3_; have HO492 := n4_; have BK472 := n5_; have BK485 := n6_; have BK497 := n7_; have HB := n8_; clear n0_ n1_ n2_ n3_ n4_ n5_ n6_ n7_ n8_; (try clear hb); (try clear hb2); (try clear hk); (try clear hi); have hnb107 := NB485_472.out; have hnc107 := NB472_485.out; have hcz108_0 : w106.cell? ⟨gb485, 0, none⟩ = some (.int .i64 ((rd_T29 t475 x21_59).f0)) := (blk_cell BK485.out 0).trans rfl; have hcz108_1 : w106.cell? ⟨gb485, 1, none⟩ = some (.int .i64 ((rd_T29 t475 x21_59).f1)) := (blk_cell BK485.out 1).trans rfl; have hfz108_0 := blk_frozen BK485.out 0; have hfz108_1 := blk_frozen BK485.out 1))
                      go_meet
                      case rel => exact ⟨_, (false), (by first | rfl | (simp; done) | (simp [*]; done)), H', ⟨by have := HJ9.out; have := HK2.out; have := HJ46.out; have := HJ59.out; have := HJ64.out; first | omega | exact Nat.le_refl _⟩, ⟨by (with_reducible repeat (first | apply Kd.R_alloc | apply Kd.R_drewN | apply Kd.R_drew)); exact Kd.R_mono HO_473001.out (fun _ hk => ⟨hk.1.1, ⟨hk.1.2, hk.2⟩⟩)⟩, ⟨by (with_reducible repeat (first | apply Kd.R_alloc | apply Kd.R_drewN | apply Kd.R_drew)); exact Kd.R_mono HO_473002.out (fun _ hk => ⟨hk.1.1, ⟨hk.1.2, hk.2⟩⟩)⟩, ⟨by (with_reducible repeat (first | apply Kd.R_alloc | apply Kd.R_drewN | apply Kd.R_drew)); exact Kd.R_mono HO489.out (fun _ hk => ⟨hk.1.2, ⟨hk.2, hk.1.1⟩⟩)⟩, ⟨by (with_reducible repeat (first | apply Kd.R_alloc | apply Kd.R_drewN | apply Kd.R_drew)); exact Kd.R_mono HO492.out (fun _ hk => ⟨hk.1.2, ⟨hk.2, hk.1.1⟩⟩)⟩, ⟨by (with_reducible repeat (first | refine blk_drewN ?_ _ | refine blk_drew ?_ | refine blk_alloc ?_ _)); exact BK472.out⟩, ⟨by (with_reducible repeat (first | refine blk_drewN ?_ _ | refine blk_drew ?_ | refine blk_alloc ?_ _)); exact BK485.out⟩, ⟨by (with_reducible repeat (first | refine blk_drewN ?_ _ | refine blk_drew ?_ | refine blk_alloc ?_ _)); exact BK497.out⟩, ⟨by repeat (first | (with_reducible first | exact HB.out | apply below_alloc | apply pw_below_drewN | apply below_drew1 | refine below_set ?_ GE472.out | refine below_set ?_ GE485.out | refine below_set ?_ GE497.out) | exact HB.out)⟩⟩
                    ·rw [if_neg c95] at H
                     have c95b0 : (((rd_T29 t475 x21_59).f0) == 0) = false := beq_eq_false_iff_ne.mpr c95
                     have c95b1 : (((rd_T29 t475 x21_59).f0) != 0) = true := bne_iff_ne.mpr c95
                     have H' := Aside0.mk H
                     clear H
                     have hnb109 := NB497_472.out
                     have hnc109 := NB472_497.out
                     have hnb110 := NB497_485.out
                     have hnc110 := NB485_497.out
                     have hcz111_0 : w79.cell? ⟨gb497, 0, none⟩ = some (.int .i64 0) := (blk_cell BK497.out 0).trans rfl
                     have hcz111_1 : w79.cell? ⟨gb497, 1, none⟩ = some (.slice none 0 0) := (blk_cell BK497.out 1).trans rfl
                     have hcz111_2 : w79.cell? ⟨gb497, 2, none⟩ = some (.slice none 0 0) := (blk_cell BK497.out 2).trans rfl
                     have hcz111_3 : w79.cell? ⟨gb497, 3, none⟩ = some (.bool false) := (blk_cell BK497.out 3).trans rfl
                     have hfz111_0 := blk_frozen BK497.out 0
                     have hfz111_1 := blk_frozen BK497.out 1
                     have hfz111_2 := blk_frozen BK497.out 2
                     have hfz111_3 := blk_frozen BK497.out 3
                     go_wp2_with (first | (go_at_call 34; (with_reducible refine (winnowlaw19_sized.calls t486 _ _ t487 _ _ t490 t493 t460 t461 true _ ?side1 ?side2 ?side3 ?side4 A86.out).mono ?_); (case side1 => refine (Kd.R_reads' (e := 38) (base := w.heap.size) (ok := fun k_ => ((some k_ ≠ (.slice Ao84 t490.length co84 : Value).ownBlock ∧ some k_ ≠ (.slice Ao49 x473001_2.length co49 : Value).ownBlock) ∧ some k_ ≠ (.slice Ao50 x473002_2.length co50 : Value).ownBlock)) (n := t487.length) (c := co83) ?_).2.2; exact (by (with_reducible repeat (first | apply Kd.R_alloc | apply Kd.R_drewN | apply Kd.R_drew)); exact (Kd.R_mono (Kd.R_far (p := ⟨gb497, 3, none⟩) (Kd.R_far (p := ⟨gb497, 2, none⟩) (Kd.R_far (p := ⟨gb497, 1, none⟩) (Kd.R_far (p := ⟨gb497, 0, none⟩) (Kd.R_types HO489.out BK497.out (by decide)) (fun _ hk => hk.2) (.int .i64 t486)) (fun _ hk => hk.2) (.slice Ao83 t487.length co83)) (fun _ hk => hk.2) (.slice Ao84 t490.length co84)) (fun _ hk => hk.2) (.bool t493)) (fun _ h_ => h_.1)))); (case side2 => exact (Kd.R_reads' HO489.out).2.1); (case side3 => refine (Kd.R_reads' (e := 38) (base := w.heap.size) (ok := fun k_ => ((some k_ ≠ (.slice Ao83 t487.length co83 : Value).ownBlock ∧ some k_ ≠ (.slice Ao49 x473001_2.length co49 : Value).ownBlock) ∧ some k_ ≠ (.slice Ao50 x473002_2.length co50 : Value).ownBlock)) (n := t490.length) (c := co84) ?_).2.2; exact (by (with_reducible repeat (first | apply Kd.R_alloc | apply Kd.R_drewN | apply Kd.R_drew)); exact (Kd.R_mono (Kd.R_far (p := ⟨gb497, 3, none⟩) (Kd.R_far (p := ⟨gb497, 2, none⟩) (Kd.R_far (p := ⟨gb497, 1, none⟩) (Kd.R_far (p := ⟨gb497, 0, none⟩) (Kd.R_types HO492.out BK497.out (by decide)) (fun _ hk => hk.2) (.int .i64 t486)) (fun _ hk => hk.2) (.slice Ao83 t487.length co83)) (fun _ hk => hk.2) (.slice Ao84 t490.length co84)) (fun _ hk => hk.2) (.bool t493)) (fun _ h_ => h_.1)))); (case side4 => exact (Kd.R_reads' HO492.out).2.1); rintro e w112 ⟨rfl, hb⟩; have n0_ := Aside0.mk (Kd.R_below (by (with_reducible repeat (first | apply Kd.R_alloc | apply Kd.R_drewN | apply Kd.R_drew)); exact (Kd.R_mono (Kd.R_far (p := ⟨gb497, 3, none⟩) (Kd.R_far (p := ⟨gb497, 2, none⟩) (Kd.R_far (p := ⟨gb497, 1, none⟩) (Kd.R_far (p := ⟨gb497, 0, none⟩) (Kd.R_types HO_18.out BK497.out (by decide)) (fun _ hk => hk.2) (.int .i64 t486)) (fun _ hk => hk.2) (.slice Ao83 t487.length co83)) (fun _ hk => hk.2) (.slice Ao84 t490.length co84)) (fun _ hk => hk.2) (.bool t493)) (fun _ h_ => h_.1))) hb); have n1_ := Aside0.mk (Kd.R_below (by (with_reducible repeat (first | apply Kd.R_alloc | apply Kd.R_drewN | apply Kd.R_drew)); exact (Kd.R_mono (Kd.R_far (p := ⟨gb497, 3, none⟩) (Kd.R_far (p := ⟨gb497, 2, none⟩) (Kd.R_far (p := ⟨gb497, 1, none⟩) (Kd.R_far (p := ⟨gb497, 0, none⟩) (Kd.R_types HO_473001.out BK497.out (by decide)) (fun _ hk => hk.2) (.int .i64 t486)) (fun _ hk => hk.2) (.slice Ao83 t487.length co83)) (fun _ hk => hk.2) (.slice Ao84 t490.length co84)) (fun _ hk => hk.2) (.bool t493)) (fun _ h_ => h_.1))) hb); have n2_ := Aside0.mk (Kd.R_below (by (with_reducible repeat (first | apply Kd.R_alloc | apply Kd.R_drewN | apply Kd.R_drew)); exact (Kd.R_mono (Kd.R_far (p := ⟨gb497, 3, none⟩) (Kd.R_far (p := ⟨gb497, 2, none⟩) (Kd.R_far (p := ⟨gb497, 1, none⟩) (Kd.R_far (p := ⟨gb497, 0, none⟩) (Kd.R_types HO_473002.out BK497.out (by decide)) (fun _ hk => hk.2) (.int .i64 t486)) (fun _ hk => hk.2) (.slice Ao83 t487.length co83)) (fun _ hk => hk.2) (.slice Ao84 t490.length co84)) (fun _ hk => hk.2) (.bool t493)) (fun _ h_ => h_.1))) hb); have n3_ := Aside0.mk (Kd.R_below (by (with_reducible repeat (first | apply Kd.R_alloc | apply Kd.R_drewN | apply Kd.R_drew)); exact (Kd.R_mono (Kd.R_far (p := ⟨gb497, 3, none⟩) (Kd.R_far (p := ⟨gb497, 2, none⟩) (Kd.R_far (p := ⟨gb497, 1, none⟩) (Kd.R_far (p := ⟨gb497, 0, none⟩) (Kd.R_types HO489.out BK497.out (by decide)) (fun _ hk => hk.2) (.int .i64 t486)) (fun _ hk => hk.2) (.slice Ao83 t487.length co83)) (fun _ hk => hk.2) (.slice Ao84 t490.length co84)) (fun _ hk => hk.2) (.bool t493)) (fun _ h_ => h_.1))) hb); have n4_ := Aside0.mk (Kd.R_below (by (with_reducible repeat (first | apply Kd.R_alloc | apply Kd.R_drewN | apply Kd.R_drew)); exact (Kd.R_mono (Kd.R_far (p := ⟨gb497, 3, none⟩) (Kd.R_far (p := ⟨gb497, 2, none⟩) (Kd.R_far (p := ⟨gb497, 1, none⟩) (Kd.R_far (p := ⟨gb497, 0, none⟩) (Kd.R_types HO492.out BK497.out (by decide)) (fun _ hk => hk.2) (.int .i64 t486)) (fun _ hk => hk.2) (.slice Ao83 t487.length co83)) (fun _ hk => hk.2) (.slice Ao84 t490.length co84)) (fun _ hk => hk.2) (.bool t493)) (fun _ h_ => h_.1))) hb); have n5_ := Aside0.mk (blk_below (g := gb472) (o := .cells #[.int .i64 x473000_2, .slice Ao49 x473001_2.length co49, .slice Ao50 x473002_2.length co50, .bool x473003_2] 24 (0, 0)) (by (with_reducible repeat (first | refine blk_drewN ?_ _ | refine blk_drew ?_ | refine blk_alloc ?_ _)); refine blk_far ?_ NB472_497.out _; (with_reducible repeat (first | refine blk_drewN ?_ _ | refine blk_drew ?_ | refine blk_alloc ?_ _)); refine blk_far ?_ NB472_497.out _; (with_reducible repeat (first | refine blk_drewN ?_ _ | refine blk_drew ?_ | refine blk_alloc ?_ _)); refine blk_far ?_ NB472_497.out _; (with_reducible repeat (first | refine blk_drewN ?_ _ | refine blk_drew ?_ | refine blk_alloc ?_ _)); refine blk_far ?_ NB472_497.out _; (with_reducible repeat (first | refine blk_drewN ?_ _ | refine blk_drew ?_ | refine blk_alloc ?_ _)); exact BK472.out) hb); have n6_ := Aside0.mk (blk_below (g := gb485) (o := .cells #[.int .i64 ((rd_T29 t475 x21_59).f0), .int .i64 ((rd_T29 t475 x21_59).f1)] 29 (0, 0)) (by (with_reducible repeat (first | refine blk_drewN ?_ _ | refine blk_drew ?_ | refine blk_alloc ?_ _)); refine blk_far ?_ NB485_497.out _; (with_reducible repeat (first | refine blk_drewN ?_ _ | refine blk_drew ?_ | refine blk_alloc ?_ _)); refine blk_far ?_ NB485_497.out _; (with_reducible repeat (first | refine blk_drewN ?_ _ | refine blk_drew ?_ | refine blk_alloc ?_ _)); refine blk_far ?_ NB485_497.out _; (with_reducible repeat (first | refine blk_drewN ?_ _ | refine blk_drew ?_ | refine blk_alloc ?_ _)); refine blk_far ?_ NB485_497.out _; (with_reducible repeat (first | refine blk_drewN ?_ _ | refine blk_drew ?_ | refine blk_alloc ?_ _)); exact BK485.out) hb); have n7_ := Aside0.mk (blk_below (g := gb497) (o := .cells #[.int .i64 t486, .slice Ao83 t487.length co83, .slice Ao84 t490.length co84, .bool t493] 24 (0, 0)) (by (with_reducible repeat (first | refine blk_drewN ?_ _ | refine blk_drew ?_ | refine blk_alloc ?_ _)); refine blk_put (cs := #[.int .i64 t486, .slice Ao83 t487.length co83, .slice Ao84 t490.length co84, .bool false]) ?_ 3 _ rfl; (with_reducible repeat (first | refine blk_drewN ?_ _ | refine blk_drew ?_ | refine blk_alloc ?_ _)); refine blk_put (cs := #[.int .i64 t486, .slice Ao83 t487.length co83, .slice none 0 0, .bool false]) ?_ 2 _ rfl; (with_reducible repeat (first | refine blk_drewN ?_ _ | refine blk_drew ?_ | refine blk_alloc ?_ _)); refine blk_put (cs := #[.int .i64 t486, .slice none 0 0, .slice none 0 0, .bool false]) ?_ 1 _ rfl; (with_reducible repeat (first | refine blk_drewN ?_ _ | refine blk_drew ?_ | refine blk_alloc ?_ _)); refine blk_put (cs := #[.int .i64 0, .slice none 0 0, .slice none 0 0, .bool false]) ?_ 0 _ rfl; (with_reducible repeat (first | refine blk_drewN ?_ _ | refine blk_drew ?_ | refine blk_alloc ?_ _)); exact BK497.out) hb); have n8_ := Aside0.mk (below_step (by repeat (first | (with_reducible first | exact HB.out | apply below_alloc | apply pw_below_drewN | apply below_drew1 | refine below_set ?_ GE472.out | refine below_set ?_ GE485.out | refine below_set ?_ GE497.out) | exact HB.out)) hb); clear HO_18; clear HO_473001; clear HO_473002; clear HO489; clear HO492; clear BK472; clear BK485; clear BK497; clear HB; have HO_18 := n0_; have HO_473001 := n1_; have HO_473002 := n2_; have HO489 := n3_; have HO492 := n4_; have BK472 := n5_; have BK485 := n6_; have BK497 := n7_; have HB := n8_; clear n0_ n1_ n2_ n3_ n4_ n5_ n6_ n7_ n8_; (try clear hb); (try clear hb2); (try clear hk); (try clear hi); have hnb113 := NB485_472.out; have hnc113 := NB472_485.out; have hcz114_0 : w112.cell? ⟨gb485, 0, none⟩ = some (.int .i64 ((rd_T29 t475 x21_59).f0)) := (blk_cell BK485.out 0).trans rfl; have hcz114_1 : w112.cell? ⟨gb485, 1, none⟩ = some (.int .i64 ((rd_T29 t475 x21_59).f1)) := (blk_cell BK485.out 1).trans rfl; have hfz114_0 := blk_frozen BK485.out 0; have hfz114_1 := blk_frozen BK485.out 1))
                     go_meet
                     case rel => exact ⟨_, (decide (((rd_T29 t475 x21_59).f1) ≥ t461)), (by first | rfl | (simp; done) | (simp [*]; done)), H', ⟨by have := HJ9.out; have := HK2.out; have := HJ46.out; have := HJ59.out; have := HJ64.out; first | omega | exact Nat.le_refl _⟩, ⟨by (with_reducible repeat (first | apply Kd.R_alloc | apply Kd.R_drewN | apply Kd.R_drew)); exact Kd.R_mono HO_473001.out (fun _ hk => ⟨hk.1.1, ⟨hk.1.2, hk.2⟩⟩)⟩, ⟨by (with_reducible repeat (first | apply Kd.R_alloc | apply Kd.R_drewN | apply Kd.R_drew)); exact Kd.R_mono HO_473002.out (fun _ hk => ⟨hk.1.1, ⟨hk.1.2, hk.2⟩⟩)⟩, ⟨by (with_reducible repeat (first | apply Kd.R_alloc | apply Kd.R_drewN | apply Kd.R_drew)); exact Kd.R_mono HO489.out (fun _ hk => ⟨hk.1.2, ⟨hk.2, hk.1.1⟩⟩)⟩, ⟨by (with_reducible repeat (first | apply Kd.R_alloc | apply Kd.R_drewN | apply Kd.R_drew)); exact Kd.R_mono HO492.out (fun _ hk => ⟨hk.1.2, ⟨hk.2, hk.1.1⟩⟩)⟩, ⟨by (with_reducible repeat (first | refine blk_drewN ?_ _ | refine blk_drew ?_ | refine blk_alloc ?_ _)); exact BK472.out⟩, ⟨by (with_reducible repeat (first | refine blk_drewN ?_ _ | refine blk_drew ?_ | refine blk_alloc ?_ _)); exact BK485.out⟩, ⟨by (with_reducible repeat (first | refine blk_drewN ?_ _ | refine blk_drew ?_ | refine blk_alloc ?_ _)); exact BK497.out⟩, ⟨by repeat (first | (with_reducible first | exact HB.out | apply below_alloc | apply pw_below_drewN | apply below_drew1 | refine below_set ?_ GE472.out | refine below_set ?_ GE485.out | refine below_set ?_ GE497.out) | exact HB.out)⟩⟩
                  ·replace c87 := Bool.eq_false_iff.mpr c87
                   subst c87
                   have H1 : (winnowlaw19_LedgerComes.j5 kj64 l3 l4 t460 t461 t462 x16_2 x17_2 x22_64 true ((rd_T29 t475 x21_59).f0) ((rd_T29 t475 x21_59).f1) t486 t487 t490 t493) = some r := by rw [if_neg (show ¬ (false = true) by decide)] at H; exact H
                   clear H
                   have H := H1
                   clear H1
                   have H' := Aside0.mk H
                   clear H
                   have hnb115 := NB497_472.out
                   have hnc115 := NB472_497.out
                   have hnb116 := NB497_485.out
                   have hnc116 := NB485_497.out
                   have hcz117_0 : w79.cell? ⟨gb497, 0, none⟩ = some (.int .i64 0) := (blk_cell BK497.out 0).trans rfl
                   have hcz117_1 : w79.cell? ⟨gb497, 1, none⟩ = some (.slice none 0 0) := (blk_cell BK497.out 1).trans rfl
                   have hcz117_2 : w79.cell? ⟨gb497, 2, none⟩ = some (.slice none 0 0) := (blk_cell BK497.out 2).trans rfl
                   have hcz117_3 : w79.cell? ⟨gb497, 3, none⟩ = some (.bool false) := (blk_cell BK497.out 3).trans rfl
                   have hfz117_0 := blk_frozen BK497.out 0
                   have hfz117_1 := blk_frozen BK497.out 1
                   have hfz117_2 := blk_frozen BK497.out 2
                   have hfz117_3 := blk_frozen BK497.out 3
                   go_wp2_with (first | (go_at_call 34; (with_reducible refine (winnowlaw19_sized.calls t486 _ _ t487 _ _ t490 t493 t460 t461 false _ ?side1 ?side2 ?side3 ?side4 A86.out).mono ?_); (case side1 => refine (Kd.R_reads' (e := 38) (base := w.heap.size) (ok := fun k_ => ((some k_ ≠ (.slice Ao84 t490.length co84 : Value).ownBlock ∧ some k_ ≠ (.slice Ao49 x473001_2.length co49 : Value).ownBlock) ∧ some k_ ≠ (.slice Ao50 x473002_2.length co50 : Value).ownBlock)) (n := t487.length) (c := co83) ?_).2.2; exact (by (with_reducible repeat (first | apply Kd.R_alloc | apply Kd.R_drewN | apply Kd.R_drew)); exact (Kd.R_mono (Kd.R_far (p := ⟨gb497, 3, none⟩) (Kd.R_far (p := ⟨gb497, 2, none⟩) (Kd.R_far (p := ⟨gb497, 1, none⟩) (Kd.R_far (p := ⟨gb497, 0, none⟩) (Kd.R_types HO489.out BK497.out (by decide)) (fun _ hk => hk.2) (.int .i64 t486)) (fun _ hk => hk.2) (.slice Ao83 t487.length co83)) (fun _ hk => hk.2) (.slice Ao84 t490.length co84)) (fun _ hk => hk.2) (.bool t493)) (fun _ h_ => h_.1)))); (case side2 => exact (Kd.R_reads' HO489.out).2.1); (case side3 => refine (Kd.R_reads' (e := 38) (base := w.heap.size) (ok := fun k_ => ((some k_ ≠ (.slice Ao83 t487.length co83 : Value).ownBlock ∧ some k_ ≠ (.slice Ao49 x473001_2.length co49 : Value).ownBlock) ∧ some k_ ≠ (.slice Ao50 x473002_2.length co50 : Value).ownBlock)) (n := t490.length) (c := co84) ?_).2.2; exact (by (with_reducible repeat (first | apply Kd.R_alloc | apply Kd.R_drewN | apply Kd.R_drew)); exact (Kd.R_mono (Kd.R_far (p := ⟨gb497, 3, none⟩) (Kd.R_far (p := ⟨gb497, 2, none⟩) (Kd.R_far (p := ⟨gb497, 1, none⟩) (Kd.R_far (p := ⟨gb497, 0, none⟩) (Kd.R_types HO492.out BK497.out (by decide)) (fun _ hk => hk.2) (.int .i64 t486)) (fun _ hk => hk.2) (.slice Ao83 t487.length co83)) (fun _ hk => hk.2) (.slice Ao84 t490.length co84)) (fun _ hk => hk.2) (.bool t493)) (fun _ h_ => h_.1)))); (case side4 => exact (Kd.R_reads' HO492.out).2.1); rintro e w118 ⟨rfl, hb⟩; have n0_ := Aside0.mk (Kd.R_below (by (with_reducible repeat (first | apply Kd.R_alloc | apply Kd.R_drewN | apply Kd.R_drew)); exact (Kd.R_mono (Kd.R_far (p := ⟨gb497, 3, none⟩) (Kd.R_far (p := ⟨gb497, 2, none⟩) (Kd.R_far (p := ⟨gb497, 1, none⟩) (Kd.R_far (p := ⟨gb497, 0, none⟩) (Kd.R_types HO_18.out BK497.out (by decide)) (fun _ hk => hk.2) (.int .i64 t486)) (fun _ hk => hk.2) (.slice Ao83 t487.length co83)) (fun _ hk => hk.2) (.slice Ao84 t490.length co84)) (fun _ hk => hk.2) (.bool t493)) (fun _ h_ => h_.1))) hb); have n1_ := Aside0.mk (Kd.R_below (by (with_reducible repeat (first | apply Kd.R_alloc | apply Kd.R_drewN | apply Kd.R_drew)); exact (Kd.R_mono (Kd.R_far (p := ⟨gb497, 3, none⟩) (Kd.R_far (p := ⟨gb497, 2, none⟩) (Kd.R_far (p := ⟨gb497, 1, none⟩) (Kd.R_far (p := ⟨gb497, 0, none⟩) (Kd.R_types HO_473001.out BK497.out (by decide)) (fun _ hk => hk.2) (.int .i64 t486)) (fun _ hk => hk.2) (.slice Ao83 t487.length co83)) (fun _ hk => hk.2) (.slice Ao84 t490.length co84)) (fun _ hk => hk.2) (.bool t493)) (fun _ h_ => h_.1))) hb); have n2_ := Aside0.mk (Kd.R_below (by (with_reducible repeat (first | apply Kd.R_alloc | apply Kd.R_drewN | apply Kd.R_drew)); exact (Kd.R_mono (Kd.R_far (p := ⟨gb497, 3, none⟩) (Kd.R_far (p := ⟨gb497, 2, none⟩) (Kd.R_far (p := ⟨gb497, 1, none⟩) (Kd.R_far (p := ⟨gb497, 0, none⟩) (Kd.R_types HO_473002.out BK497.out (by decide)) (fun _ hk => hk.2) (.int .i64 t486)) (fun _ hk => hk.2) (.slice Ao83 t487.length co83)) (fun _ hk => hk.2) (.slice Ao84 t490.length co84)) (fun _ hk => hk.2) (.bool t493)) (fun _ h_ => h_.1))) hb); have n3_ := Aside0.mk (Kd.R_below (by (with_reducible repeat (first | apply Kd.R_alloc | apply Kd.R_drewN | apply Kd.R_drew)); exact (Kd.R_mono (Kd.R_far (p := ⟨gb497, 3, none⟩) (Kd.R_far (p := ⟨gb497, 2, none⟩) (Kd.R_far (p := ⟨gb497, 1, none⟩) (Kd.R_far (p := ⟨gb497, 0, none⟩) (Kd.R_types HO489.out BK497.out (by decide)) (fun _ hk => hk.2) (.int .i64 t486)) (fun _ hk => hk.2) (.slice Ao83 t487.length co83)) (fun _ hk => hk.2) (.slice Ao84 t490.length co84)) (fun _ hk => hk.2) (.bool t493)) (fun _ h_ => h_.1))) hb); have n4_ := Aside0.mk (Kd.R_below (by (with_reducible repeat (first | apply Kd.R_alloc | apply Kd.R_drewN | apply Kd.R_drew)); exact (Kd.R_mono (Kd.R_far (p := ⟨gb497, 3, none⟩) (Kd.R_far (p := ⟨gb497, 2, none⟩) (Kd.R_far (p := ⟨gb497, 1, none⟩) (Kd.R_far (p := ⟨gb497, 0, none⟩) (Kd.R_types HO492.out BK497.out (by decide)) (fun _ hk => hk.2) (.int .i64 t486)) (fun _ hk => hk.2) (.slice Ao83 t487.length co83)) (fun _ hk => hk.2) (.slice Ao84 t490.length co84)) (fun _ hk => hk.2) (.bool t493)) (fun _ h_ => h_.1))) hb); have n5_ := Aside0.mk (blk_below (g := gb472) (o := .cells #[.int .i64 x473000_2, .slice Ao49 x473001_2.length co49, .slice Ao50 x473002_2.length co50, .bool x473003_2] 24 (0, 0)) (by (with_reducible repeat (first | refine blk_drewN ?_ _ | refine blk_drew ?_ | refine blk_alloc ?_ _)); refine blk_far ?_ NB472_497.out _; (with_reducible repeat (first | refine blk_drewN ?_ _ | refine blk_drew ?_ | refine blk_alloc ?_ _)); refine blk_far ?_ NB472_497.out _; (with_reducible repeat (first | refine blk_drewN ?_ _ | refine blk_drew ?_ | refine blk_alloc ?_ _)); refine blk_far ?_ NB472_497.out _; (with_reducible repeat (first | refine blk_drewN ?_ _ | refine blk_drew ?_ | refine blk_alloc ?_ _)); refine blk_far ?_ NB472_497.out _; (with_reducible repeat (first | refine blk_drewN ?_ _ | refine blk_drew ?_ | refine blk_alloc ?_ _)); exact BK472.out) hb); have n6_ := Aside0.mk (blk_below (g := gb485) (o := .cells #[.int .i64 ((rd_T29 t475 x21_59).f0), .int .i64 ((rd_T29 t475 x21_59).f1)] 29 (0, 0)) (by (with_reducible repeat (first | refine blk_drewN ?_ _ | refine blk_drew ?_ | refine blk_alloc ?_ _)); refine blk_far ?_ NB485_497.out _; (with_reducible repeat (first | refine blk_drewN ?_ _ | refine blk_drew ?_ | refine blk_alloc ?_ _)); refine blk_far ?_ NB485_497.out _; (with_reducible repeat (first | refine blk_drewN ?_ _ | refine blk_drew ?_ | refine blk_alloc ?_ _)); refine blk_far ?_ NB485_497.out _; (with_reducible repeat (first | refine blk_drewN ?_ _ | refine blk_drew ?_ | refine blk_alloc ?_ _)); refine blk_far ?_ NB485_497.out _; (with_reducible repeat (first | refine blk_drewN ?_ _ | refine blk_drew ?_ | refine blk_alloc ?_ _)); exact BK485.out) hb); have n7_ := Aside0.mk (blk_below (g := gb497) (o := .cells #[.int .i64 t486, .slice Ao83 t487.length co83, .slice Ao84 t490.length co84, .bool t493] 24 (0, 0)) (by (with_reducible repeat (first | refine blk_drewN ?_ _ | refine blk_drew ?_ | refine blk_alloc ?_ _)); refine blk_put (cs := #[.int .i64 t486, .slice Ao83 t487.length co83, .slice Ao84 t490.length co84, .bool false]) ?_ 3 _ rfl; (with_reducible repeat (first | refine blk_drewN ?_ _ | refine blk_drew ?_ | refine blk_alloc ?_ _)); refine blk_put (cs := #[.int .i64 t486, .slice Ao83 t487.length co83, .slice none 0 0, .bool false]) ?_ 2 _ rfl; (with_reducible repeat (first | refine blk_drewN ?_ _ | refine blk_drew ?_ | refine blk_alloc ?_ _)); refine blk_put (cs := #[.int .i64 t486, .slice none 0 0, .slice none 0 0, .bool false]) ?_ 1 _ rfl; (with_reducible repeat (first | refine blk_drewN ?_ _ | refine blk_drew ?_ | refine blk_alloc ?_ _)); refine blk_put (cs := #[.int .i64 0, .slice none 0 0, .slice none 0 0, .bool false]) ?_ 0 _ rfl; (with_reducible repeat (first | refine blk_drewN ?_ _ | refine blk_drew ?_ | refine blk_alloc ?_ _)); exact BK497.out) hb); have n8_ := Aside0.mk (below_step (by repeat (first | (with_reducible first | exact HB.out | apply below_alloc | apply pw_below_drewN | apply below_drew1 | refine below_set ?_ GE472.out | refine below_set ?_ GE485.out | refine below_set ?_ GE497.out) | exact HB.out)) hb); clear HO_18; clear HO_473001; clear HO_473002; clear HO489; clear HO492; clear BK472; clear BK485; clear BK497; clear HB; have HO_18 := n0_; have HO_473001 := n1_; have HO_473002 := n2_; have HO489 := n3_; have HO492 := n4_; have BK472 := n5_; have BK485 := n6_; have BK497 := n7_; have HB := n8_; clear n0_ n1_ n2_ n3_ n4_ n5_ n6_ n7_ n8_; (try clear hb); (try clear hb2); (try clear hk); (try clear hi)))
                   go_meet
                   case rel => exact ⟨_, (true), (by first | rfl | (simp; done) | (simp [*]; done)), H', ⟨by have := HJ9.out; have := HK2.out; have := HJ46.out; have := HJ59.out; have := HJ64.out; first | omega | exact Nat.le_refl _⟩, ⟨by (with_reducible repeat (first | apply Kd.R_alloc | apply Kd.R_drewN | apply Kd.R_drew)); exact Kd.R_mono HO_473001.out (fun _ hk => ⟨hk.1.1, ⟨hk.1.2, hk.2⟩⟩)⟩, ⟨by (with_reducible repeat (first | apply Kd.R_alloc | apply Kd.R_drewN | apply Kd.R_drew)); exact Kd.R_mono HO_473002.out (fun _ hk => ⟨hk.1.1, ⟨hk.1.2, hk.2⟩⟩)⟩, ⟨by (with_reducible repeat (first | apply Kd.R_alloc | apply Kd.R_drewN | apply Kd.R_drew)); exact Kd.R_mono HO489.out (fun _ hk => ⟨hk.1.2, ⟨hk.2, hk.1.1⟩⟩)⟩, ⟨by (with_reducible repeat (first | apply Kd.R_alloc | apply Kd.R_drewN | apply Kd.R_drew)); exact Kd.R_mono HO492.out (fun _ hk => ⟨hk.1.2, ⟨hk.2, hk.1.1⟩⟩)⟩, ⟨by (with_reducible repeat (first | refine blk_drewN ?_ _ | refine blk_drew ?_ | refine blk_alloc ?_ _)); exact BK472.out⟩, ⟨by (with_reducible repeat (first | refine blk_drewN ?_ _ | refine blk_drew ?_ | refine blk_alloc ?_ _)); exact BK485.out⟩, ⟨by (with_reducible repeat (first | refine blk_drewN ?_ _ | refine blk_drew ?_ | refine blk_alloc ?_ _)); exact BK497.out⟩, ⟨by repeat (first | (with_reducible first | exact HB.out | apply below_alloc | apply pw_below_drewN | apply below_drew1 | refine below_set ?_ GE472.out | refine below_set ?_ GE485.out | refine below_set ?_ GE497.out) | exact HB.out)⟩⟩
                 ·rw [if_neg c85] at H
                  have c85b0 : (t496 == 0) = false := beq_eq_false_iff_ne.mpr c85
                  have c85b1 : (t496 != 0) = true := bne_iff_ne.mpr c85
                  (first | rw [c85b0] | (simp only [i64_w, i32_w]; rw [c85b0]) | skip)
                  have H' := Aside0.mk H
                  clear H
                  go_wp2
                  go_meet
                  case rel => exact ⟨_, (true), (by first | rfl | (simp; done) | (simp [*]; done)), H', ⟨by have := HJ9.out; have := HK2.out; have := HJ46.out; have := HJ59.out; have := HJ64.out; first | omega | exact Nat.le_refl _⟩, ⟨by (with_reducible repeat (first | apply Kd.R_alloc | apply Kd.R_drewN | apply Kd.R_drew)); exact Kd.R_mono (Kd.R_far (p := ⟨gb497, 3, none⟩) (Kd.R_far (p := ⟨gb497, 2, none⟩) (Kd.R_far (p := ⟨gb497, 1, none⟩) (Kd.R_far (p := ⟨gb497, 0, none⟩) (Kd.R_types HO_473001.out BK497.out (by decide)) (fun _ hk => hk.2) (.int .i64 t486)) (fun _ hk => hk.2) (.slice Ao83 t487.length co83)) (fun _ hk => hk.2) (.slice Ao84 t490.length co84)) (fun _ hk => hk.2) (.bool t493)) (fun _ hk => ⟨hk.1.1.1, ⟨hk.1.1.2, hk.1.2⟩⟩)⟩, ⟨by (with_reducible repeat (first | apply Kd.R_alloc | apply Kd.R_drewN | apply Kd.R_drew)); exact Kd.R_mono (Kd.R_far (p := ⟨gb497, 3, none⟩) (Kd.R_far (p := ⟨gb497, 2, none⟩) (Kd.R_far (p := ⟨gb497, 1, none⟩) (Kd.R_far (p := ⟨gb497, 0, none⟩) (Kd.R_types HO_473002.out BK497.out (by decide)) (fun _ hk => hk.2) (.int .i64 t486)) (fun _ hk => hk.2) (.slice Ao83 t487.length co83)) (fun _ hk => hk.2) (.slice Ao84 t490.length co84)) (fun _ hk => hk.2) (.bool t493)) (fun _ hk => ⟨hk.1.1.1, ⟨hk.1.1.2, hk.1.2⟩⟩)⟩, ⟨by (with_reducible repeat (first | apply Kd.R_alloc | apply Kd.R_drewN | apply Kd.R_drew)); exact Kd.R_mono (Kd.R_far (p := ⟨gb497, 3, none⟩) (Kd.R_far (p := ⟨gb497, 2, none⟩) (Kd.R_far (p := ⟨gb497, 1, none⟩) (Kd.R_far (p := ⟨gb497, 0, none⟩) (Kd.R_types HO489.out BK497.out (by decide)) (fun _ hk => hk.2) (.int .i64 t486)) (fun _ hk => hk.2) (.slice Ao83 t487.length co83)) (fun _ hk => hk.2) (.slice Ao84 t490.length co84)) (fun _ hk => hk.2) (.bool t493)) (fun _ hk => ⟨hk.1.1.2, ⟨hk.1.2, hk.1.1.1⟩⟩)⟩, ⟨by (with_reducible repeat (first | apply Kd.R_alloc | apply Kd.R_drewN | apply Kd.R_drew)); exact Kd.R_mono (Kd.R_far (p := ⟨gb497, 3, none⟩) (Kd.R_far (p := ⟨gb497, 2, none⟩) (Kd.R_far (p := ⟨gb497, 1, none⟩) (Kd.R_far (p := ⟨gb497, 0, none⟩) (Kd.R_types HO492.out BK497.out (by decide)) (fun _ hk => hk.2) (.int .i64 t486)) (fun _ hk => hk.2) (.slice Ao83 t487.length co83)) (fun _ hk => hk.2) (.slice Ao84 t490.length co84)) (fun _ hk => hk.2) (.bool t493)) (fun _ hk => ⟨hk.1.1.2, ⟨hk.1.2, hk.1.1.1⟩⟩)⟩, ⟨by (with_reducible repeat (first | refine blk_drewN ?_ _ | refine blk_drew ?_ | refine blk_alloc ?_ _)); refine blk_far ?_ NB472_497.out _; (with_reducible repeat (first | refine blk_drewN ?_ _ | refine blk_drew ?_ | refine blk_alloc ?_ _)); refine blk_far ?_ NB472_497.out _; (with_reducible repeat (first | refine blk_drewN ?_ _ | refine blk_drew ?_ | refine blk_alloc ?_ _)); refine blk_far ?_ NB472_497.out _; (with_reducible repeat (first | refine blk_drewN ?_ _ | refine blk_drew ?_ | refine blk_alloc ?_ _)); refine blk_far ?_ NB472_497.out _; (with_reducible repeat (first | refine blk_drewN ?_ _ | refine blk_drew ?_ | refine blk_alloc ?_ _)); exact BK472.out⟩, ⟨by (with_reducible repeat (first | refine blk_drewN ?_ _ | refine blk_drew ?_ | refine blk_alloc ?_ _)); refine blk_far ?_ NB485_497.out _; (with_reducible repeat (first | refine blk_drewN ?_ _ | refine blk_drew ?_ | refine blk_alloc ?_ _)); refine blk_far ?_ NB485_497.out _; (with_reducible repeat (first | refine blk_drewN ?_ _ | refine blk_drew ?_ | refine blk_alloc ?_ _)); refine blk_far ?_ NB485_497.out _; (with_reducible repeat (first | refine blk_drewN ?_ _ | refine blk_drew ?_ | refine blk_alloc ?_ _)); refine blk_far ?_ NB485_497.out _; (with_reducible repeat (first | refine blk_drewN ?_ _ | refine blk_drew ?_ | refine blk_alloc ?_ _)); exact BK485.out⟩, ⟨by (with_reducible repeat (first | refine blk_drewN ?_ _ | refine blk_drew ?_ | refine blk_alloc ?_ _)); refine blk_put (cs := #[.int .i64 t486, .slice Ao83 t487.length co83, .slice Ao84 t490.length co84, .bool false]) ?_ 3 _ rfl; (with_reducible repeat (first | refine blk_drewN ?_ _ | refine blk_drew ?_ | refine blk_alloc ?_ _)); refine blk_put (cs := #[.int .i64 t486, .slice Ao83 t487.length co83, .slice none 0 0, .bool false]) ?_ 2 _ rfl; (with_reducible repeat (first | refine blk_drewN ?_ _ | refine blk_drew ?_ | refine blk_alloc ?_ _)); refine blk_put (cs := #[.int .i64 t486, .slice none 0 0, .slice none 0 0, .bool false]) ?_ 1 _ rfl; (with_reducible repeat (first | refine blk_drewN ?_ _ | refine blk_drew ?_ | refine blk_alloc ?_ _)); refine blk_put (cs := #[.int .i64 0, .slice none 0 0, .slice none 0 0, .bool false]) ?_ 0 _ rfl; (with_reducible repeat (first | refine blk_drewN ?_ _ | refine blk_drew ?_ | refine blk_alloc ?_ _)); exact BK497.out⟩, ⟨by repeat (first | (with_reducible first | exact HB.out | apply below_alloc | apply pw_below_drewN | apply below_drew1 | refine below_set ?_ GE472.out | refine below_set ?_ GE485.out | refine below_set ?_ GE497.out) | exact HB.out)⟩⟩
                case rest => as_aux_lemma =>
                 clear HC72
                 (try clear c1); (try clear c2); (try clear p2); (try clear c3); (try clear c4); (try clear p4); (try clear q4); (try clear hx4); (try clear c5); (try clear p5); (try clear q5); (try clear hx5); (try clear c6); (try clear p6); (try clear c7); (try clear c8); (try clear c9); (try clear c10); (try clear c11); (try clear c12); (try clear c16); (try clear c16b0); (try clear c16b1); (try clear c18); (try clear c20); (try clear c22); (try clear c27); (try clear c27b0); (try clear c28); (try clear c28b0); (try clear c29); (try clear c29b0); (try clear c30); (try clear c30b0); (try clear c30b1); (try clear c32); (try clear c33); (try clear c34); (try clear c38); (try clear c38b0); (try clear p48); (try clear q48); (try clear hx48); (try clear p51); (try clear q51); (try clear hx51); (try clear c56); (try clear c56b0); (try clear c56b1); (try clear c56b2); (try clear c59); (try clear c61); (try clear c61b0); (try clear c62); (try clear c62b0); (try clear p64); (try clear c66); (try clear c66b0); (try clear c67); (try clear c67b0); (try clear c69); (try clear c69b0); (try clear c70); (try clear c70b0); (try clear c75); (try clear c80); (try clear c81); (try clear c85); (try clear c85b0); (try clear c85b1); (try clear c87); (try clear c88); (try clear c88b0); (try clear c89); (try clear c90); (try clear c93); (try clear c95); (try clear c95b0); (try clear c95b1); (try clear c96); (try clear c96b0); (try clear c97); (try clear c98); (try clear c101); (try clear c103); (try clear c104); (try clear c107); (try clear c109); (try clear c110); (try clear c113); (try clear c115); (try clear c116); (try clear hcz102_0); (try clear hcz102_1); (try clear hcz105_0); (try clear hcz105_1); (try clear hcz105_2); (try clear hcz105_3); (try clear hcz108_0); (try clear hcz108_1); (try clear hcz111_0); (try clear hcz111_1); (try clear hcz111_2); (try clear hcz111_3); (try clear hcz114_0); (try clear hcz114_1); (try clear hcz117_0); (try clear hcz117_1); (try clear hcz117_2); (try clear hcz117_3)
                 (try clear hcz13_0); (try clear hcz13_1); (try clear hcz13_2); (try clear hcz13_3); (try clear hcz18_0); (try clear hcz18_1); (try clear hcz18_2); (try clear hcz18_3); (try clear hcz23_0); (try clear hcz23_1); (try clear hcz23_2); (try clear hcz23_3); (try clear hcz31_0); (try clear hcz31_1); (try clear hcz31_2); (try clear hcz31_3); (try clear hcz32_0); (try clear hcz32_1); (try clear hcz32_2); (try clear hcz32_3); (try clear hcz35_0); (try clear hcz35_1); (try clear hcz35_2); (try clear hcz35_3); (try clear hcz37_0); (try clear hcz37_1); (try clear hcz37_2); (try clear hcz37_3); (try clear hcz39_0); (try clear hcz39_1); (try clear hcz39_2); (try clear hcz39_3); (try clear hcz41_0); (try clear hcz41_1); (try clear hcz41_2); (try clear hcz41_3); (try clear hcz42_0); (try clear hcz42_1); (try clear hcz42_2); (try clear hcz42_3); (try clear hcz44_0); (try clear hcz44_1); (try clear hcz44_2); (try clear hcz44_3); (try clear hcz48_0); (try clear hcz48_1); (try clear hcz48_2); (try clear hcz48_3); (try clear hcz52_0); (try clear hcz52_1); (try clear hcz52_2); (try clear hcz52_3); (try clear hcz54_0); (try clear hcz54_1); (try clear hcz54_2); (try clear hcz54_3); (try clear hcz76_0); (try clear hcz76_1); (try clear hcz77_0); (try clear hcz77_1); (try clear hcz77_2); (try clear hcz77_3); (try clear hcz82_0); (try clear hcz82_1); (try clear hcz82_2); (try clear hcz82_3); (try clear hcz91_0); (try clear hcz91_1); (try clear hcz91_2); (try clear hcz91_3); (try clear hcz94_0); (try clear hcz94_1); (try clear hcz99_0); (try clear hcz99_1); (try clear hcz99_2); (try clear hcz99_3); (try clear hfz102_0); (try clear hfz102_1); (try clear hfz105_0); (try clear hfz105_1); (try clear hfz105_2); (try clear hfz105_3); (try clear hfz108_0); (try clear hfz108_1); (try clear hfz111_0); (try clear hfz111_1); (try clear hfz111_2); (try clear hfz111_3); (try clear hfz114_0); (try clear hfz114_1); (try clear hfz117_0); (try clear hfz117_1); (try clear hfz117_2); (try clear hfz117_3)
                 (try clear hfz13_0); (try clear hfz13_1); (try clear hfz13_2); (try clear hfz13_3); (try clear hfz18_0); (try clear hfz18_1); (try clear hfz18_2); (try clear hfz18_3); (try clear hfz23_0); (try clear hfz23_1); (try clear hfz23_2); (try clear hfz23_3); (try clear hfz31_0); (try clear hfz31_1); (try clear hfz31_2); (try clear hfz31_3); (try clear hfz32_0); (try clear hfz32_1); (try clear hfz32_2); (try clear hfz32_3); (try clear hfz35_0); (try clear hfz35_1); (try clear hfz35_2); (try clear hfz35_3); (try clear hfz37_0); (try clear hfz37_1); (try clear hfz37_2); (try clear hfz37_3); (try clear hfz39_0); (try clear hfz39_1); (try clear hfz39_2); (try clear hfz39_3); (try clear hfz41_0); (try clear hfz41_1); (try clear hfz41_2); (try clear hfz41_3); (try clear hfz42_0); (try clear hfz42_1); (try clear hfz42_2); (try clear hfz42_3); (try clear hfz44_0); (try clear hfz44_1); (try clear hfz44_2); (try clear hfz44_3); (try clear hfz48_0); (try clear hfz48_1); (try clear hfz48_2); (try clear hfz48_3); (try clear hfz52_0); (try clear hfz52_1); (try clear hfz52_2); (try clear hfz52_3); (try clear hfz54_0); (try clear hfz54_1); (try clear hfz54_2); (try clear hfz54_3); (try clear hfz76_0); (try clear hfz76_1); (try clear hfz77_0); (try clear hfz77_1); (try clear hfz77_2); (try clear hfz77_3); (try clear hfz82_0); (try clear hfz82_1); (try clear hfz82_2); (try clear hfz82_3); (try clear hfz91_0); (try clear hfz91_1); (try clear hfz91_2); (try clear hfz91_3); (try clear hfz94_0); (try clear hfz94_1); (try clear hfz99_0); (try clear hfz99_1); (try clear hfz99_2); (try clear hfz99_3); (try clear hx480_0); (try clear hx482_0); (try clear hx484_0); (try clear hx484_1); (try clear hx512_0); (try clear hx512_1); (try clear hx512_2); (try clear p2); (try clear p4); (try clear p48); (try clear p480); (try clear p482); (try clear p484); (try clear p5); (try clear p51); (try clear p512); (try clear p6); (try clear p64); (try clear q4); (try clear q48); (try clear q480); (try clear q482)
                 (try clear q484); (try clear q5); (try clear q51); (try clear q512)
                 obtain ⟨kq, x151_71, rfl, HA, HJ71, HO_473001, HO_473002, HO_498001, HO_498002, BK472, BK485, BK497, HB⟩ := hcut
                 cases kq with
                 | zero => exact absurd HA.out (by simp [winnowlaw19_LedgerComes.j5])
                 | succ kj71 =>
                  have H := HA.out
                  clear HA
                  simp only [winnowlaw19_LedgerComes.j5] at H
                  by_cases c119 : x151_71 = true
                  ·subst c119
                   have H1 : (some false) = some r := by rw [if_pos rfl] at H; exact H
                   clear H
                   have H := H1
                   clear H1
                   obtain rfl := Option.some.inj H
                   go_wp2
                   go_ret
                   exact ⟨by first | rfl | (simp [errW_none, errW_some] <;> rfl) | (simp [*, errW_none, errW_some] <;> rfl), by repeat (first | (with_reducible first | exact HB.out | apply below_alloc | apply pw_below_drewN | apply below_drew1 | refine below_set ?_ GE472.out | refine below_set ?_ GE485.out | refine below_set ?_ GE497.out) | exact HB.out)⟩
                  ·replace c119 := Bool.eq_false_iff.mpr c119
                   subst c119
                   have H1 : ((winnowlaw19_ended.f kj71 t486 t487 t490 t493 ((rd_T29 t475 x21_59).f0) ((rd_T29 t475 x21_59).f1) x22_64 t462).bind fun bt499 => (if bt499.2.2.2.2 = 0 then ((winnowlaw19_sized.f bt499.1 bt499.2.1 bt499.2.2.1 bt499.2.2.2.1 t460 t461).bind fun t509 => (winnowlaw19_LedgerComes.j6 kj71 l3 l4 t460 t461 t462 x16_2 x17_2 (!t509) t486 t487 t490 t493 bt499.1 bt499.2.1 bt499.2.2.1 bt499.2.2.2.1)) else (winnowlaw19_LedgerComes.j6 kj71 l3 l4 t460 t461 t462 x16_2 x17_2 true t486 t487 t490 t493 bt499.1 bt499.2.1 bt499.2.2.1 bt499.2.2.2.1))) = some r := by rw [if_neg (show ¬ (false = true) by decide)] at H; exact H
                   clear H
                   have H := H1
                   clear H1
                   replace H := Option.bind_eq_some_iff.mp H
                   obtain ⟨⟨t499, t500, t503, t506, t507⟩, A1200, H⟩ := H
                   replace H : (if t507 = 0 then ((winnowlaw19_sized.f t499 t500 t503 t506 t460 t461).bind fun t509 => (winnowlaw19_LedgerComes.j6 kj71 l3 l4 t460 t461 t462 x16_2 x17_2 (!t509) t486 t487 t490 t493 t499 t500 t503 t506)) else (winnowlaw19_LedgerComes.j6 kj71 l3 l4 t460 t461 t462 x16_2 x17_2 true t486 t487 t490 t493 t499 t500 t503 t506)) = some r := H
                   have A120 := Aside0.mk A1200
                   clear A1200
                   have HC121 := Aside0.mk H
                   clear H
                   have hnb122 := NB497_472.out
                   have hnc122 := NB472_497.out
                   have hnb123 := NB497_485.out
                   have hnc123 := NB485_497.out
                   have hcz124_0 : wc.cell? ⟨gb497, 0, none⟩ = some (.int .i64 t486) := (blk_cell BK497.out 0).trans rfl
                   have hcz124_1 : wc.cell? ⟨gb497, 1, none⟩ = some (.slice Ao83 t487.length co83) := (blk_cell BK497.out 1).trans rfl
                   have hcz124_2 : wc.cell? ⟨gb497, 2, none⟩ = some (.slice Ao84 t490.length co84) := (blk_cell BK497.out 2).trans rfl
                   have hcz124_3 : wc.cell? ⟨gb497, 3, none⟩ = some (.bool t493) := (blk_cell BK497.out 3).trans rfl
                   have hfz124_0 := blk_frozen BK497.out 0
                   have hfz124_1 := blk_frozen BK497.out 1
                   have hfz124_2 := blk_frozen BK497.out 2
                   have hfz124_3 := blk_frozen BK497.out 3
                   have hnb125 := NB485_472.out
                   have hnc125 := NB472_485.out
                   have hcz126_0 : wc.cell? ⟨gb485, 0, none⟩ = some (.int .i64 ((rd_T29 t475 x21_59).f0)) := (blk_cell BK485.out 0).trans rfl
                   have hcz126_1 : wc.cell? ⟨gb485, 1, none⟩ = some (.int .i64 ((rd_T29 t475 x21_59).f1)) := (blk_cell BK485.out 1).trans rfl
                   have hfz126_0 := blk_frozen BK485.out 0
                   have hfz126_1 := blk_frozen BK485.out 1
                   go_upto_region 26 with (first | ((with_reducible refine gate_callee (f := 37) rfl ?_); refine goesL_ (some 157) rfl rfl Tryd.func37 (by kernel_rfl) rfl #[.agg #[.int .i64 t486, .slice Ao83 t487.length co83, .slice Ao84 t490.length co84, .bool t493], .agg #[.int .i64 ((rd_T29 t475 x21_59).f0), .int .i64 ((rd_T29 t475 x21_59).f1)], .int .i64 x22_64, .int .i64 t462] rfl (by (try simp only [List.map_toArray, List.map_cons, List.map_nil]); first | done | rfl | (simp only [List.length_drop, List.length_take]; rfl)) ?_; (with_reducible refine (winnowlaw19_ended.calls kj71 t486 _ _ t487 _ _ t490 t493 ((rd_T29 t475 x21_59).f0) ((rd_T29 t475 x21_59).f1) x22_64 t462 t499 t500 t503 t506 t507 _ ?side1 ?side2 ?side3 ?side4 A120.out (Tab.below HTAB.out (by repeat (first | (with_reducible first | exact HB.out | apply below_alloc | apply pw_below_drewN | apply below_drew1 | refine below_set ?_ GE472.out | refine below_set ?_ GE485.out | refine below_set ?_ GE497.out) | exact HB.out)))).mono ?_); (case side1 => repeat (first | exact (Kd.R_reads' HO_498001.out).2.2 | (with_reducible refine Kd.C_alloc ?_ _) | (with_reducible refine Kd.C_drewN ?_ _) | (with_reducible refine Kd.C_drew ?_))); (case side2 => exact (Kd.R_reads' HO_498001.out).2.1); (case side3 => repeat (first | exact (Kd.R_reads' HO_498002.out).2.2 | (with_reducible refine Kd.C_alloc ?_ _) | (with_reducible refine Kd.C_drewN ?_ _) | (with_reducible refine Kd.C_drew ?_))); (case side4 => exact (Kd.R_reads' HO_498002.out).2.1); rintro e w127 ⟨v501, v504, rfl, ho0, ho1, hb⟩; refine ⟨_, rfl, ?_⟩; have n0_ := Aside0.mk (Kd.R_mono (Kd.R_told (Kd.R_told (Kd.R_old (by (with_reducible repeat (first | apply Kd.R_alloc | apply Kd.R_drewN | apply Kd.R_drew)); exact HO_473001.out) hb) (Kd.R_base ho0)) (Kd.R_base ho1)) (fun _ h_ => h_.1)); have n1_ := Aside0.mk (Kd.R_mono (Kd.R_told (Kd.R_told (Kd.R_old (by (with_reducible repeat (first | apply Kd.R_alloc | apply Kd.R_drewN | apply Kd.R_drew)); exact HO_473002.out) hb) (Kd.R_base ho0)) (Kd.R_base ho1)) (fun _ h_ => h_.1)); have n2_ := Aside0.mk (Kd.R_mono (Kd.R_told (Kd.R_told (Kd.R_old (by (with_reducible repeat (first | apply Kd.R_alloc | apply Kd.R_drewN | apply Kd.R_drew)); exact HO_498001.out) hb) (Kd.R_base ho0)) (Kd.R_base ho1)) (fun _ h_ => h_.1)); have n3_ := Aside0.mk (Kd.R_mono (Kd.R_told (Kd.R_told (Kd.R_old (by (with_reducible repeat (first | apply Kd.R_alloc | apply Kd.R_drewN | apply Kd.R_drew)); exact HO_498002.out) hb) (Kd.R_base ho0)) (Kd.R_base ho1)) (fun _ h_ => h_.1)); have n4_ := Aside0.mk (Kd.R_lower (Kd.R_new' (Kd.R_new' (Kd.R_new' (Kd.R_new' ho0 (Kd.R_lt (by (with_reducible repeat (first | apply Kd.R_alloc | apply Kd.R_drewN | apply Kd.R_drew)); exact HO_473001.out))) (Kd.R_lt (by (with_reducible repeat (first | apply Kd.R_alloc | apply Kd.R_drewN | apply Kd.R_drew)); exact HO_473002.out))) (Kd.R_lt (by (with_reducible repeat (first | apply Kd.R_alloc | apply Kd.R_drewN | apply Kd.R_drew)); exact HO_498001.out))) (Kd.R_lt (by (with_reducible repeat (first | apply Kd.R_alloc | apply Kd.R_drewN | apply Kd.R_drew)); exact HO_498002.out))) (below_size (by repeat (first | (with_reducible first | exact HB.out | apply below_alloc | apply pw_below_drewN | apply below_drew1 | refine below_set ?_ GE472.out | refine below_set ?_ GE485.out | refine below_set ?_ GE497.out) | exact HB.out)))); have n5_ := Aside0.mk (Kd.R_lower (Kd.R_new' (Kd.R_new' (Kd.R_new' (Kd.R_new' ho1 (Kd.R_lt (by (with_reducible repeat (first | apply Kd.R_alloc | apply Kd.R_drewN | apply Kd.R_drew)); exact HO_473001.out))) (Kd.R_lt (by (with_reducible repeat (first | apply Kd.R_alloc | apply Kd.R_drewN | apply Kd.R_drew)); exact HO_473002.out))) (Kd.R_lt (by (with_reducible repeat (first | apply Kd.R_alloc | apply Kd.R_drewN | apply Kd.R_drew)); exact HO_498001.out))) (Kd.R_lt (by (with_reducible repeat (first | apply Kd.R_alloc | apply Kd.R_drewN | apply Kd.R_drew)); exact HO_498002.out))) (below_size (by repeat (first | (with_reducible first | exact HB.out | apply below_alloc | apply pw_below_drewN | apply below_drew1 | refine below_set ?_ GE472.out | refine below_set ?_ GE485.out | refine below_set ?_ GE497.out) | exact HB.out)))); have n6_ := Aside0.mk (blk_below (g := gb472) (o := .cells #[.int .i64 x473000_2, .slice Ao49 x473001_2.length co49, .slice Ao50 x473002_2.length co50, .bool x473003_2] 24 (0, 0)) (by (with_reducible repeat (first | refine blk_drewN ?_ _ | refine blk_drew ?_ | refine blk_alloc ?_ _)); exact BK472.out) hb); have n7_ := Aside0.mk (blk_below (g := gb485) (o := .cells #[.int .i64 ((rd_T29 t475 x21_59).f0), .int .i64 ((rd_T29 t475 x21_59).f1)] 29 (0, 0)) (by (with_reducible repeat (first | refine blk_drewN ?_ _ | refine blk_drew ?_ | refine blk_alloc ?_ _)); exact BK485.out) hb); have n8_ := Aside0.mk (blk_below (g := gb497) (o := .cells #[.int .i64 t486, .slice Ao83 t487.length co83, .slice Ao84 t490.length co84, .bool t493] 24 (0, 0)) (by (with_reducible repeat (first | refine blk_drewN ?_ _ | refine blk_drew ?_ | refine blk_alloc ?_ _)); exact BK497.out) hb); have n9_ := Aside0.mk (below_step (by repeat (first | (with_reducible first | exact HB.out | apply below_alloc | apply pw_below_drewN | apply below_drew1 | refine below_set ?_ GE472.out | refine below_set ?_ GE485.out | refine below_set ?_ GE497.out) | exact HB.out)) hb); clear HO_473001; clear HO_473002; clear HO_498001; clear HO_498002; clear BK472; clear BK485; clear BK497; clear HB; have HO_473001 := n0_; have HO_473002 := n1_; have HO_498001 := n2_; have HO_498002 := n3_; have HO502 := n4_; have HO505 := n5_; have BK472 := n6_; have BK485 := n7_; have BK497 := n8_; have HB := n9_; clear n0_ n1_ n2_ n3_ n4_ n5_ n6_ n7_ n8_ n9_; (try clear hb); (try clear hb2); (try clear hk); (try clear hi); (try clear ho0); (try clear ho1)) | ((with_reducible refine gate_dst (N := 28) rfl ?_); refine box_event ?hg (N := 28) ?hd (cs := #[.int .i64 0, .slice none 0 0, .slice none 0 0, .bool false]) (t := 24) ?hr ?_; (case hd => rfl); (case hg => rfl); (case hr => first | (go_simp; done) | (go_simp; rfl)); intro gb508 hg w128 hbox hb; have n0_ := Aside0.mk (Kd.R_below (by (with_reducible repeat (first | apply Kd.R_alloc | apply Kd.R_drewN | apply Kd.R_drew)); exact HO_473001.out) hb); have n1_ := Aside0.mk (Kd.R_below (by (with_reducible repeat (first | apply Kd.R_alloc | apply Kd.R_drewN | apply Kd.R_drew)); exact HO_473002.out) hb); have n2_ := Aside0.mk (Kd.R_below (by (with_reducible repeat (first | apply Kd.R_alloc | apply Kd.R_drewN | apply Kd.R_drew)); exact HO_498001.out) hb); have n3_ := Aside0.mk (Kd.R_below (by (with_reducible repeat (first | apply Kd.R_alloc | apply Kd.R_drewN | apply Kd.R_drew)); exact HO_498002.out) hb); have n4_ := Aside0.mk (Kd.R_below (by (with_reducible repeat (first | apply Kd.R_alloc | apply Kd.R_drewN | apply Kd.R_drew)); exact HO502.out) hb); have n5_ := Aside0.mk (Kd.R_below (by (with_reducible repeat (first | apply Kd.R_alloc | apply Kd.R_drewN | apply Kd.R_drew)); exact HO505.out) hb); have n6_ := Aside0.mk (blk_below (g := gb472) (o := .cells #[.int .i64 x473000_2, .slice Ao49 x473001_2.length co49, .slice Ao50 x473002_2.length co50, .bool x473003_2] 24 (0, 0)) (by (with_reducible repeat (first | refine blk_drewN ?_ _ | refine blk_drew ?_ | refine blk_alloc ?_ _)); exact BK472.out) hb); have n7_ := Aside0.mk (blk_below (g := gb485) (o := .cells #[.int .i64 ((rd_T29 t475 x21_59).f0), .int .i64 ((rd_T29 t475 x21_59).f1)] 29 (0, 0)) (by (with_reducible repeat (first | refine blk_drewN ?_ _ | refine blk_drew ?_ | refine blk_alloc ?_ _)); exact BK485.out) hb); have n8_ := Aside0.mk (blk_below (g := gb497) (o := .cells #[.int .i64 t486, .slice Ao83 t487.length co83, .slice Ao84 t490.length co84, .bool t493] 24 (0, 0)) (by (with_reducible repeat (first | refine blk_drewN ?_ _ | refine blk_drew ?_ | refine blk_alloc ?_ _)); exact BK497.out) hb); have n9_ := Aside0.mk (below_step (by repeat (first | (with_reducible first | exact HB.out | apply below_alloc | apply pw_below_drewN | apply below_drew1 | refine below_set ?_ GE472.out | refine below_set ?_ GE485.out | refine below_set ?_ GE497.out) | exact HB.out)) hb); have n10_ := Aside0.mk (hbox); have n11_ := Aside0.mk ((by rw [hg]; exact (below_size (by repeat (first | (with_reducible first | exact HB.out | apply below_alloc | apply pw_below_drewN | apply below_drew1 | refine below_set ?_ GE472.out | refine below_set ?_ GE485.out | refine below_set ?_ GE497.out) | exact HB.out))) : w.heap.size ≤ gb508)); have n12_ := Aside0.mk ((by rw [hg]; exact (below_size (by repeat (first | (with_reducible first | exact HB.out | apply below_alloc | apply pw_below_drewN | apply below_drew1 | refine below_set ?_ GE472.out | refine below_set ?_ GE485.out | refine below_set ?_ GE497.out) | exact HB.out))) : w.heap.size ≤ gb508)); have n13_ := Aside0.mk ((by rw [hg]; exact Nat.ne_of_lt (blk_lt (g := gb472) (o := .cells #[.int .i64 x473000_2, .slice Ao49 x473001_2.length co49, .slice Ao50 x473002_2.length co50, .bool x473003_2] 24 (0, 0)) (by (with_reducible repeat (first | refine blk_drewN ?_ _ | refine blk_drew ?_ | refine blk_alloc ?_ _)); exact BK472.out)) : gb472 ≠ gb508)); have n14_ := Aside0.mk ((by rw [hg]; exact Nat.ne_of_gt (blk_lt (g := gb472) (o := .cells #[.int .i64 x473000_2, .slice Ao49 x473001_2.length co49, .slice Ao50 x473002_2.length co50, .bool x473003_2] 24 (0, 0)) (by (with_reducible repeat (first | refine blk_drewN ?_ _ | refine blk_drew ?_ | refine blk_alloc ?_ _)); exact BK472.out)) : gb508 ≠ gb472)); have n15_ := Aside0.mk ((by rw [hg]; exact Nat.ne_of_lt (blk_lt (g := gb485) (o := .cells #[.int .i64 ((rd_T29 t475 x21_59).f0), .int .i64 ((rd_T29 t475 x21_59).f1)] 29 (0, 0)) (by (with_reducible repeat (first | refine blk_drewN ?_ _ | refine blk_drew ?_ | refine blk_alloc ?_ _)); exact BK485.out)) : gb485 ≠ gb508)); have n16_ := Aside0.mk ((by rw [hg]; exact Nat.ne_of_gt (blk_lt (g := gb485) (o := .cells #[.int .i64 ((rd_T29 t475 x21_59).f0), .int .i64 ((rd_T29 t475 x21_59).f1)] 29 (0, 0)) (by (with_reducible repeat (first | refine blk_drewN ?_ _ | refine blk_drew ?_ | refine blk_alloc ?_ _)); exact BK485.out)) : gb508 ≠ gb485)); have n17_ := Aside0.mk ((by rw [hg]; exact Nat.ne_of_lt (blk_lt (g := gb497) (o := .cells #[.int .i64 t486, .slice Ao83 t487.length co83, .slice Ao84 t490.length co84, .bool t493] 24 (0, 0)) (by (with_reducible repeat (first | refine blk_drewN ?_ _ | refine blk_drew ?_ | refine blk_alloc ?_ _)); exact BK497.out)) : gb497 ≠ gb508)); have n18_ := Aside0.mk ((by rw [hg]; exact Nat.ne_of_gt (blk_lt (g := gb497) (o := .cells #[.int .i64 t486, .slice Ao83 t487.length co83, .slice Ao84 t490.length co84, .bool t493] 24 (0, 0)) (by (with_reducible repeat (first | refine blk_drewN ?_ _ | refine blk_drew ?_ | refine blk_alloc ?_ _)); exact BK497.out)) : gb508 ≠ gb497)); clear HO_473001; clear HO_473002; clear HO_498001; clear HO_498002; clear HO502; clear HO505; clear BK472; clear BK485; clear BK497; clear HB; have HO_473001 := n0_; have HO_473002 := n1_; have HO_498001 := n2_; have HO_498002 := n3_; have HO502 := n4_; have HO505 := n5_; have BK472 := n6_; have BK485 := n7_; have BK497 := n8_; have HB := n9_; have BK508 := n10_; have GW508 := n11_; have GE508 := n12_; have NB472_508 := n13_; have NB508_472 := n14_; have NB485_508 := n15_; have NB508_485 := n16_; have NB497_508 := n17_; have NB508_497 := n18_; clear n0_ n1_ n2_ n3_ n4_ n5_ n6_ n7_ n8_ n9_ n10_ n11_ n12_ n13_ n14_ n15_ n16_ n17_ n18_; clear hb hbox hg; have hnb129 := NB508_472.out; have hnc129 := NB472_508.out; have hnb130 := NB508_485.out; have hnc130 := NB485_508.out; have hnb131 := NB508_497.out; have hnc131 := NB497_508.out; have hcz132_0 : w128.cell? ⟨gb508, 0, none⟩ = some (.int .i64 0) := (blk_cell BK508.out 0).trans rfl; have hcz132_1 : w128.cell? ⟨gb508, 1, none⟩ = some (.slice none 0 0) := (blk_cell BK508.out 1).trans rfl; have hcz132_2 : w128.cell? ⟨gb508, 2, none⟩ = some (.slice none 0 0) := (blk_cell BK508.out 2).trans rfl; have hcz132_3 : w128.cell? ⟨gb508, 3, none⟩ = some (.bool false) := (blk_cell BK508.out 3).trans rfl; have hfz132_0 := blk_frozen BK508.out 0; have hfz132_1 := blk_frozen BK508.out 1; have hfz132_2 := blk_frozen BK508.out 2; have hfz132_3 := blk_frozen BK508.out 3; obtain ⟨Ao133, co133, eo133⟩ := Kd.R_slice HO502.out; subst eo133; obtain ⟨Ao134, co134, eo134⟩ := Kd.R_slice HO505.out; subst eo134))
                   (try simp only [Act.put, List.setIfInBounds_toArray, List.set_cons_zero, List.set_cons_succ])
                   go_cut [168] (fun v168 wc => ∃ (kq : Nat) (x168_120 : Bool), v168 = .bool x168_120 ∧ Aside0 (winnowlaw19_LedgerComes.j6 kq l3 l4 t460 t461 t462 x16_2 x17_2 x168_120 t486 t487 t490 t493 t499 t500 t503 t506 = some r) ∧ Aside0 (kq ≤ kj71) ∧ Aside0 (Kd.R k38 38 wc w.heap.size (fun k_ => some k_ ≠ ((.slice Ao50 x473002_2.length co50) : Value).ownBlock ∧ some k_ ≠ ((.slice Ao83 t487.length co83) : Value).ownBlock ∧ some k_ ≠ ((.slice Ao84 t490.length co84) : Value).ownBlock ∧ some k_ ≠ ((.slice Ao133 t500.length co133) : Value).ownBlock ∧ some k_ ≠ ((.slice Ao134 t503.length co134) : Value).ownBlock) (.slice Ao49 x473001_2.length co49) x473001_2) ∧ Aside0 (Kd.R k38 38 wc w.heap.size (fun k_ => some k_ ≠ ((.slice Ao49 x473001_2.length co49) : Value).ownBlock ∧ some k_ ≠ ((.slice Ao83 t487.length co83) : Value).ownBlock ∧ some k_ ≠ ((.slice Ao84 t490.length co84) : Value).ownBlock ∧ some k_ ≠ ((.slice Ao133 t500.length co133) : Value).ownBlock ∧ some k_ ≠ ((.slice Ao134 t503.length co134) : Value).ownBlock) (.slice Ao50 x473002_2.length co50) x473002_2) ∧ Aside0 (Kd.R k38 38 wc w.heap.size (fun k_ => some k_ ≠ ((.slice Ao49 x473001_2.length co49) : Value).ownBlock ∧ some k_ ≠ ((.slice Ao50 x473002_2.length co50) : Value).ownBlock ∧ some k_ ≠ ((.slice Ao84 t490.length co84) : Value).ownBlock ∧ some k_ ≠ ((.slice Ao133 t500.length co133) : Value).ownBlock ∧ some k_ ≠ ((.slice Ao134 t503.length co134) : Value).ownBlock) (.slice Ao83 t487.length co83) t487) ∧ Aside0 (Kd.R k38 38 wc w.heap.size (fun k_ => some k_ ≠ ((.slice Ao49 x473001_2.length co49) : Value).ownBlock ∧ some k_ ≠ ((.slice Ao50 x473002_2.length co50) : Value).ownBlock ∧ some k_ ≠ ((.slice Ao83 t487.length co83) : Value).ownBlock ∧ some k_ ≠ ((.slice Ao133 t500.length co133) : Value).ownBlock ∧ some k_ ≠ ((.slice Ao134 t503.length co134) : Value).ownBlock) (.slice Ao84 t490.length co84) t490) ∧ Aside0 (Kd.R k38 38 wc w.heap.size (fun k_ => some k_ ≠ ((.slice Ao49 x473001_2.length co49) : Value).ownBlock ∧ some k_ ≠ ((.slice Ao50 x473002_2.length co50) : Value).ownBlock ∧ some k_ ≠ ((.slice Ao83 t487.length co83) : Value).ownBlock ∧ some k_ ≠ ((.slice Ao84 t490.length co84) : Value).ownBlock ∧ some k_ ≠ ((.slice Ao134 t503.length co134) : Value).ownBlock) (.slice Ao133 t500.length co133) t500) ∧ Aside0 (Kd.R k38 38 wc w.heap.size (fun k_ => some k_ ≠ ((.slice Ao49 x473001_2.length co49) : Value).ownBlock ∧ some k_ ≠ ((.slice Ao50 x473002_2.length co50) : Value).ownBlock ∧ some k_ ≠ ((.slice Ao83 t487.length co83) : Value).ownBlock ∧ some k_ ≠ ((.slice Ao84 t490.length co84) : Value).ownBlock ∧ some k_ ≠ ((.slice Ao133 t500.length co133) : Value).ownBlock) (.slice Ao134 t503.length co134) t503) ∧ Aside0 (wc.heap[gb472]? = some (.cells #[.int .i64 x473000_2, (.slice Ao49 x473001_2.length co49), (.slice Ao50 x473002_2.length co50), .bool x473003_2] 24 (0, 0))) ∧ Aside0 (wc.heap[gb485]? = some (.cells #[.int .i64 ((rd_T29 t475 x21_59).f0), .int .i64 ((rd_T29 t475 x21_59).f1)] 29 (0, 0))) ∧ Aside0 (wc.heap[gb497]? = some (.cells #[.int .i64 t486, (.slice Ao83 t487.length co83), (.slice Ao84 t490.length co84), .bool t493] 24 (0, 0))) ∧ Aside0 (wc.heap[gb508]? = some (.cells #[.int .i64 t499, (.slice Ao133 t500.length co133), (.slice Ao134 t503.length co134), .bool t506] 24 (0, 0))) ∧ Aside0 (Below w.heap.size w wc))
                   case first => as_aux_lemma =>
                    have H := HC121.out
                    clear HC121
                    by_cases c135 : t507 = 0
                    ·rw [if_pos c135] at H
                     have c135b0 : (t507 == 0) = true := beq_iff_eq.mpr c135
                     have c135b1 : (t507 != 0) = false := bne_eq_false_iff_eq.mpr c135
                     clear c135
                     (first | rw [c135b0] | (simp only [i64_w, i32_w]; rw [c135b0]) | skip)
                     replace H := Option.bind_eq_some_iff.mp H
                     obtain ⟨t509, A1360, H⟩ := H
                     replace H : (winnowlaw19_LedgerComes.j6 kj71 l3 l4 t460 t461 t462 x16_2 x17_2 (!t509) t486 t487 t490 t493 t499 t500 t503 t506) = some r := H
                     have A136 := Aside0.mk A1360
                     clear A1360
                     have H' := Aside0.mk H
                     clear H
                     have hnb137 := NB508_472.out
                     have hnc137 := NB472_508.out
                     have hnb138 := NB508_485.out
                     have hnc138 := NB485_508.out
                     have hnb139 := NB508_497.out
                     have hnc139 := NB497_508.out
                     have hcz140_0 : w128.cell? ⟨gb508, 0, none⟩ = some (.int .i64 0) := (blk_cell BK508.out 0).trans rfl
                     have hcz140_1 : w128.cell? ⟨gb508, 1, none⟩ = some (.slice none 0 0) := (blk_cell BK508.out 1).trans rfl
                     have hcz140_2 : w128.cell? ⟨gb508, 2, none⟩ = some (.slice none 0 0) := (blk_cell BK508.out 2).trans rfl
                     have hcz140_3 : w128.cell? ⟨gb508, 3, none⟩ = some (.bool false) := (blk_cell BK508.out 3).trans rfl
                     have hfz140_0 := blk_frozen BK508.out 0
                     have hfz140_1 := blk_frozen BK508.out 1
                     have hfz140_2 := blk_frozen BK508.out 2
                     have hfz140_3 := blk_frozen BK508.out 3
                     go_wp2_with (first | (go_at_call 34; (with_reducible refine (winnowlaw19_sized.calls t499 _ _ t500 _ _ t503 t506 t460 t461 t509 _ ?side1 ?side2 ?side3 ?side4 A136.out).mono ?_); (case side1 => refine (Kd.R_reads' (e := 38) (base := w.heap.size) (ok := fun k_ => ((((some k_ ≠ (.slice Ao134 t503.length co134 : Value).ownBlock ∧ some k_ ≠ (.slice Ao49 x473001_2.length co49 : Value).ownBlock) ∧ some k_ ≠ (.slice Ao50 x473002_2.length co50 : Value).ownBlock) ∧ some k_ ≠ (.slice Ao83 t487.length co83 : Value).ownBlock) ∧ some k_ ≠ (.slice Ao84 t490.length co84 : Value).ownBlock)) (n := t500.length) (c := co133) ?_).2.2; exact (by (with_reducible repeat (first | apply Kd.R_alloc | apply Kd.R_drewN | apply Kd.R_drew)); exact (Kd.R_mono (Kd.R_far (p := ⟨gb508, 3, none⟩) (Kd.R_far (p := ⟨gb508, 2, none⟩) (Kd.R_far (p := ⟨gb508, 1, none⟩) (Kd.R_far (p := ⟨gb508, 0, none⟩) (Kd.R_types HO502.out BK508.out (by decide)) (fun _ hk => hk.2) (.int .i64 t499)) (fun _ hk => hk.2) (.slice Ao133 t500.length co133)) (fun _ hk => hk.2) (.slice Ao134 t503.length co134)) (fun _ hk => hk.2) (.bool t506)) (fun _ h_ => h_.1)))); (case side2 => exact (Kd.R_reads' HO502.out).2.1); (case side3 => refine (Kd.R_reads' (e := 38) (base := w.heap.size) (ok := fun k_ => ((((some k_ ≠ (.slice Ao133 t500.length co133 : Value).ownBlock ∧ some k_ ≠ (.slice Ao49 x473001_2.length co49 : Value).ownBlock) ∧ some k_ ≠ (.slice Ao50 x473002_2.length co50 : Value).ownBlock) ∧ some k_ ≠ (.slice Ao83 t487.length co83 : Value).ownBlock) ∧ some k_ ≠ (.slice Ao84 t490.length co84 : Value).ownBlock)) (n := t503.length) (c := co134) ?_).2.2; exact (by (with_reducible repeat (first | apply Kd.R_alloc | apply Kd.R_drewN | apply Kd.R_drew)); exact (Kd.R_mono (Kd.R_far (p := ⟨gb508, 3, none⟩) (Kd.R_far (p := ⟨gb508, 2, none⟩) (Kd.R_far (p := ⟨gb508, 1, none⟩) (Kd.R_far (p := ⟨gb508, 0, none⟩) (Kd.R_types HO505.out BK508.out (by decide)) (fun _ hk => hk.2) (.int .i64 t499)) (fun _ hk => hk.2) (.slice Ao133 t500.length co133)) (fun _ hk => hk.2) (.slice Ao134 t503.length co134)) (fun _ hk => hk.2) (.bool t506)) (fun _ h_ => h_.1)))); (case side4 => exact (Kd.R_reads' HO505.out).2.1); rintro e w141 ⟨rfl, hb⟩; have n0_ := Aside0.mk (Kd.R_below (by (with_reducible repeat (first | apply Kd.R_alloc | apply Kd.R_drewN | apply Kd.R_drew)); exact (Kd.R_mono (Kd.R_far (p := ⟨gb508, 3, none⟩) (Kd.R_far (p := ⟨gb508, 2, none⟩) (Kd.R_far (p := ⟨gb508, 1, none⟩) (Kd.R_far (p := ⟨gb508, 0, none⟩) (Kd.R_types HO_473001.out BK508.out (by decide)) (fun _ hk => hk.2) (.int .i64 t499)) (fun _ hk => hk.2) (.slice Ao133 t500.length co133)) (fun _ hk => hk.2) (.slice Ao134 t503.length co134)) (fun _ hk => hk.2) (.bool t506)) (fun _ h_ => h_.1))) hb); have n1_ := Aside0.mk (Kd.R_below (by (with_reducible repeat (first | apply Kd.R_alloc | apply Kd.R_drewN | apply Kd.R_drew)); exact (Kd.R_mono (Kd.R_far (p := ⟨gb508, 3, none⟩) (Kd.R_far (p := ⟨gb508, 2, none⟩) (Kd.R_far (p := ⟨gb508, 1, none⟩) (Kd.R_far (p := ⟨gb508, 0, none⟩) (Kd.R_types HO_473002.out BK508.out (by decide)) (fun _ hk => hk.2) (.int .i64 t499)) (fun _ hk => hk.2) (.slice Ao133 t500.length co133)) (fun _ hk => hk.2) (.slice Ao134 t503.length co134)) (fun _ hk => hk.2) (.bool t506)) (fun _ h_ => h_.1))) hb); have n2_ := Aside0.mk (Kd.R_below (by (with_reducible repeat (first | apply Kd.R_alloc | apply Kd.R_drewN | apply Kd.R_drew)); exact (Kd.R_mono (Kd.R_far (p := ⟨gb508, 3, none⟩) (Kd.R_far (p := ⟨gb508, 2, none⟩) (Kd.R_far (p := ⟨gb508, 1, none⟩) (Kd.R_far (p := ⟨gb508, 0, none⟩) (Kd.R_types HO_498001.out BK508.out (by decide)) (fun _ hk => hk.2) (.int .i64 t499)) (fun _ hk => hk.2) (.slice Ao133 t500.length co133)) (fun _ hk => hk.2) (.slice Ao134 t503.length co134)) (fun _ hk => hk.2) (.bool t506)) (fun _ h_ => h_.1))) hb); have n3_ := Aside0.mk (Kd.R_below (by (with_reducible repeat (first | apply Kd.R_alloc | apply Kd.R_drewN | apply Kd.R_drew)); exact (Kd.R_mono (Kd.R_far (p := ⟨gb508, 3, none⟩) (Kd.R_far (p := ⟨gb508, 2, none⟩) (Kd.R_far (p := ⟨gb508, 1, none⟩) (Kd.R_far (p := ⟨gb508, 0, none⟩) (Kd.R_types HO_498002.out BK508.out (by decide)) (fun _ hk => hk.2) (.int .i64 t499)) (fun _ hk => hk.2) (.slice Ao133 t500.length co133)) (fun _ hk => hk.2) (.slice Ao134 t503.length co134)) (fun _ hk => hk.2) (.bool t506)) (fun _ h_ => h_.1))) hb); have n4_ := Aside0.mk (Kd.R_below (by (with_reducible repeat (first | apply Kd.R_alloc | apply Kd.R_drewN | apply Kd.R_drew)); exact (Kd.R_mono (Kd.R_far (p := ⟨gb508, 3, none⟩) (Kd.R_far (p := ⟨gb508, 2, none⟩) (Kd.R_far (p := ⟨gb508, 1, none⟩) (Kd.R_far (p := ⟨gb508, 0, none⟩) (Kd.R_types HO502.out BK508.out (by decide)) (fun _ hk => hk.2) (.int .i64 t499)) (fun _ hk => hk.2) (.slice Ao133 t500.length co133)) (fun _ hk => hk.2) (.slice Ao134 t503.length co134)) (fun _ hk => hk.2) (.bool t506)) (fun _ h_ => h_.1))) hb); have n5_ := Aside0.mk (Kd.R_below (by (with_reducible repeat (first | apply Kd.R_alloc | apply Kd.R_drewN | apply Kd.R_drew)); exact (Kd.R_mono (Kd.R_far (p := ⟨gb508, 3, none⟩) (Kd.R_far (p := ⟨gb508, 2, none⟩) (Kd.R_far (p := ⟨gb508, 1, none⟩) (Kd.R_far (p := ⟨gb508, 0, none⟩) (Kd.R_types HO505.out BK508.out (by decide)) (fun _ hk => hk.2) (.int .i64 t499)) (fun _ hk => hk.2) (.slice Ao133 t500.length co133)) (fun _ hk => hk.2) (.slice Ao134 t503.length co134)) (fun _ hk => hk.2) (.bool t506)) (fun _ h_ => h_.1))) hb); have n6_ := Aside0.mk (blk_below (g := gb472) (o := .cells #[.int .i64 x473000_2, .slice Ao49 x473001_2.length co49, .slice Ao50 x473002_2.length co50, .bool x473003_2] 24 (0, 0)) (by (with_reducible repeat (first | refine blk_drewN ?_ _ | refine blk_drew ?_ | refine blk_alloc ?_ _)); refine blk_far ?_ NB472_508.out _; (with_reducible repeat (first | refine blk_drewN ?_ _ | refine blk_drew ?_ | refine blk_alloc ?_ _)); refine blk_far ?_ NB472_508.out _; (with_reducible repeat (first | refine blk_drewN ?_ _ | refine blk_drew ?_ | refine blk_alloc ?_ _)); refine blk_far ?_ NB472_508.out _; (with_reducible repeat (first | refine blk_drewN ?_ _ | refine blk_drew ?_ | refine blk_alloc ?_ _)); refine blk_far ?_ NB472_508.out _; (with_reducible repeat (first | refine blk_drewN ?_ _ | refine blk_drew ?_ | refine blk_alloc ?_ _)); exact BK472.out) hb); have n7_ := Aside0.mk (blk_below (g := gb485) (o := .cells #[.int .i64 ((rd_T29 t475 x21_59).f0), .int .i64 ((rd_T29 t475 x21_59).f1)] 29 (0, 0)) (by (with_reducible repeat (first | refine blk_drewN ?_ _ | refine blk_drew ?_ | refine blk_alloc ?_ _)); refine blk_far ?_ NB485_508.out _; (with_reducible repeat (first | refine blk_drewN ?_ _ | refine blk_drew ?_ | refine blk_alloc ?_ _)); refine blk_far ?_ NB485_508.out _; (with_reducible repeat (first | refine blk_drewN ?_ _ | refine blk_drew ?_ | refine blk_alloc ?_ _)); refine blk_far ?_ NB485_508.out _; (with_reducible repeat (first | refine blk_drewN ?_ _ | refine blk_drew ?_ | refine blk_alloc ?_ _)); refine blk_far ?_ NB485_508.out _; (with_reducible repeat (first | refine blk_drewN ?_ _ | refine blk_drew ?_ | refine blk_alloc ?_ _)); exact BK485.out) hb); have n8_ := Aside0.mk (blk_below (g := gb497) (o := .cells #[.int .i64 t486, .slice Ao83 t487.length co83, .slice Ao84 t490.length co84, .bool t493] 24 (0, 0)) (by (with_reducible repeat (first | refine blk_drewN ?_ _ | refine blk_drew ?_ | refine blk_alloc ?_ _)); refine blk_far ?_ NB497_508.out _; (with_reducible repeat (first | refine blk_drewN ?_ _ | refine blk_drew ?_ | refine blk_alloc ?_ _)); refine blk_far ?_ NB497_508.out _; (with_reducible repeat (first | refine blk_drewN ?_ _ | refine blk_drew ?_ | refine blk_alloc ?_ _)); refine blk_far ?_ NB497_508.out _; (with_reducible repeat (first | refine blk_drewN ?_ _ | refine blk_drew ?_ | refine blk_alloc ?_ _)); refine blk_far ?_ NB497_508.out _; (with_reducible repeat (first | refine blk_drewN ?_ _ | refine blk_drew ?_ | refine blk_alloc ?_ _)); exact BK497.out) hb); have n9_ := Aside0.mk (blk_below (g := gb508) (o := .cells #[.int .i64 t499, .slice Ao133 t500.length co133, .slice Ao134 t503.length co134, .bool t506] 24 (0, 0)) (by (with_reducible repeat (first | refine blk_drewN ?_ _ | refine blk_drew ?_ | refine blk_alloc ?_ _)); refine blk_put (cs := #[.int .i64 t499, .slice Ao133 t500.length co133, .slice Ao134 t503.length co134, .bool false]) ?_ 3 _ rfl; (with_reducible repeat (first | refine blk_drewN ?_ _ | refine blk_drew ?_ | refine blk_alloc ?_ _)); refine blk_put (cs := #[.int .i64 t499, .slice Ao133 t500.length co133, .slice none 0 0, .bool false]) ?_ 2 _ rfl; (with_reducible repeat (first | refine blk_drewN ?_ _ | refine blk_drew ?_ | refine blk_alloc ?_ _)); refine blk_put (cs := #[.int .i64 t499, .slice none 0 0, .slice none 0 0, .bool false]) ?_ 1 _ rfl; (with_reducible repeat (first | refine blk_drewN ?_ _ | refine blk_drew ?_ | refine blk_alloc ?_ _)); refine blk_put (cs := #[.int .i64 0, .slice none 0 0, .slice none 0 0, .bool false]) ?_ 0 _ rfl; (with_reducible repeat (first | refine blk_drewN ?_ _ | refine blk_drew ?_ | refine blk_alloc ?_ _)); exact BK508.out) hb); have n10_ := Aside0.mk (below_step (by repeat (first | (with_reducible first | exact HB.out | apply below_alloc | apply pw_below_drewN | apply below_drew1 | refine below_set ?_ GE472.out | refine below_set ?_ GE485.out | refine below_set ?_ GE497.out | refine below_set ?_ GE508.out) | exact HB.out)) hb); clear HO_473001; clear HO_473002; clear HO_498001; clear HO_498002; clear HO502; clear HO505; clear BK472; clear BK485; clear BK497; clear BK508; clear HB; have HO_473001 := n0_; have HO_473002 := n1_; have HO_498001 := n2_; have HO_498002 := n3_; have HO502 := n4_; have HO505 := n5_; have BK472 := n6_; have BK485 := n7_; have BK497 := n8_; have BK508 := n9_; have HB := n10_; clear n0_ n1_ n2_ n3_ n4_ n5_ n6_ n7_ n8_ n9_ n10_; (try clear hb); (try clear hb2); (try clear hk); (try clear hi)))
                     go_meet
                     case rel => exact ⟨_, (!t509), (by first | rfl | (simp; done) | (simp [*]; done)), H', ⟨by have := HJ9.out; have := HK2.out; have := HJ46.out; have := HJ59.out; have := HJ64.out; have := HJ71.out; first | omega | exact Nat.le_refl _⟩, ⟨by (with_reducible repeat (first | apply Kd.R_alloc | apply Kd.R_drewN | apply Kd.R_drew)); exact Kd.R_mono HO_473001.out (fun _ hk => ⟨hk.1.1.1, ⟨hk.1.1.2.1, ⟨hk.1.1.2.2, ⟨hk.1.2, hk.2⟩⟩⟩⟩)⟩, ⟨by (with_reducible repeat (first | apply Kd.R_alloc | apply Kd.R_drewN | apply Kd.R_drew)); exact Kd.R_mono HO_473002.out (fun _ hk => ⟨hk.1.1.1, ⟨hk.1.1.2.1, ⟨hk.1.1.2.2, ⟨hk.1.2, hk.2⟩⟩⟩⟩)⟩, ⟨by (with_reducible repeat (first | apply Kd.R_alloc | apply Kd.R_drewN | apply Kd.R_drew)); exact Kd.R_mono HO_498001.out (fun _ hk => ⟨hk.1.1.1, ⟨hk.1.1.2.1, ⟨hk.1.1.2.2, ⟨hk.1.2, hk.2⟩⟩⟩⟩)⟩, ⟨by (with_reducible repeat (first | apply Kd.R_alloc | apply Kd.R_drewN | apply Kd.R_drew)); exact Kd.R_mono HO_498002.out (fun _ hk => ⟨hk.1.1.1, ⟨hk.1.1.2.1, ⟨hk.1.1.2.2, ⟨hk.1.2, hk.2⟩⟩⟩⟩)⟩, ⟨by (with_reducible repeat (first | apply Kd.R_alloc | apply Kd.R_drewN | apply Kd.R_drew)); exact Kd.R_mono HO502.out (fun _ hk => ⟨hk.1.1.1.2, ⟨hk.1.1.2, ⟨hk.1.2, ⟨hk.2, hk.1.1.1.1⟩⟩⟩⟩)⟩, ⟨by (with_reducible repeat (first | apply Kd.R_alloc | apply Kd.R_drewN | apply Kd.R_drew)); exact Kd.R_mono HO505.out (fun _ hk => ⟨hk.1.1.1.2, ⟨hk.1.1.2, ⟨hk.1.2, ⟨hk.2, hk.1.1.1.1⟩⟩⟩⟩)⟩, ⟨by (with_reducible repeat (first | refine blk_drewN ?_ _ | refine blk_drew ?_ | refine blk_alloc ?_ _)); exact BK472.out⟩, ⟨by (with_reducible repeat (first | refine blk_drewN ?_ _ | refine blk_drew ?_ | refine blk_alloc ?_ _)); exact BK485.out⟩, ⟨by (with_reducible repeat (first | refine blk_drewN ?_ _ | refine blk_drew ?_ | refine blk_alloc ?_ _)); exact BK497.out⟩, ⟨by (with_reducible repeat (first | refine blk_drewN ?_ _ | refine blk_drew ?_ | refine blk_alloc ?_ _)); exact BK508.out⟩, ⟨by repeat (first | (with_reducible first | exact HB.out | apply below_alloc | apply pw_below_drewN | apply below_drew1 | refine below_set ?_ GE472.out | refine below_set ?_ GE485.out | refine below_set ?_ GE497.out | refine below_set ?_ GE508.out) | exact HB.out)⟩⟩
                    ·rw [if_neg c135] at H
                     have c135b0 : (t507 == 0) = false := beq_eq_false_iff_ne.mpr c135
                     have c135b1 : (t507 != 0) = true := bne_iff_ne.mpr c135
                     (first | rw [c135b0] | (simp only [i64_w, i32_w]; rw [c135b0]) | skip)
                     have H' := Aside0.mk H
                     clear H
                     go_wp2
                     go_meet
                     case rel => exact ⟨_, (true), (by first | rfl | (simp; done) | (simp [*]; done)), H', ⟨by have := HJ9.out; have := HK2.out; have := HJ46.out; have := HJ59.out; have := HJ64.out; have := HJ71.out; first | omega | exact Nat.le_refl _⟩, ⟨by (with_reducible repeat (first | apply Kd.R_alloc | apply Kd.R_drewN | apply Kd.R_drew)); exact Kd.R_mono (Kd.R_far (p := ⟨gb508, 3, none⟩) (Kd.R_far (p := ⟨gb508, 2, none⟩) (Kd.R_far (p := ⟨gb508, 1, none⟩) (Kd.R_far (p := ⟨gb508, 0, none⟩) (Kd.R_types HO_473001.out BK508.out (by decide)) (fun _ hk => hk.2) (.int .i64 t499)) (fun _ hk => hk.2) (.slice Ao133 t500.length co133)) (fun _ hk => hk.2) (.slice Ao134 t503.length co134)) (fun _ hk => hk.2) (.bool t506)) (fun _ hk => ⟨hk.1.1.1.1, ⟨hk.1.1.1.2.1, ⟨hk.1.1.1.2.2, ⟨hk.1.1.2, hk.1.2⟩⟩⟩⟩)⟩, ⟨by (with_reducible repeat (first | apply Kd.R_alloc | apply Kd.R_drewN | apply Kd.R_drew)); exact Kd.R_mono (Kd.R_far (p := ⟨gb508, 3, none⟩) (Kd.R_far (p := ⟨gb508, 2, none⟩) (Kd.R_far (p := ⟨gb508, 1, none⟩) (Kd.R_far (p := ⟨gb508, 0, none⟩) (Kd.R_types HO_473002.out BK508.out (by decide)) (fun _ hk => hk.2) (.int .i64 t499)) (fun _ hk => hk.2) (.slice Ao133 t500.length co133)) (fun _ hk => hk.2) (.slice Ao134 t503.length co134)) (fun _ hk => hk.2) (.bool t506)) (fun _ hk => ⟨hk.1.1.1.1, ⟨hk.1.1.1.2.1, ⟨hk.1.1.1.2.2, ⟨hk.1.1.2, hk.1.2⟩⟩⟩⟩)⟩, ⟨by (with_reducible repeat (first | apply Kd.R_alloc | apply Kd.R_drewN | apply Kd.R_drew)); exact Kd.R_mono (Kd.R_far (p := ⟨gb508, 3, none⟩) (Kd.R_far (p := ⟨gb508, 2, none⟩) (Kd.R_far (p := ⟨gb508, 1, none⟩) (Kd.R_far (p := ⟨gb508, 0, none⟩) (Kd.R_types HO_498001.out BK508.out (by decide)) (fun _ hk => hk.2) (.int .i64 t499)) (fun _ hk => hk.2) (.slice Ao133 t500.length co133)) (fun _ hk => hk.2) (.slice Ao134 t503.length co134)) (fun _ hk => hk.2) (.bool t506)) (fun _ hk => ⟨hk.1.1.1.1, ⟨hk.1.1.1.2.1, ⟨hk.1.1.1.2.2, ⟨hk.1.1.2, hk.1.2⟩⟩⟩⟩)⟩, ⟨by (with_reducible repeat (first | apply Kd.R_alloc | apply Kd.R_drewN | apply Kd.R_drew)); exact Kd.R_mono (Kd.R_far (p := ⟨gb508, 3, none⟩) (Kd.R_far (p := ⟨gb508, 2, none⟩) (Kd.R_far (p := ⟨gb508, 1, none⟩) (Kd.R_far (p := ⟨gb508, 0, none⟩) (Kd.R_types HO_498002.out BK508.out (by decide)) (fun _ hk => hk.2) (.int .i64 t499)) (fun _ hk => hk.2) (.slice Ao133 t500.length co133)) (fun _ hk => hk.2) (.slice Ao134 t503.length co134)) (fun _ hk => hk.2) (.bool t506)) (fun _ hk => ⟨hk.1.1.1.1, ⟨hk.1.1.1.2.1, ⟨hk.1.1.1.2.2, ⟨hk.1.1.2, hk.1.2⟩⟩⟩⟩)⟩, ⟨by (with_reducible repeat (first | apply Kd.R_alloc | apply Kd.R_drewN | apply Kd.R_drew)); exact Kd.R_mono (Kd.R_far (p := ⟨gb508, 3, none⟩) (Kd.R_far (p := ⟨gb508, 2, none⟩) (Kd.R_far (p := ⟨gb508, 1, none⟩) (Kd.R_far (p := ⟨gb508, 0, none⟩) (Kd.R_types HO502.out BK508.out (by decide)) (fun _ hk => hk.2) (.int .i64 t499)) (fun _ hk => hk.2) (.slice Ao133 t500.length co133)) (fun _ hk => hk.2) (.slice Ao134 t503.length co134)) (fun _ hk => hk.2) (.bool t506)) (fun _ hk => ⟨hk.1.1.1.1.2, ⟨hk.1.1.1.2, ⟨hk.1.1.2, ⟨hk.1.2, hk.1.1.1.1.1⟩⟩⟩⟩)⟩, ⟨by (with_reducible repeat (first | apply Kd.R_alloc | apply Kd.R_drewN | apply Kd.R_drew)); exact Kd.R_mono (Kd.R_far (p := ⟨gb508, 3, none⟩) (Kd.R_far (p := ⟨gb508, 2, none⟩) (Kd.R_far (p := ⟨gb508, 1, none⟩) (Kd.R_far (p := ⟨gb508, 0, none⟩) (Kd.R_types HO505.out BK508.out (by decide)) (fun _ hk => hk.2) (.int .i64 t499)) (fun _ hk => hk.2) (.slice Ao133 t500.length co133)) (fun _ hk => hk.2) (.slice Ao134 t503.length co134)) (fun _ hk => hk.2) (.bool t506)) (fun _ hk => ⟨hk.1.1.1.1.2, ⟨hk.1.1.1.2, ⟨hk.1.1.2, ⟨hk.1.2, hk.1.1.1.1.1⟩⟩⟩⟩)⟩, ⟨by (with_reducible repeat (first | refine blk_drewN ?_ _ | refine blk_drew ?_ | refine blk_alloc ?_ _)); refine blk_far ?_ NB472_508.out _; (with_reducible repeat (first | refine blk_drewN ?_ _ | refine blk_drew ?_ | refine blk_alloc ?_ _)); refine blk_far ?_ NB472_508.out _; (with_reducible repeat (first | refine blk_drewN ?_ _ | refine blk_drew ?_ | refine blk_alloc ?_ _)); refine blk_far ?_ NB472_508.out _; (with_reducible repeat (first | refine blk_drewN ?_ _ | refine blk_drew ?_ | refine blk_alloc ?_ _)); refine blk_far ?_ NB472_508.out _; (with_reducible repeat (first | refine blk_drewN ?_ _ | refine blk_drew ?_ | refine blk_alloc ?_ _)); exact BK472.out⟩, ⟨by (with_reducible repeat (first | refine blk_drewN ?_ _ | refine blk_drew ?_ | refine blk_alloc ?_ _)); refine blk_far ?_ NB485_508.out _; (with_reducible repeat (first | refine blk_drewN ?_ _ | refine blk_drew ?_ | refine blk_alloc ?_ _)); refine blk_far ?_ NB485_508.out _; (with_reducible repeat (first | refine blk_drewN ?_ _ | refine blk_drew ?_ | refine blk_alloc ?_ _)); refine blk_far ?_ NB485_508.out _; (with_reducible repeat (first | refine blk_drewN ?_ _ | refine blk_drew ?_ | refine blk_alloc ?_ _)); refine blk_far ?_ NB485_508.out _; (with_reducible repeat (first | refine blk_drewN ?_ _ | refine blk_drew ?_ | refine blk_alloc ?_ _)); exact BK485.out⟩, ⟨by (with_reducible repeat (first | refine blk_drewN ?_ _ | refine blk_drew ?_ | refine blk_alloc ?_ _)); refine blk_far ?_ NB497_508.out _; (with_reducible repeat (first | refine blk_drewN ?_ _ | refine blk_drew ?_ | refine blk_alloc ?_ _)); refine blk_far ?_ NB497_508.out _; (with_reducible repeat (first | refine blk_drewN ?_ _ | refine blk_drew ?_ | refine blk_alloc ?_ _)); refine blk_far ?_ NB497_508.out _; (with_reducible repeat (first | refine blk_drewN ?_ _ | refine blk_drew ?_ | refine blk_alloc ?_ _)); refine blk_far ?_ NB497_508.out _; (with_reducible repeat (first | refine blk_drewN ?_ _ | refine blk_drew ?_ | refine blk_alloc ?_ _)); exact BK497.out⟩, ⟨by (with_reducible repeat (first | refine blk_drewN ?_ _ | refine blk_drew ?_ | refine blk_alloc ?_ _)); refine blk_put (cs := #[.int .i64 t499, .slice Ao133 t500.length co133, .slice Ao134 t503.length co134, .bool false]) ?_ 3 _ rfl; (with_reducible repeat (first | refine blk_drewN ?_ _ | refine blk_drew ?_ | refine blk_alloc ?_ _)); refine blk_put (cs := #[.int .i64 t499, .slice Ao133 t500.length co133, .slice none 0 0, .bool false]) ?_ 2 _ rfl; (with_reducible repeat (first | refine blk_drewN ?_ _ | refine blk_drew ?_ | refine blk_alloc ?_ _)); refine blk_put (cs := #[.int .i64 t499, .slice none 0 0, .slice none 0 0, .bool false]) ?_ 1 _ rfl; (with_reducible repeat (first | refine blk_drewN ?_ _ | refine blk_drew ?_ | refine blk_alloc ?_ _)); refine blk_put (cs := #[.int .i64 0, .slice none 0 0, .slice none 0 0, .bool false]) ?_ 0 _ rfl; (with_reducible repeat (first | refine blk_drewN ?_ _ | refine blk_drew ?_ | refine blk_alloc ?_ _)); exact BK508.out⟩, ⟨by repeat (first | (with_reducible first | exact HB.out | apply below_alloc | apply pw_below_drewN | apply below_drew1 | refine below_set ?_ GE472.out | refine below_set ?_ GE485.out | refine below_set ?_ GE497.out | refine below_set ?_ GE508.out) | exact HB.out)⟩⟩
                   case rest => as_aux_lemma =>
                    clear HC121
                    (try clear c1); (try clear c2); (try clear p2); (try clear c3); (try clear c4); (try clear p4); (try clear q4); (try clear hx4); (try clear c5); (try clear p5); (try clear q5); (try clear hx5); (try clear c6); (try clear p6); (try clear c7); (try clear c8); (try clear c9); (try clear c10); (try clear c11); (try clear c12); (try clear c13); (try clear c16); (try clear c16b0); (try clear c16b1); (try clear c18); (try clear c20); (try clear c22); (try clear c27); (try clear c27b0); (try clear c28); (try clear c28b0); (try clear c29); (try clear c29b0); (try clear c30); (try clear c30b0); (try clear c30b1); (try clear c32); (try clear c33); (try clear c34); (try clear c37); (try clear c38); (try clear c38b0); (try clear p48); (try clear q48); (try clear hx48); (try clear p51); (try clear q51); (try clear hx51); (try clear c56); (try clear c56b0); (try clear c56b1); (try clear c56b2); (try clear c59); (try clear c61); (try clear c61b0); (try clear c62); (try clear c62b0); (try clear p64); (try clear c66); (try clear c66b0); (try clear c67); (try clear c67b0); (try clear c69); (try clear c69b0); (try clear c70); (try clear c70b0); (try clear c75); (try clear c80); (try clear c81); (try clear c85); (try clear c85b0); (try clear c85b1); (try clear c87); (try clear c88); (try clear c88b0); (try clear c89); (try clear c90); (try clear c93); (try clear c95); (try clear c95b0); (try clear c95b1); (try clear c96); (try clear c96b0); (try clear c97); (try clear c98); (try clear c101); (try clear c103); (try clear c104); (try clear c107); (try clear c109); (try clear c110); (try clear c113); (try clear c115); (try clear c116); (try clear c119); (try clear c122); (try clear c123); (try clear c125); (try clear c129); (try clear c130); (try clear c131); (try clear c135); (try clear c135b0); (try clear c135b1); (try clear c137); (try clear c138); (try clear c139); (try clear hcz102_0); (try clear hcz102_1); (try clear hcz105_0); (try clear hcz105_1); (try clear hcz105_2)
                    (try clear hcz105_3); (try clear hcz108_0); (try clear hcz108_1); (try clear hcz111_0); (try clear hcz111_1); (try clear hcz111_2); (try clear hcz111_3); (try clear hcz114_0); (try clear hcz114_1); (try clear hcz117_0); (try clear hcz117_1); (try clear hcz117_2); (try clear hcz117_3); (try clear hcz124_0); (try clear hcz124_1); (try clear hcz124_2); (try clear hcz124_3); (try clear hcz126_0); (try clear hcz126_1); (try clear hcz132_0); (try clear hcz132_1); (try clear hcz132_2); (try clear hcz132_3); (try clear hcz13_0); (try clear hcz13_1); (try clear hcz13_2); (try clear hcz13_3); (try clear hcz140_0); (try clear hcz140_1); (try clear hcz140_2); (try clear hcz140_3); (try clear hcz18_0); (try clear hcz18_1); (try clear hcz18_2); (try clear hcz18_3); (try clear hcz23_0); (try clear hcz23_1); (try clear hcz23_2); (try clear hcz23_3); (try clear hcz31_0); (try clear hcz31_1); (try clear hcz31_2); (try clear hcz31_3); (try clear hcz32_0); (try clear hcz32_1); (try clear hcz32_2); (try clear hcz32_3); (try clear hcz35_0); (try clear hcz35_1); (try clear hcz35_2); (try clear hcz35_3); (try clear hcz37_0); (try clear hcz37_1); (try clear hcz37_2); (try clear hcz37_3); (try clear hcz39_0); (try clear hcz39_1); (try clear hcz39_2); (try clear hcz39_3); (try clear hcz41_0); (try clear hcz41_1); (try clear hcz41_2); (try clear hcz41_3); (try clear hcz42_0); (try clear hcz42_1); (try clear hcz42_2); (try clear hcz42_3); (try clear hcz44_0); (try clear hcz44_1); (try clear hcz44_2); (try clear hcz44_3); (try clear hcz48_0); (try clear hcz48_1); (try clear hcz48_2); (try clear hcz48_3); (try clear hcz52_0); (try clear hcz52_1); (try clear hcz52_2); (try clear hcz52_3); (try clear hcz54_0); (try clear hcz54_1); (try clear hcz54_2); (try clear hcz54_3); (try clear hcz76_0); (try clear hcz76_1); (try clear hcz77_0); (try clear hcz77_1); (try clear hcz77_2); (try clear hcz77_3); (try clear hcz82_0); (try clear hcz82_1); (try clear hcz82_2); (try clear hcz82_3); (try clear hcz91_0)
                    (try clear hcz91_1); (try clear hcz91_2); (try clear hcz91_3); (try clear hcz94_0); (try clear hcz94_1); (try clear hcz99_0); (try clear hcz99_1); (try clear hcz99_2); (try clear hcz99_3); (try clear hfz102_0); (try clear hfz102_1); (try clear hfz105_0); (try clear hfz105_1); (try clear hfz105_2); (try clear hfz105_3); (try clear hfz108_0); (try clear hfz108_1); (try clear hfz111_0); (try clear hfz111_1); (try clear hfz111_2); (try clear hfz111_3); (try clear hfz114_0); (try clear hfz114_1); (try clear hfz117_0); (try clear hfz117_1); (try clear hfz117_2); (try clear hfz117_3); (try clear hfz124_0); (try clear hfz124_1); (try clear hfz124_2); (try clear hfz124_3); (try clear hfz126_0); (try clear hfz126_1); (try clear hfz132_0); (try clear hfz132_1); (try clear hfz132_2); (try clear hfz132_3); (try clear hfz13_0); (try clear hfz13_1); (try clear hfz13_2); (try clear hfz13_3); (try clear hfz140_0); (try clear hfz140_1); (try clear hfz140_2); (try clear hfz140_3); (try clear hfz18_0); (try clear hfz18_1); (try clear hfz18_2); (try clear hfz18_3); (try clear hfz23_0); (try clear hfz23_1); (try clear hfz23_2); (try clear hfz23_3); (try clear hfz31_0); (try clear hfz31_1); (try clear hfz31_2); (try clear hfz31_3); (try clear hfz32_0); (try clear hfz32_1); (try clear hfz32_2); (try clear hfz32_3); (try clear hfz35_0); (try clear hfz35_1); (try clear hfz35_2); (try clear hfz35_3); (try clear hfz37_0); (try clear hfz37_1); (try clear hfz37_2); (try clear hfz37_3); (try clear hfz39_0); (try clear hfz39_1); (try clear hfz39_2); (try clear hfz39_3); (try clear hfz41_0); (try clear hfz41_1); (try clear hfz41_2); (try clear hfz41_3); (try clear hfz42_0); (try clear hfz42_1); (try clear hfz42_2); (try clear hfz42_3); (try clear hfz44_0); (try clear hfz44_1); (try clear hfz44_2); (try clear hfz44_3); (try clear hfz48_0); (try clear hfz48_1); (try clear hfz48_2); (try clear hfz48_3); (try clear hfz52_0); (try clear hfz52_1); (try clear hfz52_2); (try clear hfz52_3)
                    (try clear hfz54_0); (try clear hfz54_1); (try clear hfz54_2); (try clear hfz54_3); (try clear hfz76_0); (try clear hfz76_1); (try clear hfz77_0); (try clear hfz77_1); (try clear hfz77_2); (try clear hfz77_3); (try clear hfz82_0); (try clear hfz82_1); (try clear hfz82_2); (try clear hfz82_3); (try clear hfz91_0); (try clear hfz91_1); (try clear hfz91_2); (try clear hfz91_3); (try clear hfz94_0); (try clear hfz94_1); (try clear hfz99_0); (try clear hfz99_1); (try clear hfz99_2); (try clear hfz99_3); (try clear hx480_0); (try clear hx482_0); (try clear hx484_0); (try clear hx484_1); (try clear hx512_0); (try clear hx512_1); (try clear hx512_2); (try clear p2); (try clear p4); (try clear p48); (try clear p480); (try clear p482); (try clear p484); (try clear p5); (try clear p51); (try clear p512); (try clear p6); (try clear p64); (try clear q4); (try clear q48); (try clear q480); (try clear q482); (try clear q484); (try clear q5); (try clear q51); (try clear q512)
                    obtain ⟨kq, x168_120, rfl, HA, HJ120, HO_473001, HO_473002, HO_498001, HO_498002, HO_509001, HO_509002, BK472, BK485, BK497, BK508, HB⟩ := hcut
                    cases kq with
                    | zero => exact absurd HA.out (by simp [winnowlaw19_LedgerComes.j6])
                    | succ kj120 =>
                     have H := HA.out
                     clear HA
                     simp only [winnowlaw19_LedgerComes.j6] at H
                     by_cases c142 : x168_120 = true
                     ·subst c142
                      have H1 : (some false) = some r := by rw [if_pos rfl] at H; exact H
                      clear H
                      have H := H1
                      clear H1
                      obtain rfl := Option.some.inj H
                      go_wp2
                      go_ret
                      exact ⟨by first | rfl | (simp [errW_none, errW_some] <;> rfl) | (simp [*, errW_none, errW_some] <;> rfl), by repeat (first | (with_reducible first | exact HB.out | apply below_alloc | apply pw_below_drewN | apply below_drew1 | refine below_set ?_ GE472.out | refine below_set ?_ GE485.out | refine below_set ?_ GE497.out | refine below_set ?_ GE508.out) | exact HB.out)⟩
                     ·replace c142 := Bool.eq_false_iff.mpr c142
                      subst c142
                      have H1 : ((winnowlaw19_held.f kj120 t499 t500 t503 t506).bind fun t510 => ((winnowlaw19_held.f kj120 t486 t487 t490 t493).bind fun t511 => (if t510 > t511 then (winnowlaw19_LedgerComes.l0 kj120 l3 l4 t460 t461 t462 (wrap64 (x16_2 + 1)) (wrap64 (x17_2 + 1)) t499 t500 t503 t506) else (winnowlaw19_LedgerComes.l0 kj120 l3 l4 t460 t461 t462 x16_2 (wrap64 (x17_2 + 1)) t499 t500 t503 t506)))) = some r := by rw [if_neg (show ¬ (false = true) by decide)] at H; exact H
                      clear H
                      have H := H1
                      clear H1
                      replace H := Option.bind_eq_some_iff.mp H
                      obtain ⟨t510, A1430, H⟩ := H
                      replace H : ((winnowlaw19_held.f kj120 t486 t487 t490 t493).bind fun t511 => (if t510 > t511 then (winnowlaw19_LedgerComes.l0 kj120 l3 l4 t460 t461 t462 (wrap64 (x16_2 + 1)) (wrap64 (x17_2 + 1)) t499 t500 t503 t506) else (winnowlaw19_LedgerComes.l0 kj120 l3 l4 t460 t461 t462 x16_2 (wrap64 (x17_2 + 1)) t499 t500 t503 t506))) = some r := H
                      have A143 := Aside0.mk A1430
                      clear A1430
                      replace H := Option.bind_eq_some_iff.mp H
                      obtain ⟨t511, A1440, H⟩ := H
                      replace H : (if t510 > t511 then (winnowlaw19_LedgerComes.l0 kj120 l3 l4 t460 t461 t462 (wrap64 (x16_2 + 1)) (wrap64 (x17_2 + 1)) t499 t500 t503 t506) else (winnowlaw19_LedgerComes.l0 kj120 l3 l4 t460 t461 t462 x16_2 (wrap64 (x17_2 + 1)) t499 t500 t503 t506)) = some r := H
                      have A144 := Aside0.mk A1440
                      clear A1440
                      by_cases c145 : t510 > t511
                      ·rw [if_pos c145] at H
                       have c145b0 : decide (t511 < t510) = true := decide_eq_true c145
                       clear c145
                       have H' := Aside0.mk H
                       clear H
                       try go_wp2
                       have n0_ := Aside0.mk (Kd.R_drew HO_473001.out)
                       have n1_ := Aside0.mk (Kd.R_drew HO_473002.out)
                       have n2_ := Aside0.mk (Kd.R_drew HO_498001.out)
                       have n3_ := Aside0.mk (Kd.R_drew HO_498002.out)
                       have n4_ := Aside0.mk (Kd.R_drew HO_509001.out)
                       have n5_ := Aside0.mk (Kd.R_drew HO_509002.out)
                       have n6_ := Aside0.mk (blk_drew BK472.out)
                       have n7_ := Aside0.mk (blk_drew BK485.out)
                       have n8_ := Aside0.mk (blk_drew BK497.out)
                       have n9_ := Aside0.mk (blk_drew BK508.out)
                       have n10_ := Aside0.mk (below_drew1 HB.out)
                       clear HO_473001
                       clear HO_473002
                       clear HO_498001
                       clear HO_498002
                       clear HO_509001
                       clear HO_509002
                       clear BK472
                       clear BK485
                       clear BK497
                       clear BK508
                       clear HB
                       have HO_473001 := n0_
                       have HO_473002 := n1_
                       have HO_498001 := n2_
                       have HO_498002 := n3_
                       have HO_509001 := n4_
                       have HO_509002 := n5_
                       have BK472 := n6_
                       have BK485 := n7_
                       have BK497 := n8_
                       have BK508 := n9_
                       have HB := n10_
                       clear n0_ n1_ n2_ n3_ n4_ n5_ n6_ n7_ n8_ n9_ n10_
                       refine start_ (n := 5) (S := fun w' => w'.cell? ⟨gb508, 0, none⟩ = some (.int .i64 t499) ∧ w'.cell? ⟨gb508, 1, none⟩ = some (.slice Ao133 t500.length co133) ∧ w'.cell? ⟨gb508, 2, none⟩ = some (.slice Ao134 t503.length co134) ∧ w'.cell? ⟨gb508, 3, none⟩ = some (.bool t506) ∧ w'.cell? ⟨gb497, 0, none⟩ = some (.int .i64 t486) ∧ w'.cell? ⟨gb497, 1, none⟩ = some (.slice Ao83 t487.length co83) ∧ w'.cell? ⟨gb497, 2, none⟩ = some (.slice Ao84 t490.length co84) ∧ w'.cell? ⟨gb497, 3, none⟩ = some (.bool t493)) (ds := []) #[false, false, false, false, false] (by kernel_rfl) rfl rfl ⟨(blk_cell BK508.out 0).trans rfl, (blk_cell BK508.out 1).trans rfl, (blk_cell BK508.out 2).trans rfl, (blk_cell BK508.out 3).trans rfl, (blk_cell BK497.out 0).trans rfl, (blk_cell BK497.out 1).trans rfl, (blk_cell BK497.out 2).trans rfl, (blk_cell BK497.out 3).trans rfl⟩ (fun hHeld => ?_)
                       generalize wc.drew = w146 at HO_473001 HO_473002 HO_498001 HO_498002 HO_509001 HO_509002 BK472 BK485 BK497 BK508 HB hHeld ⊢
                       refine take_ (i := 0) (N := some 169) (v := ?_) (a' := ?_) #[true, false, false, false, false] rfl rfl (by kernel_rfl) (fun _ _ _ h => h) (Or.inl ⟨by rfl, ?_⟩) hHeld ?_ ?_
                       rotate_left
                       ·rintro w' ⟨s0, s1, s2, s3, s4, s5, s6, s7⟩
                        go_simp
                        with_reducible rfl
                       rotate_left
                       ·simp only [Act.put, List.setIfInBounds_toArray, List.set_cons_zero, List.set_cons_succ, i64_w, i32_w]
                        rfl
                       refine take_ (i := 2) (N := some 171) (v := ?_) (a' := ?_) #[true, false, true, false, false] rfl rfl (by kernel_rfl) (fun _ _ _ h => h) (Or.inl ⟨by rfl, ?_⟩) hHeld ?_ ?_
                       rotate_left
                       ·rintro w' ⟨s0, s1, s2, s3, s4, s5, s6, s7⟩
                        go_simp
                        with_reducible rfl
                       rotate_left
                       ·simp only [Act.put, List.setIfInBounds_toArray, List.set_cons_zero, List.set_cons_succ, i64_w, i32_w]
                        rfl
                       refine one_ (i := 1) (N := some 170) #[true, true, true, false, false] rfl rfl (by kernel_rfl) (by decide) (fun K hK => ?_)
                       refine goes_ Tryd.func38 (by kernel_rfl) rfl #[.agg #[.int .i64 t499, .slice Ao133 t500.length co133, .slice Ao134 t503.length co134, .bool t506]] (by rfl) rfl rfl (by (try simp only [List.map_toArray, List.map_cons, List.map_nil]); first | done | rfl | (simp only [List.length_drop, List.length_take]; rfl)) ?_
                       with_reducible refine (winnowlaw19_held.calls kj120 t499 _ _ t500 _ _ t503 t506 t510 _ ?side1 ?side2 ?side3 ?side4 A143.out).mono ?_
                       (case side1 => repeat (first | exact (Kd.R_reads' HO_509001.out).2.2 | (with_reducible refine Kd.C_alloc ?_ _) | (with_reducible refine Kd.C_drewN ?_ _) | (with_reducible refine Kd.C_drew ?_)))
                       (case side2 => exact (Kd.R_reads' HO_509001.out).2.1)
                       (case side3 => repeat (first | exact (Kd.R_reads' HO_509002.out).2.2 | (with_reducible refine Kd.C_alloc ?_ _) | (with_reducible refine Kd.C_drewN ?_ _) | (with_reducible refine Kd.C_drew ?_)))
                       (case side4 => exact (Kd.R_reads' HO_509002.out).2.1)
                       rintro e w147 ⟨rfl, hb⟩
                       refine ⟨_, rfl, ?_⟩
                       have n0_ := Aside0.mk (Kd.R_below (by (with_reducible repeat (first | apply Kd.R_alloc | apply Kd.R_drewN | apply Kd.R_drew)); exact HO_473001.out) hb)
                       have n1_ := Aside0.mk (Kd.R_below (by (with_reducible repeat (first | apply Kd.R_alloc | apply Kd.R_drewN | apply Kd.R_drew)); exact HO_473002.out) hb)
                       have n2_ := Aside0.mk (Kd.R_below (by (with_reducible repeat (first | apply Kd.R_alloc | apply Kd.R_drewN | apply Kd.R_drew)); exact HO_498001.out) hb)
                       have n3_ := Aside0.mk (Kd.R_below (by (with_reducible repeat (first | apply Kd.R_alloc | apply Kd.R_drewN | apply Kd.R_drew)); exact HO_498002.out) hb)
                       have n4_ := Aside0.mk (Kd.R_below (by (with_reducible repeat (first | apply Kd.R_alloc | apply Kd.R_drewN | apply Kd.R_drew)); exact HO_509001.out) hb)
                       have n5_ := Aside0.mk (Kd.R_below (by (with_reducible repeat (first | apply Kd.R_alloc | apply Kd.R_drewN | apply Kd.R_drew)); exact HO_509002.out) hb)
                       have n6_ := Aside0.mk (blk_below (g := gb472) (o := .cells #[.int .i64 x473000_2, .slice Ao49 x473001_2.length co49, .slice Ao50 x473002_2.length co50, .bool x473003_2] 24 (0, 0)) (by (with_reducible repeat (first | refine blk_drewN ?_ _ | refine blk_drew ?_ | refine blk_alloc ?_ _)); exact BK472.out) hb)
                       have n7_ := Aside0.mk (blk_below (g := gb485) (o := .cells #[.int .i64 ((rd_T29 t475 x21_59).f0), .int .i64 ((rd_T29 t475 x21_59).f1)] 29 (0, 0)) (by (with_reducible repeat (first | refine blk_drewN ?_ _ | refine blk_drew ?_ | refine blk_alloc ?_ _)); exact BK485.out) hb)
                       have n8_ := Aside0.mk (blk_below (g := gb497) (o := .cells #[.int .i64 t486, .slice Ao83 t487.length co83, .slice Ao84 t490.length co84, .bool t493] 24 (0, 0)) (by (with_reducible repeat (first | refine blk_drewN ?_ _ | refine blk_drew ?_ | refine blk_alloc ?_ _)); exact BK497.out) hb)
                       have n9_ := Aside0.mk (blk_below (g := gb508) (o := .cells #[.int .i64 t499, .slice Ao133 t500.length co133, .slice Ao134 t503.length co134, .bool t506] 24 (0, 0)) (by (with_reducible repeat (first | refine blk_drewN ?_ _ | refine blk_drew ?_ | refine blk_alloc ?_ _)); exact BK508.out) hb)
                       have n10_ := Aside0.mk (below_step (by repeat (first | (with_reducible first | exact HB.out | apply below_alloc | apply pw_below_drewN | apply below_drew1 | refine below_set ?_ GE472.out | refine below_set ?_ GE485.out | refine below_set ?_ GE497.out | refine below_set ?_ GE508.out) | exact HB.out)) hb)
                       clear HO_473001
                       clear HO_473002
                       clear HO_498001
                       clear HO_498002
                       clear HO_509001
                       clear HO_509002
                       clear BK472
                       clear BK485
                       clear BK497
                       clear BK508
                       clear HB
                       have HO_473001 := n0_
                       have HO_473002 := n1_
                       have HO_498001 := n2_
                       have HO_498002 := n3_
                       have HO_509001 := n4_
                       have HO_509002 := n5_
                       have BK472 := n6_
                       have BK485 := n7_
                       have BK497 := n8_
                       have BK508 := n9_
                       have HB := n10_
                       clear n0_ n1_ n2_ n3_ n4_ n5_ n6_ n7_ n8_ n9_ n10_
                       (try clear hb)
                       (try clear hb2)
                       (try clear hk)
                       (try clear hi)
                       refine hK.out _ _ ⟨(blk_cell BK508.out 0).trans rfl, (blk_cell BK508.out 1).trans rfl, (blk_cell BK508.out 2).trans rfl, (blk_cell BK508.out 3).trans rfl, (blk_cell BK497.out 0).trans rfl, (blk_cell BK497.out 1).trans rfl, (blk_cell BK497.out 2).trans rfl, (blk_cell BK497.out 3).trans rfl⟩ (fun hHeld => ?_)
                       clear hK K
                       refine norm_ (a' := ?_) ?_ ?_
                       rotate_left
                       ·show Act.put _ (some 170) _ = _
                        simp only [Act.put, List.setIfInBounds_toArray, List.set_cons_zero, List.set_cons_succ, i64_w, i32_w]
                        rfl
                       refine one_ (i := 3) (N := some 172) #[true, true, true, true, false] rfl rfl (by kernel_rfl) (by decide) (fun K hK => ?_)
                       refine goes_ Tryd.func38 (by kernel_rfl) rfl #[.agg #[.int .i64 t486, .slice Ao83 t487.length co83, .slice Ao84 t490.length co84, .bool t493]] (by rfl) rfl rfl (by (try simp only [List.map_toArray, List.map_cons, List.map_nil]); first | done | rfl | (simp only [List.length_drop, List.length_take]; rfl)) ?_
                       with_reducible refine (winnowlaw19_held.calls kj120 t486 _ _ t487 _ _ t490 t493 t511 _ ?side1 ?side2 ?side3 ?side4 A144.out).mono ?_
                       (case side1 => repeat (first | exact (Kd.R_reads' HO_498001.out).2.2 | (with_reducible refine Kd.C_alloc ?_ _) | (with_reducible refine Kd.C_drewN ?_ _) | (with_reducible refine Kd.C_drew ?_)))
                       (case side2 => exact (Kd.R_reads' HO_498001.out).2.1)
                       (case side3 => repeat (first | exact (Kd.R_reads' HO_498002.out).2.2 | (with_reducible refine Kd.C_alloc ?_ _) | (with_reducible refine Kd.C_drewN ?_ _) | (with_reducible refine Kd.C_drew ?_)))
                       (case side4 => exact (Kd.R_reads' HO_498002.out).2.1)
                       rintro e w148 ⟨rfl, hb⟩
                       refine ⟨_, rfl, ?_⟩
                       have n0_ := Aside0.mk (Kd.R_below (by (with_reducible repeat (first | apply Kd.R_alloc | apply Kd.R_drewN | apply Kd.R_drew)); exact HO_473001.out) hb)
                       have n1_ := Aside0.mk (Kd.R_below (by (with_reducible repeat (first | apply Kd.R_alloc | apply Kd.R_drewN | apply Kd.R_drew)); exact HO_473002.out) hb)
                       have n2_ := Aside0.mk (Kd.R_below (by (with_reducible repeat (first | apply Kd.R_alloc | apply Kd.R_drewN | apply Kd.R_drew)); exact HO_498001.out) hb)
                       have n3_ := Aside0.mk (Kd.R_below (by (with_reducible repeat (first | apply Kd.R_alloc | apply Kd.R_drewN | apply Kd.R_drew)); exact HO_498002.out) hb)
                       have n4_ := Aside0.mk (Kd.R_below (by (with_reducible repeat (first | apply Kd.R_alloc | apply Kd.R_drewN | apply Kd.R_drew)); exact HO_509001.out) hb)
                       have n5_ := Aside0.mk (Kd.R_below (by (with_reducible repeat (first | apply Kd.R_alloc | apply Kd.R_drewN | apply Kd.R_drew)); exact HO_509002.out) hb)
                       have n6_ := Aside0.mk (blk_below (g := gb472) (o := .cells #[.int .i64 x473000_2, .slice Ao49 x473001_2.length co49, .slice Ao50 x473002_2.length co50, .bool x473003_2] 24 (0, 0)) (by (with_reducible repeat (first | refine blk_drewN ?_ _ | refine blk_drew ?_ | refine blk_alloc ?_ _)); exact BK472.out) hb)
                       have n7_ := Aside0.mk (blk_below (g := gb485) (o := .cells #[.int .i64 ((rd_T29 t475 x21_59).f0), .int .i64 ((rd_T29 t475 x21_59).f1)] 29 (0, 0)) (by (with_reducible repeat (first | refine blk_drewN ?_ _ | refine blk_drew ?_ | refine blk_alloc ?_ _)); exact BK485.out) hb)
                       have n8_ := Aside0.mk (blk_below (g := gb497) (o := .cells #[.int .i64 t486, .slice Ao83 t487.length co83, .slice Ao84 t490.length co84, .bool t493] 24 (0, 0)) (by (with_reducible repeat (first | refine blk_drewN ?_ _ | refine blk_drew ?_ | refine blk_alloc ?_ _)); exact BK497.out) hb)
                       have n9_ := Aside0.mk (blk_below (g := gb508) (o := .cells #[.int .i64 t499, .slice Ao133 t500.length co133, .slice Ao134 t503.length co134, .bool t506] 24 (0, 0)) (by (with_reducible repeat (first | refine blk_drewN ?_ _ | refine blk_drew ?_ | refine blk_alloc ?_ _)); exact BK508.out) hb)
                       have n10_ := Aside0.mk (below_step (by repeat (first | (with_reducible first | exact HB.out | apply below_alloc | apply pw_below_drewN | apply below_drew1 | refine below_set ?_ GE472.out | refine below_set ?_ GE485.out | refine below_set ?_ GE497.out | refine below_set ?_ GE508.out) | exact HB.out)) hb)
                       clear HO_473001
                       clear HO_473002
                       clear HO_498001
                       clear HO_498002
                       clear HO_509001
                       clear HO_509002
                       clear BK472
                       clear BK485
                       clear BK497
                       clear BK508
                       clear HB
                       have HO_473001 := n0_
                       have HO_473002 := n1_
                       have HO_498001 := n2_
                       have HO_498002 := n3_
                       have HO_509001 := n4_
                       have HO_509002 := n5_
                       have BK472 := n6_
                       have BK485 := n7_
                       have BK497 := n8_
                       have BK508 := n9_
                       have HB := n10_
                       clear n0_ n1_ n2_ n3_ n4_ n5_ n6_ n7_ n8_ n9_ n10_
                       (try clear hb)
                       (try clear hb2)
                       (try clear hk)
                       (try clear hi)
                       refine hK.out _ _ ⟨(blk_cell BK508.out 0).trans rfl, (blk_cell BK508.out 1).trans rfl, (blk_cell BK508.out 2).trans rfl, (blk_cell BK508.out 3).trans rfl, (blk_cell BK497.out 0).trans rfl, (blk_cell BK497.out 1).trans rfl, (blk_cell BK497.out 2).trans rfl, (blk_cell BK497.out 3).trans rfl⟩ (fun hHeld => ?_)
                       clear hK K
                       refine norm_ (a' := ?_) ?_ ?_
                       rotate_left
                       ·show Act.put _ (some 172) _ = _
                        simp only [Act.put, List.setIfInBounds_toArray, List.set_cons_zero, List.set_cons_succ, i64_w, i32_w]
                        rfl
                       refine pure_ (i := 4) (N := some 173) (v := ?_) (a' := ?_) #[true, true, true, true, true] rfl rfl (by kernel_rfl) (fun _ _ _ h => h) (Or.inl ⟨by rfl, ?_⟩) ?_ ?_
                       rotate_left
                       ·intro w'
                        go_simp
                        with_reducible rfl
                       rotate_left
                       ·simp only [Act.put, List.setIfInBounds_toArray, List.set_cons_zero, List.set_cons_succ, i64_w, i32_w]
                        rfl
                       refine done_ (by kernel_rfl) ?_
                       have hnb149 := NB508_472.out
                       have hnc149 := NB472_508.out
                       have hnb150 := NB508_485.out
                       have hnc150 := NB485_508.out
                       have hnb151 := NB508_497.out
                       have hnc151 := NB497_508.out
                       have hcz152_0 : w148.cell? ⟨gb508, 0, none⟩ = some (.int .i64 t499) := (blk_cell BK508.out 0).trans rfl
                       have hcz152_1 : w148.cell? ⟨gb508, 1, none⟩ = some (.slice Ao133 t500.length co133) := (blk_cell BK508.out 1).trans rfl
                       have hcz152_2 : w148.cell? ⟨gb508, 2, none⟩ = some (.slice Ao134 t503.length co134) := (blk_cell BK508.out 2).trans rfl
                       have hcz152_3 : w148.cell? ⟨gb508, 3, none⟩ = some (.bool t506) := (blk_cell BK508.out 3).trans rfl
                       have hfz152_0 := blk_frozen BK508.out 0
                       have hfz152_1 := blk_frozen BK508.out 1
                       have hfz152_2 := blk_frozen BK508.out 2
                       have hfz152_3 := blk_frozen BK508.out 3
                       have hnb153 := NB472_485.out
                       have hnc153 := NB485_472.out
                       have hnb154 := NB472_497.out
                       have hnc154 := NB497_472.out
                       have hcz155_0 : w148.cell? ⟨gb472, 0, none⟩ = some (.int .i64 x473000_2) := (blk_cell BK472.out 0).trans rfl
                       have hcz155_1 : w148.cell? ⟨gb472, 1, none⟩ = some (.slice Ao49 x473001_2.length co49) := (blk_cell BK472.out 1).trans rfl
                       have hcz155_2 : w148.cell? ⟨gb472, 2, none⟩ = some (.slice Ao50 x473002_2.length co50) := (blk_cell BK472.out 2).trans rfl
                       have hcz155_3 : w148.cell? ⟨gb472, 3, none⟩ = some (.bool x473003_2) := (blk_cell BK472.out 3).trans rfl
                       have hfz155_0 := blk_frozen BK472.out 0
                       have hfz155_1 := blk_frozen BK472.out 1
                       have hfz155_2 := blk_frozen BK472.out 2
                       have hfz155_3 := blk_frozen BK472.out 3
                       try go_wp2
                       go_roundg kj120
                       case measure => have := HJ9.out; have := HK2.out; have := HJ46.out; have := HJ59.out; have := HJ64.out; have := HJ71.out; have := HJ120.out; omega
                       case rel => exact ⟨(wrap64 (x16_2 + 1)), (wrap64 (x17_2 + 1)), (t499), (t500), (t503), (t506), (.slice Ao133 t500.length co133), (.slice Ao134 t503.length co134), (by first | rfl | (simp; done) | (simp [*]; done)), (by first | rfl | (simp; done) | (simp [*]; done)), H', ⟨by have := HJ9.out; have := HK2.out; have := HJ46.out; have := HJ59.out; have := HJ64.out; have := HJ71.out; have := HJ120.out; omega⟩, ⟨by (with_reducible repeat (first | apply Kd.R_alloc | apply Kd.R_drewN | apply Kd.R_drew)); exact Kd.R_mono (Kd.R_far (p := ⟨gb472, 3, none⟩) (Kd.R_far (p := ⟨gb472, 2, none⟩) (Kd.R_far (p := ⟨gb472, 1, none⟩) (Kd.R_far (p := ⟨gb472, 0, none⟩) (Kd.R_types HO_509001.out BK472.out (by decide)) (fun _ hk => hk.2) (.int .i64 t499)) (fun _ hk => hk.2) (.slice Ao133 t500.length co133)) (fun _ hk => hk.2) (.slice Ao134 t503.length co134)) (fun _ hk => hk.2) (.bool t506)) (fun _ hk => hk.1.2.2.2.2)⟩, ⟨by (with_reducible repeat (first | apply Kd.R_alloc | apply Kd.R_drewN | apply Kd.R_drew)); exact Kd.R_mono (Kd.R_far (p := ⟨gb472, 3, none⟩) (Kd.R_far (p := ⟨gb472, 2, none⟩) (Kd.R_far (p := ⟨gb472, 1, none⟩) (Kd.R_far (p := ⟨gb472, 0, none⟩) (Kd.R_types HO_509002.out BK472.out (by decide)) (fun _ hk => hk.2) (.int .i64 t499)) (fun _ hk => hk.2) (.slice Ao133 t500.length co133)) (fun _ hk => hk.2) (.slice Ao134 t503.length co134)) (fun _ hk => hk.2) (.bool t506)) (fun _ hk => hk.1.2.2.2.2)⟩, ⟨by (with_reducible repeat (first | refine blk_drewN ?_ _ | refine blk_drew ?_ | refine blk_alloc ?_ _)); refine blk_put (cs := #[.int .i64 t499, .slice Ao133 t500.length co133, .slice Ao134 t503.length co134, .bool x473003_2]) ?_ 3 _ rfl; (with_reducible repeat (first | refine blk_drewN ?_ _ | refine blk_drew ?_ | refine blk_alloc ?_ _)); refine blk_put (cs := #[.int .i64 t499, .slice Ao133 t500.length co133, .slice Ao50 x473002_2.length co50, .bool x473003_2]) ?_ 2 _ rfl; (with_reducible repeat (first | refine blk_drewN ?_ _ | refine blk_drew ?_ | refine blk_alloc ?_ _)); refine blk_put (cs := #[.int .i64 t499, .slice Ao49 x473001_2.length co49, .slice Ao50 x473002_2.length co50, .bool x473003_2]) ?_ 1 _ rfl; (with_reducible repeat (first | refine blk_drewN ?_ _ | refine blk_drew ?_ | refine blk_alloc ?_ _)); refine blk_put (cs := #[.int .i64 x473000_2, .slice Ao49 x473001_2.length co49, .slice Ao50 x473002_2.length co50, .bool x473003_2]) ?_ 0 _ rfl; (with_reducible repeat (first | refine blk_drewN ?_ _ | refine blk_drew ?_ | refine blk_alloc ?_ _)); exact BK472.out⟩, ⟨by repeat (first | (with_reducible first | exact HB.out | apply below_alloc | apply pw_below_drewN | apply below_drew1 | refine below_set ?_ GE472.out | refine below_set ?_ GE485.out | refine below_set ?_ GE497.out | refine below_set ?_ GE508.out) | exact HB.out)⟩⟩
                      ·rw [if_neg c145] at H
                       have c145b0 : decide (t511 < t510) = false := decide_eq_false c145
                       clear c145
                       have H' := Aside0.mk H
                       clear H
                       try go_wp2
                       have n0_ := Aside0.mk (Kd.R_drew HO_473001.out)
                       have n1_ := Aside0.mk (Kd.R_drew HO_473002.out)
                       have n2_ := Aside0.mk (Kd.R_drew HO_498001.out)
                       have n3_ := Aside0.mk (Kd.R_drew HO_498002.out)
                       have n4_ := Aside0.mk (Kd.R_drew HO_509001.out)
                       have n5_ := Aside0.mk (Kd.R_drew HO_509002.out)
                       have n6_ := Aside0.mk (blk_drew BK472.out)
                       have n7_ := Aside0.mk (blk_drew BK485.out)
                       have n8_ := Aside0.mk (blk_drew BK497.out)
                       have n9_ := Aside0.mk (blk_drew BK508.out)
                       have n10_ := Aside0.mk (below_drew1 HB.out)
                       clear HO_473001
                       clear HO_473002
                       clear HO_498001
                       clear HO_498002
                       clear HO_509001
                       clear HO_509002
                       clear BK472
                       clear BK485
                       clear BK497
                       clear BK508
                       clear HB
                       have HO_473001 := n0_
                       have HO_473002 := n1_
                       have HO_498001 := n2_
                       have HO_498002 := n3_
                       have HO_509001 := n4_
                       have HO_509002 := n5_
                       have BK472 := n6_
                       have BK485 := n7_
                       have BK497 := n8_
                       have BK508 := n9_
                       have HB := n10_
                       clear n0_ n1_ n2_ n3_ n4_ n5_ n6_ n7_ n8_ n9_ n10_
                       refine start_ (n := 5) (S := fun w' => w'.cell? ⟨gb508, 0, none⟩ = some (.int .i64 t499) ∧ w'.cell? ⟨gb508, 1, none⟩ = some (.slice Ao133 t500.length co133) ∧ w'.cell? ⟨gb508, 2, none⟩ = some (.slice Ao134 t503.length co134) ∧ w'.cell? ⟨gb508, 3, none⟩ = some (.bool t506) ∧ w'.cell? ⟨gb497, 0, none⟩ = some (.int .i64 t486) ∧ w'.cell? ⟨gb497, 1, none⟩ = some (.slice Ao83 t487.length co83) ∧ w'.cell? ⟨gb497, 2, none⟩ = some (.slice Ao84 t490.length co84) ∧ w'.cell? ⟨gb497, 3, none⟩ = some (.bool t493)) (ds := []) #[false, false, false, false, false] (by kernel_rfl) rfl rfl ⟨(blk_cell BK508.out 0).trans rfl, (blk_cell BK508.out 1).trans rfl, (blk_cell BK508.out 2).trans rfl, (blk_cell BK508.out 3).trans rfl, (blk_cell BK497.out 0).trans rfl, (blk_cell BK497.out 1).trans rfl, (blk_cell BK497.out 2).trans rfl, (blk_cell BK497.out 3).trans rfl⟩ (fun hHeld => ?_)
                       generalize wc.drew = w156 at HO_473001 HO_473002 HO_498001 HO_498002 HO_509001 HO_509002 BK472 BK485 BK497 BK508 HB hHeld ⊢
                       refine take_ (i := 0) (N := some 169) (v := ?_) (a' := ?_) #[true, false, false, false, false] rfl rfl (by kernel_rfl) (fun _ _ _ h => h) (Or.inl ⟨by rfl, ?_⟩) hHeld ?_ ?_
                       rotate_left
                       ·rintro w' ⟨s0, s1, s2, s3, s4, s5, s6, s7⟩
                        go_simp
                        with_reducible rfl
                       rotate_left
                       ·simp only [Act.put, List.setIfInBounds_toArray, List.set_cons_zero, List.set_cons_succ, i64_w, i32_w]
                        rfl
                       refine take_ (i := 2) (N := some 171) (v := ?_) (a' := ?_) #[true, false, true, false, false] rfl rfl (by kernel_rfl) (fun _ _ _ h => h) (Or.inl ⟨by rfl, ?_⟩) hHeld ?_ ?_
                       rotate_left
                       ·rintro w' ⟨s0, s1, s2, s3, s4, s5, s6, s7⟩
                        go_simp
                        with_reducible rfl
                       rotate_left
                       ·simp only [Act.put, List.setIfInBounds_toArray, List.set_cons_zero, List.set_cons_succ, i64_w, i32_w]
                        rfl
                       refine one_ (i := 1) (N := some 170) #[true, true, true, false, false] rfl rfl (by kernel_rfl) (by decide) (fun K hK => ?_)
                       refine goes_ Tryd.func38 (by kernel_rfl) rfl #[.agg #[.int .i64 t499, .slice Ao133 t500.length co133, .slice Ao134 t503.length co134, .bool t506]] (by rfl) rfl rfl (by (try simp only [List.map_toArray, List.map_cons, List.map_nil]); first | done | rfl | (simp only [List.length_drop, List.length_take]; rfl)) ?_
                       with_reducible refine (winnowlaw19_held.calls kj120 t499 _ _ t500 _ _ t503 t506 t510 _ ?side1 ?side2 ?side3 ?side4 A143.out).mono ?_
                       (case side1 => repeat (first | exact (Kd.R_reads' HO_509001.out).2.2 | (with_reducible refine Kd.C_alloc ?_ _) | (with_reducible refine Kd.C_drewN ?_ _) | (with_reducible refine Kd.C_drew ?_)))
                       (case side2 => exact (Kd.R_reads' HO_509001.out).2.1)
                       (case side3 => repeat (first | exact (Kd.R_reads' HO_509002.out).2.2 | (with_reducible refine Kd.C_alloc ?_ _) | (with_reducible refine Kd.C_drewN ?_ _) | (with_reducible refine Kd.C_drew ?_)))
                       (case side4 => exact (Kd.R_reads' HO_509002.out).2.1)
                       rintro e w157 ⟨rfl, hb⟩
                       refine ⟨_, rfl, ?_⟩
                       have n0_ := Aside0.mk (Kd.R_below (by (with_reducible repeat (first | apply Kd.R_alloc | apply Kd.R_drewN | apply Kd.R_drew)); exact HO_473001.out) hb)
                       have n1_ := Aside0.mk (Kd.R_below (by (with_reducible repeat (first | apply Kd.R_alloc | apply Kd.R_drewN | apply Kd.R_drew)); exact HO_473002.out) hb)
                       have n2_ := Aside0.mk (Kd.R_below (by (with_reducible repeat (first | apply Kd.R_alloc | apply Kd.R_drewN | apply Kd.R_drew)); exact HO_498001.out) hb)
                       have n3_ := Aside0.mk (Kd.R_below (by (with_reducible repeat (first | apply Kd.R_alloc | apply Kd.R_drewN | apply Kd.R_drew)); exact HO_498002.out) hb)
                       have n4_ := Aside0.mk (Kd.R_below (by (with_reducible repeat (first | apply Kd.R_alloc | apply Kd.R_drewN | apply Kd.R_drew)); exact HO_509001.out) hb)
                       have n5_ := Aside0.mk (Kd.R_below (by (with_reducible repeat (first | apply Kd.R_alloc | apply Kd.R_drewN | apply Kd.R_drew)); exact HO_509002.out) hb)
                       have n6_ := Aside0.mk (blk_below (g := gb472) (o := .cells #[.int .i64 x473000_2, .slice Ao49 x473001_2.length co49, .slice Ao50 x473002_2.length co50, .bool x473003_2] 24 (0, 0)) (by (with_reducible repeat (first | refine blk_drewN ?_ _ | refine blk_drew ?_ | refine blk_alloc ?_ _)); exact BK472.out) hb)
                       have n7_ := Aside0.mk (blk_below (g := gb485) (o := .cells #[.int .i64 ((rd_T29 t475 x21_59).f0), .int .i64 ((rd_T29 t475 x21_59).f1)] 29 (0, 0)) (by (with_reducible repeat (first | refine blk_drewN ?_ _ | refine blk_drew ?_ | refine blk_alloc ?_ _)); exact BK485.out) hb)
                       have n8_ := Aside0.mk (blk_below (g := gb497) (o := .cells #[.int .i64 t486, .slice Ao83 t487.length co83, .slice Ao84 t490.length co84, .bool t493] 24 (0, 0)) (by (with_reducible repeat (first | refine blk_drewN ?_ _ | refine blk_drew ?_ | refine blk_alloc ?_ _)); exact BK497.out) hb)
                       have n9_ := Aside0.mk (blk_below (g := gb508) (o := .cells #[.int .i64 t499, .slice Ao133 t500.length co133, .slice Ao134 t503.length co134, .bool t506] 24 (0, 0)) (by (with_reducible repeat (first | refine blk_drewN ?_ _ | refine blk_drew ?_ | refine blk_alloc ?_ _)); exact BK508.out) hb)
                       have n10_ := Aside0.mk (below_step (by repeat (first | (with_reducible first | exact HB.out | apply below_alloc | apply pw_below_drewN | apply below_drew1 | refine below_set ?_ GE472.out | refine below_set ?_ GE485.out | refine below_set ?_ GE497.out | refine below_set ?_ GE508.out) | exact HB.out)) hb)
                       clear HO_473001
                       clear HO_473002
                       clear HO_498001
                       clear HO_498002
                       clear HO_509001
                       clear HO_509002
                       clear BK472
                       clear BK485
                       clear BK497
                       clear BK508
                       clear HB
                       have HO_473001 := n0_
                       have HO_473002 := n1_
                       have HO_498001 := n2_
                       have HO_498002 := n3_
                       have HO_509001 := n4_
                       have HO_509002 := n5_
                       have BK472 := n6_
                       have BK485 := n7_
                       have BK497 := n8_
                       have BK508 := n9_
                       have HB := n10_
                       clear n0_ n1_ n2_ n3_ n4_ n5_ n6_ n7_ n8_ n9_ n10_
                       (try clear hb)
                       (try clear hb2)
                       (try clear hk)
                       (try clear hi)
                       refine hK.out _ _ ⟨(blk_cell BK508.out 0).trans rfl, (blk_cell BK508.out 1).trans rfl, (blk_cell BK508.out 2).trans rfl, (blk_cell BK508.out 3).trans rfl, (blk_cell BK497.out 0).trans rfl, (blk_cell BK497.out 1).trans rfl, (blk_cell BK497.out 2).trans rfl, (blk_cell BK497.out 3).trans rfl⟩ (fun hHeld => ?_)
                       clear hK K
                       refine norm_ (a' := ?_) ?_ ?_
                       rotate_left
                       ·show Act.put _ (some 170) _ = _
                        simp only [Act.put, List.setIfInBounds_toArray, List.set_cons_zero, List.set_cons_succ, i64_w, i32_w]
                        rfl
                       refine one_ (i := 3) (N := some 172) #[true, true, true, true, false] rfl rfl (by kernel_rfl) (by decide) (fun K hK => ?_)
                       refine goes_ Tryd.func38 (by kernel_rfl) rfl #[.agg #[.int .i64 t486, .slice Ao83 t487.length co83, .slice Ao84 t490.length co84, .bool t493]] (by rfl) rfl rfl (by (try simp only [List.map_toArray, List.map_cons, List.map_nil]); first | done | rfl | (simp only [List.length_drop, List.length_take]; rfl)) ?_
                       with_reducible refine (winnowlaw19_held.calls kj120 t486 _ _ t487 _ _ t490 t493 t511 _ ?side1 ?side2 ?side3 ?side4 A144.out).mono ?_
                       (case side1 => repeat (first | exact (Kd.R_reads' HO_498001.out).2.2 | (with_reducible refine Kd.C_alloc ?_ _) | (with_reducible refine Kd.C_drewN ?_ _) | (with_reducible refine Kd.C_drew ?_)))
                       (case side2 => exact (Kd.R_reads' HO_498001.out).2.1)
                       (case side3 => repeat (first | exact (Kd.R_reads' HO_498002.out).2.2 | (with_reducible refine Kd.C_alloc ?_ _) | (with_reducible refine Kd.C_drewN ?_ _) | (with_reducible refine Kd.C_drew ?_)))
                       (case side4 => exact (Kd.R_reads' HO_498002.out).2.1)
                       rintro e w158 ⟨rfl, hb⟩
                       refine ⟨_, rfl, ?_⟩
                       have n0_ := Aside0.mk (Kd.R_below (by (with_reducible repeat (first | apply Kd.R_alloc | apply Kd.R_drewN | apply Kd.R_drew)); exact HO_473001.out) hb)
                       have n1_ := Aside0.mk (Kd.R_below (by (with_reducible repeat (first | apply Kd.R_alloc | apply Kd.R_drewN | apply Kd.R_drew)); exact HO_473002.out) hb)
                       have n2_ := Aside0.mk (Kd.R_below (by (with_reducible repeat (first | apply Kd.R_alloc | apply Kd.R_drewN | apply Kd.R_drew)); exact HO_498001.out) hb)
                       have n3_ := Aside0.mk (Kd.R_below (by (with_reducible repeat (first | apply Kd.R_alloc | apply Kd.R_drewN | apply Kd.R_drew)); exact HO_498002.out) hb)
                       have n4_ := Aside0.mk (Kd.R_below (by (with_reducible repeat (first | apply Kd.R_alloc | apply Kd.R_drewN | apply Kd.R_drew)); exact HO_509001.out) hb)
                       have n5_ := Aside0.mk (Kd.R_below (by (with_reducible repeat (first | apply Kd.R_alloc | apply Kd.R_drewN | apply Kd.R_drew)); exact HO_509002.out) hb)
                       have n6_ := Aside0.mk (blk_below (g := gb472) (o := .cells #[.int .i64 x473000_2, .slice Ao49 x473001_2.length co49, .slice Ao50 x473002_2.length co50, .bool x473003_2] 24 (0, 0)) (by (with_reducible repeat (first | refine blk_drewN ?_ _ | refine blk_drew ?_ | refine blk_alloc ?_ _)); exact BK472.out) hb)
                       have n7_ := Aside0.mk (blk_below (g := gb485) (o := .cells #[.int .i64 ((rd_T29 t475 x21_59).f0), .int .i64 ((rd_T29 t475 x21_59).f1)] 29 (0, 0)) (by (with_reducible repeat (first | refine blk_drewN ?_ _ | refine blk_drew ?_ | refine blk_alloc ?_ _)); exact BK485.out) hb)
                       have n8_ := Aside0.mk (blk_below (g := gb497) (o := .cells #[.int .i64 t486, .slice Ao83 t487.length co83, .slice Ao84 t490.length co84, .bool t493] 24 (0, 0)) (by (with_reducible repeat (first | refine blk_drewN ?_ _ | refine blk_drew ?_ | refine blk_alloc ?_ _)); exact BK497.out) hb)
                       have n9_ := Aside0.mk (blk_below (g := gb508) (o := .cells #[.int .i64 t499, .slice Ao133 t500.length co133, .slice Ao134 t503.length co134, .bool t506] 24 (0, 0)) (by (with_reducible repeat (first | refine blk_drewN ?_ _ | refine blk_drew ?_ | refine blk_alloc ?_ _)); exact BK508.out) hb)
                       have n10_ := Aside0.mk (below_step (by repeat (first | (with_reducible first | exact HB.out | apply below_alloc | apply pw_below_drewN | apply below_drew1 | refine below_set ?_ GE472.out | refine below_set ?_ GE485.out | refine below_set ?_ GE497.out | refine below_set ?_ GE508.out) | exact HB.out)) hb)
                       clear HO_473001
                       clear HO_473002
                       clear HO_498001
                       clear HO_498002
                       clear HO_509001
                       clear HO_509002
                       clear BK472
                       clear BK485
                       clear BK497
                       clear BK508
                       clear HB
                       have HO_473001 := n0_
                       have HO_473002 := n1_
                       have HO_498001 := n2_
                       have HO_498002 := n3_
                       have HO_509001 := n4_
                       have HO_509002 := n5_
                       have BK472 := n6_
                       have BK485 := n7_
                       have BK497 := n8_
                       have BK508 := n9_
                       have HB := n10_
                       clear n0_ n1_ n2_ n3_ n4_ n5_ n6_ n7_ n8_ n9_ n10_
                       (try clear hb)
                       (try clear hb2)
                       (try clear hk)
                       (try clear hi)
                       refine hK.out _ _ ⟨(blk_cell BK508.out 0).trans rfl, (blk_cell BK508.out 1).trans rfl, (blk_cell BK508.out 2).trans rfl, (blk_cell BK508.out 3).trans rfl, (blk_cell BK497.out 0).trans rfl, (blk_cell BK497.out 1).trans rfl, (blk_cell BK497.out 2).trans rfl, (blk_cell BK497.out 3).trans rfl⟩ (fun hHeld => ?_)
                       clear hK K
                       refine norm_ (a' := ?_) ?_ ?_
                       rotate_left
                       ·show Act.put _ (some 172) _ = _
                        simp only [Act.put, List.setIfInBounds_toArray, List.set_cons_zero, List.set_cons_succ, i64_w, i32_w]
                        rfl
                       refine pure_ (i := 4) (N := some 173) (v := ?_) (a' := ?_) #[true, true, true, true, true] rfl rfl (by kernel_rfl) (fun _ _ _ h => h) (Or.inl ⟨by rfl, ?_⟩) ?_ ?_
                       rotate_left
                       ·intro w'
                        go_simp
                        with_reducible rfl
                       rotate_left
                       ·simp only [Act.put, List.setIfInBounds_toArray, List.set_cons_zero, List.set_cons_succ, i64_w, i32_w]
                        rfl
                       refine done_ (by kernel_rfl) ?_
                       have hnb159 := NB508_472.out
                       have hnc159 := NB472_508.out
                       have hnb160 := NB508_485.out
                       have hnc160 := NB485_508.out
                       have hnb161 := NB508_497.out
                       have hnc161 := NB497_508.out
                       have hcz162_0 : w158.cell? ⟨gb508, 0, none⟩ = some (.int .i64 t499) := (blk_cell BK508.out 0).trans rfl
                       have hcz162_1 : w158.cell? ⟨gb508, 1, none⟩ = some (.slice Ao133 t500.length co133) := (blk_cell BK508.out 1).trans rfl
                       have hcz162_2 : w158.cell? ⟨gb508, 2, none⟩ = some (.slice Ao134 t503.length co134) := (blk_cell BK508.out 2).trans rfl
                       have hcz162_3 : w158.cell? ⟨gb508, 3, none⟩ = some (.bool t506) := (blk_cell BK508.out 3).trans rfl
                       have hfz162_0 := blk_frozen BK508.out 0
                       have hfz162_1 := blk_frozen BK508.out 1
                       have hfz162_2 := blk_frozen BK508.out 2
                       have hfz162_3 := blk_frozen BK508.out 3
                       have hnb163 := NB472_485.out
                       have hnc163 := NB485_472.out
                       have hnb164 := NB472_497.out
                       have hnc164 := NB497_472.out
                       have hcz165_0 : w158.cell? ⟨gb472, 0, none⟩ = some (.int .i64 x473000_2) := (blk_cell BK472.out 0).trans rfl
                       have hcz165_1 : w158.cell? ⟨gb472, 1, none⟩ = some (.slice Ao49 x473001_2.length co49) := (blk_cell BK472.out 1).trans rfl
                       have hcz165_2 : w158.cell? ⟨gb472, 2, none⟩ = some (.slice Ao50 x473002_2.length co50) := (blk_cell BK472.out 2).trans rfl
                       have hcz165_3 : w158.cell? ⟨gb472, 3, none⟩ = some (.bool x473003_2) := (blk_cell BK472.out 3).trans rfl
                       have hfz165_0 := blk_frozen BK472.out 0
                       have hfz165_1 := blk_frozen BK472.out 1
                       have hfz165_2 := blk_frozen BK472.out 2
                       have hfz165_3 := blk_frozen BK472.out 3
                       try go_wp2
                       go_roundg kj120
                       case measure => have := HJ9.out; have := HK2.out; have := HJ46.out; have := HJ59.out; have := HJ64.out; have := HJ71.out; have := HJ120.out; omega
                       case rel => exact ⟨(x16_2), (wrap64 (x17_2 + 1)), (t499), (t500), (t503), (t506), (.slice Ao133 t500.length co133), (.slice Ao134 t503.length co134), (by first | rfl | (simp; done) | (simp [*]; done)), (by first | rfl | (simp; done) | (simp [*]; done)), H', ⟨by have := HJ9.out; have := HK2.out; have := HJ46.out; have := HJ59.out; have := HJ64.out; have := HJ71.out; have := HJ120.out; omega⟩, ⟨by (with_reducible repeat (first | apply Kd.R_alloc | apply Kd.R_drewN | apply Kd.R_drew)); exact Kd.R_mono (Kd.R_far (p := ⟨gb472, 3, none⟩) (Kd.R_far (p := ⟨gb472, 2, none⟩) (Kd.R_far (p := ⟨gb472, 1, none⟩) (Kd.R_far (p := ⟨gb472, 0, none⟩) (Kd.R_types HO_509001.out BK472.out (by decide)) (fun _ hk => hk.2) (.int .i64 t499)) (fun _ hk => hk.2) (.slice Ao133 t500.length co133)) (fun _ hk => hk.2) (.slice Ao134 t503.length co134)) (fun _ hk => hk.2) (.bool t506)) (fun _ hk => hk.1.2.2.2.2)⟩, ⟨by (with_reducible repeat (first | apply Kd.R_alloc | apply Kd.R_drewN | apply Kd.R_drew)); exact Kd.R_mono (Kd.R_far (p := ⟨gb472, 3, none⟩) (Kd.R_far (p := ⟨gb472, 2, none⟩) (Kd.R_far (p := ⟨gb472, 1, none⟩) (Kd.R_far (p := ⟨gb472, 0, none⟩) (Kd.R_types HO_509002.out BK472.out (by decide)) (fun _ hk => hk.2) (.int .i64 t499)) (fun _ hk => hk.2) (.slice Ao133 t500.length co133)) (fun _ hk => hk.2) (.slice Ao134 t503.length co134)) (fun _ hk => hk.2) (.bool t506)) (fun _ hk => hk.1.2.2.2.2)⟩, ⟨by (with_reducible repeat (first | refine blk_drewN ?_ _ | refine blk_drew ?_ | refine blk_alloc ?_ _)); refine blk_put (cs := #[.int .i64 t499, .slice Ao133 t500.length co133, .slice Ao134 t503.length co134, .bool x473003_2]) ?_ 3 _ rfl; (with_reducible repeat (first | refine blk_drewN ?_ _ | refine blk_drew ?_ | refine blk_alloc ?_ _)); refine blk_put (cs := #[.int .i64 t499, .slice Ao133 t500.length co133, .slice Ao50 x473002_2.length co50, .bool x473003_2]) ?_ 2 _ rfl; (with_reducible repeat (first | refine blk_drewN ?_ _ | refine blk_drew ?_ | refine blk_alloc ?_ _)); refine blk_put (cs := #[.int .i64 t499, .slice Ao49 x473001_2.length co49, .slice Ao50 x473002_2.length co50, .bool x473003_2]) ?_ 1 _ rfl; (with_reducible repeat (first | refine blk_drewN ?_ _ | refine blk_drew ?_ | refine blk_alloc ?_ _)); refine blk_put (cs := #[.int .i64 x473000_2, .slice Ao49 x473001_2.length co49, .slice Ao50 x473002_2.length co50, .bool x473003_2]) ?_ 0 _ rfl; (with_reducible repeat (first | refine blk_drewN ?_ _ | refine blk_drew ?_ | refine blk_alloc ?_ _)); exact BK472.out⟩, ⟨by repeat (first | (with_reducible first | exact HB.out | apply below_alloc | apply pw_below_drewN | apply below_drew1 | refine below_set ?_ GE472.out | refine below_set ?_ GE485.out | refine below_set ?_ GE497.out | refine below_set ?_ GE508.out) | exact HB.out)⟩⟩
               ·rw [if_neg c70] at H
                exact absurd H (by simp)
              ·rw [if_neg c69] at H
               exact absurd H (by simp)

end Go.Proofs.YtponmfnegdlppaaDoor.P

end
