/- Contracts of the functions that the law FnToolKinds comes to: each is told as a plain function of its arguments, and the machine's call does what that function says; no condition. Written by programs (print.py, xprint.py); Lean checks it. -/
import Derived.Test.YtpfmhoikhnhdcaaXFnToolKindsx0
import Derived.Test.YtpfmhoikhnhdcaaXFnToolKindsx1
import Derived.Test.YtpfmhoikhnhdcaaXFnToolKindsx4
import Derived.Test.YtpfmhoikhnhdcaaXFnToolKindsx5
import Derived.Test.YtpfmhoikhnhdcaaXFnToolKindsx6
import Derived.Test.YtpfmhoikhnhdcaaXFnToolKindsx7
import Derived.Test.YtpfmhoikhnhdcaaXFnToolKindsx10
import Derived.Test.YtpfmhoikhnhdcaaXFnToolKindsx11
import Derived.Test.YtpfmhoikhnhdcaaXFnToolKindsx14
import Derived.Test.YtpfmhoikhnhdcaaXFnToolKindsx15
namespace Go.Proofs.Ytpfmhoikhnhdcaa.XFnToolKinds
open Go.RowKit Go.Proofs.YtpfmhoikhnhdcaaW.PrintWords Go.Proofs.YtpfmhoikhnhdcaaW.PrintLast Go.Proofs.YtpfmhoikhnhdcaaW.PrintMore
open List renaming setIfInBounds_toArray → zA, set_cons_zero → zB, set_cons_succ → zC
attribute [local go_sem] max2_int min2_int max_two min_two max_three min_three max_four min_four   -- for this text's walks alone
set_option linter.unusedVariables false
set_option linter.unusedSimpArgs false

attribute [local go_sem high] eqA44
/-! ### laws_FnToolKinds: function 14 -/
mutual
def laws_FnToolKinds.j0 : Nat → List Int → List (S46) → Bool → Bool → Int → Int → Int → Int → Int → Int → Int → Int → Option (Bool)
 | 0, _, _, _, _, _, _, _, _, _, _, _, _ => none
 | k + 1, x0, x4, x6, x72, x419000, x419001, x419002, x419003, x425000, x425001, x425002, x425003 => if x72 = true then (none) else ((impl_WorstCheck.f k x419000 x419001 x419002 x419003 x4).bind fun bt432 => (if bt432.2.2 = true then (laws_FnToolKinds.j1 k x0 x4 x6 bt432.2.1 (x419001 == 0) x425000 x425001 x425002 x425003) else (laws_FnToolKinds.j1 k x0 x4 x6 bt432.2.1 false x425000 x425001 x425002 x425003)))
def laws_FnToolKinds.j1 : Nat → List Int → List (S46) → Bool → Int → Bool → Int → Int → Int → Int → Option (Bool)
 | 0, _, _, _, _, _, _, _, _, _ => none
 | k + 1, x0, x4, x6, x10, x85, x425000, x425001, x425002, x425003 => if x85 = true then ((impl_WorstCheck.f k x425000 x425001 x425002 x425003 x4).bind fun bt435 => (if x6 = true then (if bt435.2.2 = true then (if bt435.2.1 > x10 then (none) else (laws_FnToolKinds.j2 k x0)) else (none)) else (none))) else (laws_FnToolKinds.j2 k x0)
def laws_FnToolKinds.j2 : Nat → List Int → Option (Bool)
 | 0, _ => none
 | k + 1, x0 => (spec_DrawToolsOf.f k x0).bind fun bt438 => ((impl_ToolsOf.f k bt438.1 bt438.2).bind fun bt442 => ((spec_ToolsOf.f k bt438.1 bt438.2).bind fun bt446 => (if (bt442.2 != bt446.2) = true then (laws_FnToolKinds.j3 k x0 bt438.1 true) else ((laws_rInts.f k bt442.1 bt446.1).bind fun t450 => (laws_FnToolKinds.j3 k x0 bt438.1 (!t450))))))
def laws_FnToolKinds.j3 : Nat → List Int → List (S44) → Bool → Option (Bool)
 | 0, _, _, _ => none
 | k + 1, x0, x15, x129 => if x129 = true then (none) else ((impl_AreTools.f k x15).bind fun t451 => (if t451 = true then (laws_FnToolKinds.l0 k x0 x15 0 0) else (laws_FnToolKinds.j5 k x0 x15)))
def laws_FnToolKinds.j5 : Nat → List Int → List (S44) → Option (Bool)
 | 0, _, _ => none
 | k + 1, x0, x15 => (spec_DrawReadBack.f k x0).bind fun bt456 => ((impl_ReadBack.f k bt456.1 bt456.2.1 bt456.2.2.1 bt456.2.2.2.1 bt456.2.2.2.2).bind fun bt462 => ((spec_ReadBack.f k bt456.1 bt456.2.1 bt456.2.2.1 bt456.2.2.2.1 bt456.2.2.2.2).bind fun bt464 => (if bt462.1 = bt464.1 then (if (bt462.2 == bt464.2) = true then ((impl_AreTools.f k x15).bind fun t466 => ((spec_AreTools.f k x15).bind fun t467 => (some (t466 == t467)))) else (none)) else (none))))
def laws_FnToolKinds.l0 : Nat → List Int → List (S44) → Int → Int → Option (Bool)
 | 0, _, _, _, _ => none
 | k + 1, x0, x15, x21, x22 => if x22 ≤ 2 then ((impl_ToolsOf.f k x15 x22).bind fun bt452 => (if bt452.2 = true then (laws_FnToolKinds.l0 k x0 x15 (wrap64 (x21 + (bt452.1.length : Int))) (wrap64 (x22 + 1))) else (none))) else (if x21 = (x15.length : Int) then (laws_FnToolKinds.j5 k x0 x15) else (none))
end
def laws_FnToolKinds.f (k : Nat) (l0 : List Int) : Option (Bool) := (laws_rBig.f l0).bind fun t410 => (if t410 = true then (some true) else ((spec_DrawFitScale.f k l0).bind fun bt411 => ((impl_FitScale.f k bt411.1 bt411.2.1 bt411.2.2.1 bt411.2.2.2.1 bt411.2.2.2.2).bind fun bt419 => ((spec_FitScale.f k bt411.1 bt411.2.1 bt411.2.2.1 bt411.2.2.2.1 bt411.2.2.2.2).bind fun bt425 => (if (!(bt419.1 == bt425.1) || (!(bt419.2.1 == bt425.2.1) || (!(bt419.2.2.1 == bt425.2.2.1) || (!(bt419.2.2.2.1 == bt425.2.2.2.1))))) = true then (laws_FnToolKinds.j0 k l0 bt411.2.2.2.2 bt419.2.2.2.2 true bt411.1 bt411.2.1 bt411.2.2.1 bt411.2.2.2.1 bt419.1 bt419.2.1 bt419.2.2.1 bt419.2.2.2.1) else (if (bt419.2.2.2.2 != bt425.2.2.2.2) = true then (laws_FnToolKinds.j0 k l0 bt411.2.2.2.2 bt419.2.2.2.2 true bt411.1 bt411.2.1 bt411.2.2.1 bt411.2.2.2.1 bt419.1 bt419.2.1 bt419.2.2.1 bt419.2.2.2.1) else (if bt419.2.2.2.2 = true then (if bt419.2.2.1 = bt411.2.2.1 then ((impl_IsTool.f k bt419.1 bt419.2.1 bt419.2.2.1 bt419.2.2.2.1).bind fun t431 => (laws_FnToolKinds.j0 k l0 bt411.2.2.2.2 bt419.2.2.2.2 (!t431) bt411.1 bt411.2.1 bt411.2.2.1 bt411.2.2.2.1 bt419.1 bt419.2.1 bt419.2.2.1 bt419.2.2.2.1)) else (laws_FnToolKinds.j0 k l0 bt411.2.2.2.2 bt419.2.2.2.2 true bt411.1 bt411.2.1 bt411.2.2.1 bt411.2.2.2.1 bt419.1 bt419.2.1 bt419.2.2.1 bt419.2.2.2.1)) else (laws_FnToolKinds.j0 k l0 bt411.2.2.2.2 bt419.2.2.2.2 false bt411.1 bt411.2.1 bt411.2.2.1 bt411.2.2.2.1 bt419.1 bt419.2.1 bt419.2.2.1 bt419.2.2.2.1))))))))
theorem laws_FnToolKinds.mono_l : ∀ k, (∀ y0 y1 y2 y3 y4 y5 y6 y7 y8 y9 y10 y11, LeO (laws_FnToolKinds.j0 k y0 y1 y2 y3 y4 y5 y6 y7 y8 y9 y10 y11) (laws_FnToolKinds.j0 (k + 1) y0 y1 y2 y3 y4 y5 y6 y7 y8 y9 y10 y11)) ∧ (∀ y0 y1 y2 y3 y4 y5 y6 y7 y8, LeO (laws_FnToolKinds.j1 k y0 y1 y2 y3 y4 y5 y6 y7 y8) (laws_FnToolKinds.j1 (k + 1) y0 y1 y2 y3 y4 y5 y6 y7 y8)) ∧ (∀ y0, LeO (laws_FnToolKinds.j2 k y0) (laws_FnToolKinds.j2 (k + 1) y0)) ∧ (∀ y0 y1 y2, LeO (laws_FnToolKinds.j3 k y0 y1 y2) (laws_FnToolKinds.j3 (k + 1) y0 y1 y2)) ∧ (∀ y0 y1, LeO (laws_FnToolKinds.j5 k y0 y1) (laws_FnToolKinds.j5 (k + 1) y0 y1)) ∧ (∀ y0 y1 y2 y3, LeO (laws_FnToolKinds.l0 k y0 y1 y2 y3) (laws_FnToolKinds.l0 (k + 1) y0 y1 y2 y3))
 | 0 => ⟨fun _ _ _ _ _ _ _ _ _ _ _ _ r h => by simp [laws_FnToolKinds.j0] at h, fun _ _ _ _ _ _ _ _ _ r h => by simp [laws_FnToolKinds.j1] at h, fun _ r h => by simp [laws_FnToolKinds.j2] at h, fun _ _ _ r h => by simp [laws_FnToolKinds.j3] at h, fun _ _ r h => by simp [laws_FnToolKinds.j5] at h, fun _ _ _ _ r h => by simp [laws_FnToolKinds.l0] at h⟩
 | k + 1 => by
  obtain ⟨ih0, ih1, ih2, ih3, ih4, ih5⟩ := laws_FnToolKinds.mono_l k
  refine ⟨?_, ?_, ?_, ?_, ?_, ?_⟩
  ·intro y0 y1 y2 y3 y4 y5 y6 y7 y8 y9 y10 y11
   unfold laws_FnToolKinds.j0
   repeat' first
   | (with_reducible exact ih0 _ _ _ _ _ _ _ _ _ _ _ _)
   | (with_reducible exact ih1 _ _ _ _ _ _ _ _ _)
   | (with_reducible exact ih2 _)
   | (with_reducible exact ih3 _ _ _)
   | (with_reducible exact ih4 _ _)
   | (with_reducible exact ih5 _ _ _ _)
   | (with_reducible exact impl_AreTools.mono _ _)
   | (with_reducible exact impl_FitScale.mono _ _ _ _ _ _)
   | (with_reducible exact impl_IsTool.mono _ _ _ _ _)
   | (with_reducible exact impl_ReadBack.mono _ _ _ _ _ _)
   | (with_reducible exact impl_ToolsOf.mono _ _ _)
   | (with_reducible exact impl_WorstCheck.mono _ _ _ _ _ _)
   | (with_reducible exact laws_rInts.mono _ _ _)
   | (with_reducible exact spec_AreTools.mono _ _)
   | (with_reducible exact spec_DrawFitScale.mono _ _)
   | (with_reducible exact spec_DrawReadBack.mono _ _)
   | (with_reducible exact spec_DrawToolsOf.mono _ _)
   | (with_reducible exact spec_FitScale.mono _ _ _ _ _ _)
   | (with_reducible exact spec_ReadBack.mono _ _ _ _ _ _)
   | (with_reducible exact spec_ToolsOf.mono _ _ _)
   | (with_reducible exact LeO.refl _)
   | (with_reducible exact LeO.none _)
   | (with_reducible refine LeO.ite ?_ ?_)
   | (with_reducible refine LeO.bind ?_ (fun _ => ?_))
   | exact ih0 _ _ _ _ _ _ _ _ _ _ _ _
   | exact ih1 _ _ _ _ _ _ _ _ _
   | exact ih2 _
   | exact ih3 _ _ _
   | exact ih4 _ _
   | exact ih5 _ _ _ _
   | exact impl_AreTools.mono _ _
   | exact impl_FitScale.mono _ _ _ _ _ _
   | exact impl_IsTool.mono _ _ _ _ _
   | exact impl_ReadBack.mono _ _ _ _ _ _
   | exact impl_ToolsOf.mono _ _ _
   | exact impl_WorstCheck.mono _ _ _ _ _ _
   | exact laws_rInts.mono _ _ _
   | exact spec_AreTools.mono _ _
   | exact spec_DrawFitScale.mono _ _
   | exact spec_DrawReadBack.mono _ _
   | exact spec_DrawToolsOf.mono _ _
   | exact spec_FitScale.mono _ _ _ _ _ _
   | exact spec_ReadBack.mono _ _ _ _ _ _
   | exact spec_ToolsOf.mono _ _ _
   | exact LeO.none _
   | refine LeO.ite ?_ ?_
   | refine LeO.bind ?_ (fun _ => ?_)
  ·intro y0 y1 y2 y3 y4 y5 y6 y7 y8
   unfold laws_FnToolKinds.j1
   repeat' first
   | (with_reducible exact ih0 _ _ _ _ _ _ _ _ _ _ _ _)
   | (with_reducible exact ih1 _ _ _ _ _ _ _ _ _)
   | (with_reducible exact ih2 _)
   | (with_reducible exact ih3 _ _ _)
   | (with_reducible exact ih4 _ _)
   | (with_reducible exact ih5 _ _ _ _)
   | (with_reducible exact impl_AreTools.mono _ _)
   | (with_reducible exact impl_FitScale.mono _ _ _ _ _ _)
   | (with_reducible exact impl_IsTool.mono _ _ _ _ _)
   | (with_reducible exact impl_ReadBack.mono _ _ _ _ _ _)
   | (with_reducible exact impl_ToolsOf.mono _ _ _)
   | (with_reducible exact impl_WorstCheck.mono _ _ _ _ _ _)
   | (with_reducible exact laws_rInts.mono _ _ _)
   | (with_reducible exact spec_AreTools.mono _ _)
   | (with_reducible exact spec_DrawFitScale.mono _ _)
   | (with_reducible exact spec_DrawReadBack.mono _ _)
   | (with_reducible exact spec_DrawToolsOf.mono _ _)
   | (with_reducible exact spec_FitScale.mono _ _ _ _ _ _)
   | (with_reducible exact spec_ReadBack.mono _ _ _ _ _ _)
   | (with_reducible exact spec_ToolsOf.mono _ _ _)
   | (with_reducible exact LeO.refl _)
   | (with_reducible exact LeO.none _)
   | (with_reducible refine LeO.ite ?_ ?_)
   | (with_reducible refine LeO.bind ?_ (fun _ => ?_))
   | exact ih0 _ _ _ _ _ _ _ _ _ _ _ _
   | exact ih1 _ _ _ _ _ _ _ _ _
   | exact ih2 _
   | exact ih3 _ _ _
   | exact ih4 _ _
   | exact ih5 _ _ _ _
   | exact impl_AreTools.mono _ _
   | exact impl_FitScale.mono _ _ _ _ _ _
   | exact impl_IsTool.mono _ _ _ _ _
   | exact impl_ReadBack.mono _ _ _ _ _ _
   | exact impl_ToolsOf.mono _ _ _
   | exact impl_WorstCheck.mono _ _ _ _ _ _
   | exact laws_rInts.mono _ _ _
   | exact spec_AreTools.mono _ _
   | exact spec_DrawFitScale.mono _ _
   | exact spec_DrawReadBack.mono _ _
   | exact spec_DrawToolsOf.mono _ _
   | exact spec_FitScale.mono _ _ _ _ _ _
   | exact spec_ReadBack.mono _ _ _ _ _ _
   | exact spec_ToolsOf.mono _ _ _
   | exact LeO.none _
   | refine LeO.ite ?_ ?_
   | refine LeO.bind ?_ (fun _ => ?_)
  ·intro y0
   unfold laws_FnToolKinds.j2
   repeat' first
   | (with_reducible exact ih0 _ _ _ _ _ _ _ _ _ _ _ _)
   | (with_reducible exact ih1 _ _ _ _ _ _ _ _ _)
   | (with_reducible exact ih2 _)
   | (with_reducible exact ih3 _ _ _)
   | (with_reducible exact ih4 _ _)
   | (with_reducible exact ih5 _ _ _ _)
   | (with_reducible exact impl_AreTools.mono _ _)
   | (with_reducible exact impl_FitScale.mono _ _ _ _ _ _)
   | (with_reducible exact impl_IsTool.mono _ _ _ _ _)
   | (with_reducible exact impl_ReadBack.mono _ _ _ _ _ _)
   | (with_reducible exact impl_ToolsOf.mono _ _ _)
   | (with_reducible exact impl_WorstCheck.mono _ _ _ _ _ _)
   | (with_reducible exact laws_rInts.mono _ _ _)
   | (with_reducible exact spec_AreTools.mono _ _)
   | (with_reducible exact spec_DrawFitScale.mono _ _)
   | (with_reducible exact spec_DrawReadBack.mono _ _)
   | (with_reducible exact spec_DrawToolsOf.mono _ _)
   | (with_reducible exact spec_FitScale.mono _ _ _ _ _ _)
   | (with_reducible exact spec_ReadBack.mono _ _ _ _ _ _)
   | (with_reducible exact spec_ToolsOf.mono _ _ _)
   | (with_reducible exact LeO.refl _)
   | (with_reducible exact LeO.none _)
   | (with_reducible refine LeO.ite ?_ ?_)
   | (with_reducible refine LeO.bind ?_ (fun _ => ?_))
   | exact ih0 _ _ _ _ _ _ _ _ _ _ _ _
   | exact ih1 _ _ _ _ _ _ _ _ _
   | exact ih2 _
   | exact ih3 _ _ _
   | exact ih4 _ _
   | exact ih5 _ _ _ _
   | exact impl_AreTools.mono _ _
   | exact impl_FitScale.mono _ _ _ _ _ _
   | exact impl_IsTool.mono _ _ _ _ _
   | exact impl_ReadBack.mono _ _ _ _ _ _
   | exact impl_ToolsOf.mono _ _ _
   | exact impl_WorstCheck.mono _ _ _ _ _ _
   | exact laws_rInts.mono _ _ _
   | exact spec_AreTools.mono _ _
   | exact spec_DrawFitScale.mono _ _
   | exact spec_DrawReadBack.mono _ _
   | exact spec_DrawToolsOf.mono _ _
   | exact spec_FitScale.mono _ _ _ _ _ _
   | exact spec_ReadBack.mono _ _ _ _ _ _
   | exact spec_ToolsOf.mono _ _ _
   | exact LeO.none _
   | refine LeO.ite ?_ ?_
   | refine LeO.bind ?_ (fun _ => ?_)
  ·intro y0 y1 y2
   unfold laws_FnToolKinds.j3
   repeat' first
   | (with_reducible exact ih0 _ _ _ _ _ _ _ _ _ _ _ _)
   | (with_reducible exact ih1 _ _ _ _ _ _ _ _ _)
   | (with_reducible exact ih2 _)
   | (with_reducible exact ih3 _ _ _)
   | (with_reducible exact ih4 _ _)
   | (with_reducible exact ih5 _ _ _ _)
   | (with_reducible exact impl_AreTools.mono _ _)
   | (with_reducible exact impl_FitScale.mono _ _ _ _ _ _)
   | (with_reducible exact impl_IsTool.mono _ _ _ _ _)
   | (with_reducible exact impl_ReadBack.mono _ _ _ _ _ _)
   | (with_reducible exact impl_ToolsOf.mono _ _ _)
   | (with_reducible exact impl_WorstCheck.mono _ _ _ _ _ _)
   | (with_reducible exact laws_rInts.mono _ _ _)
   | (with_reducible exact spec_AreTools.mono _ _)
   | (with_reducible exact spec_DrawFitScale.mono _ _)
   | (with_reducible exact spec_DrawReadBack.mono _ _)
   | (with_reducible exact spec_DrawToolsOf.mono _ _)
   | (with_reducible exact spec_FitScale.mono _ _ _ _ _ _)
   | (with_reducible exact spec_ReadBack.mono _ _ _ _ _ _)
   | (with_reducible exact spec_ToolsOf.mono _ _ _)
   | (with_reducible exact LeO.refl _)
   | (with_reducible exact LeO.none _)
   | (with_reducible refine LeO.ite ?_ ?_)
   | (with_reducible refine LeO.bind ?_ (fun _ => ?_))
   | exact ih0 _ _ _ _ _ _ _ _ _ _ _ _
   | exact ih1 _ _ _ _ _ _ _ _ _
   | exact ih2 _
   | exact ih3 _ _ _
   | exact ih4 _ _
   | exact ih5 _ _ _ _
   | exact impl_AreTools.mono _ _
   | exact impl_FitScale.mono _ _ _ _ _ _
   | exact impl_IsTool.mono _ _ _ _ _
   | exact impl_ReadBack.mono _ _ _ _ _ _
   | exact impl_ToolsOf.mono _ _ _
   | exact impl_WorstCheck.mono _ _ _ _ _ _
   | exact laws_rInts.mono _ _ _
   | exact spec_AreTools.mono _ _
   | exact spec_DrawFitScale.mono _ _
   | exact spec_DrawReadBack.mono _ _
   | exact spec_DrawToolsOf.mono _ _
   | exact spec_FitScale.mono _ _ _ _ _ _
   | exact spec_ReadBack.mono _ _ _ _ _ _
   | exact spec_ToolsOf.mono _ _ _
   | exact LeO.none _
   | refine LeO.ite ?_ ?_
   | refine LeO.bind ?_ (fun _ => ?_)
  ·intro y0 y1
   unfold laws_FnToolKinds.j5
   repeat' first
   | (with_reducible exact ih0 _ _ _ _ _ _ _ _ _ _ _ _)
   | (with_reducible exact ih1 _ _ _ _ _ _ _ _ _)
   | (with_reducible exact ih2 _)
   | (with_reducible exact ih3 _ _ _)
   | (with_reducible exact ih4 _ _)
   | (with_reducible exact ih5 _ _ _ _)
   | (with_reducible exact impl_AreTools.mono _ _)
   | (with_reducible exact impl_FitScale.mono _ _ _ _ _ _)
   | (with_reducible exact impl_IsTool.mono _ _ _ _ _)
   | (with_reducible exact impl_ReadBack.mono _ _ _ _ _ _)
   | (with_reducible exact impl_ToolsOf.mono _ _ _)
   | (with_reducible exact impl_WorstCheck.mono _ _ _ _ _ _)
   | (with_reducible exact laws_rInts.mono _ _ _)
   | (with_reducible exact spec_AreTools.mono _ _)
   | (with_reducible exact spec_DrawFitScale.mono _ _)
   | (with_reducible exact spec_DrawReadBack.mono _ _)
   | (with_reducible exact spec_DrawToolsOf.mono _ _)
   | (with_reducible exact spec_FitScale.mono _ _ _ _ _ _)
   | (with_reducible exact spec_ReadBack.mono _ _ _ _ _ _)
   | (with_reducible exact spec_ToolsOf.mono _ _ _)
   | (with_reducible exact LeO.refl _)
   | (with_reducible exact LeO.none _)
   | (with_reducible refine LeO.ite ?_ ?_)
   | (with_reducible refine LeO.bind ?_ (fun _ => ?_))
   | exact ih0 _ _ _ _ _ _ _ _ _ _ _ _
   | exact ih1 _ _ _ _ _ _ _ _ _
   | exact ih2 _
   | exact ih3 _ _ _
   | exact ih4 _ _
   | exact ih5 _ _ _ _
   | exact impl_AreTools.mono _ _
   | exact impl_FitScale.mono _ _ _ _ _ _
   | exact impl_IsTool.mono _ _ _ _ _
   | exact impl_ReadBack.mono _ _ _ _ _ _
   | exact impl_ToolsOf.mono _ _ _
   | exact impl_WorstCheck.mono _ _ _ _ _ _
   | exact laws_rInts.mono _ _ _
   | exact spec_AreTools.mono _ _
   | exact spec_DrawFitScale.mono _ _
   | exact spec_DrawReadBack.mono _ _
   | exact spec_DrawToolsOf.mono _ _
   | exact spec_FitScale.mono _ _ _ _ _ _
   | exact spec_ReadBack.mono _ _ _ _ _ _
   | exact spec_ToolsOf.mono _ _ _
   | exact LeO.none _
   | refine LeO.ite ?_ ?_
   | refine LeO.bind ?_ (fun _ => ?_)
  ·intro y0 y1 y2 y3
   unfold laws_FnToolKinds.l0
   repeat' first
   | (with_reducible exact ih0 _ _ _ _ _ _ _ _ _ _ _ _)
   | (with_reducible exact ih1 _ _ _ _ _ _ _ _ _)
   | (with_reducible exact ih2 _)
   | (with_reducible exact ih3 _ _ _)
   | (with_reducible exact ih4 _ _)
   | (with_reducible exact ih5 _ _ _ _)
   | (with_reducible exact impl_AreTools.mono _ _)
   | (with_reducible exact impl_FitScale.mono _ _ _ _ _ _)
   | (with_reducible exact impl_IsTool.mono _ _ _ _ _)
   | (with_reducible exact impl_ReadBack.mono _ _ _ _ _ _)
   | (with_reducible exact impl_ToolsOf.mono _ _ _)
   | (with_reducible exact impl_WorstCheck.mono _ _ _ _ _ _)
   | (with_reducible exact laws_rInts.mono _ _ _)
   | (with_reducible exact spec_AreTools.mono _ _)
   | (with_reducible exact spec_DrawFitScale.mono _ _)
   | (with_reducible exact spec_DrawReadBack.mono _ _)
   | (with_reducible exact spec_DrawToolsOf.mono _ _)
   | (with_reducible exact spec_FitScale.mono _ _ _ _ _ _)
   | (with_reducible exact spec_ReadBack.mono _ _ _ _ _ _)
   | (with_reducible exact spec_ToolsOf.mono _ _ _)
   | (with_reducible exact LeO.refl _)
   | (with_reducible exact LeO.none _)
   | (with_reducible refine LeO.ite ?_ ?_)
   | (with_reducible refine LeO.bind ?_ (fun _ => ?_))
   | exact ih0 _ _ _ _ _ _ _ _ _ _ _ _
   | exact ih1 _ _ _ _ _ _ _ _ _
   | exact ih2 _
   | exact ih3 _ _ _
   | exact ih4 _ _
   | exact ih5 _ _ _ _
   | exact impl_AreTools.mono _ _
   | exact impl_FitScale.mono _ _ _ _ _ _
   | exact impl_IsTool.mono _ _ _ _ _
   | exact impl_ReadBack.mono _ _ _ _ _ _
   | exact impl_ToolsOf.mono _ _ _
   | exact impl_WorstCheck.mono _ _ _ _ _ _
   | exact laws_rInts.mono _ _ _
   | exact spec_AreTools.mono _ _
   | exact spec_DrawFitScale.mono _ _
   | exact spec_DrawReadBack.mono _ _
   | exact spec_DrawToolsOf.mono _ _
   | exact spec_FitScale.mono _ _ _ _ _ _
   | exact spec_ReadBack.mono _ _ _ _ _ _
   | exact spec_ToolsOf.mono _ _ _
   | exact LeO.none _
   | refine LeO.ite ?_ ?_
   | refine LeO.bind ?_ (fun _ => ?_)
theorem laws_FnToolKinds.mono : ∀ a0 k, LeO (laws_FnToolKinds.f k a0) (laws_FnToolKinds.f (k + 1) a0) := by
 intro a0 k
 obtain ⟨ih0, ih1, ih2, ih3, ih4, ih5⟩ := laws_FnToolKinds.mono_l k
 unfold laws_FnToolKinds.f
 repeat' first
   | (with_reducible exact ih0 _ _ _ _ _ _ _ _ _ _ _ _)
   | (with_reducible exact ih1 _ _ _ _ _ _ _ _ _)
   | (with_reducible exact ih2 _)
   | (with_reducible exact ih3 _ _ _)
   | (with_reducible exact ih4 _ _)
   | (with_reducible exact ih5 _ _ _ _)
   | (with_reducible exact impl_AreTools.mono _ _)
   | (with_reducible exact impl_FitScale.mono _ _ _ _ _ _)
   | (with_reducible exact impl_IsTool.mono _ _ _ _ _)
   | (with_reducible exact impl_ReadBack.mono _ _ _ _ _ _)
   | (with_reducible exact impl_ToolsOf.mono _ _ _)
   | (with_reducible exact impl_WorstCheck.mono _ _ _ _ _ _)
   | (with_reducible exact laws_rInts.mono _ _ _)
   | (with_reducible exact spec_AreTools.mono _ _)
   | (with_reducible exact spec_DrawFitScale.mono _ _)
   | (with_reducible exact spec_DrawReadBack.mono _ _)
   | (with_reducible exact spec_DrawToolsOf.mono _ _)
   | (with_reducible exact spec_FitScale.mono _ _ _ _ _ _)
   | (with_reducible exact spec_ReadBack.mono _ _ _ _ _ _)
   | (with_reducible exact spec_ToolsOf.mono _ _ _)
   | (with_reducible exact LeO.refl _)
   | (with_reducible exact LeO.none _)
   | (with_reducible refine LeO.ite ?_ ?_)
   | (with_reducible refine LeO.bind ?_ (fun _ => ?_))
   | exact ih0 _ _ _ _ _ _ _ _ _ _ _ _
   | exact ih1 _ _ _ _ _ _ _ _ _
   | exact ih2 _
   | exact ih3 _ _ _
   | exact ih4 _ _
   | exact ih5 _ _ _ _
   | exact impl_AreTools.mono _ _
   | exact impl_FitScale.mono _ _ _ _ _ _
   | exact impl_IsTool.mono _ _ _ _ _
   | exact impl_ReadBack.mono _ _ _ _ _ _
   | exact impl_ToolsOf.mono _ _ _
   | exact impl_WorstCheck.mono _ _ _ _ _ _
   | exact laws_rInts.mono _ _ _
   | exact spec_AreTools.mono _ _
   | exact spec_DrawFitScale.mono _ _
   | exact spec_DrawReadBack.mono _ _
   | exact spec_DrawToolsOf.mono _ _
   | exact spec_FitScale.mono _ _ _ _ _ _
   | exact spec_ReadBack.mono _ _ _ _ _ _
   | exact spec_ToolsOf.mono _ _ _
   | exact LeO.none _
   | refine LeO.ite ?_ ?_
   | refine LeO.bind ?_ (fun _ => ?_)
set_option maxHeartbeats 80000000 in
set_option maxRecDepth 100000 in
theorem laws_FnToolKinds.calls (k : Nat) (A0 : Option Addr) (c0 : Nat) (l0 : List Int) (r : Bool) (w : World) (hr0 : Kd.C (Kd.int .u8) w A0 l0.length l0) (hc0 : l0.length ≤ c0) (h : laws_FnToolKinds.f k l0 = some r) :
  Calls Try.prog 14 #[.slice A0 l0.length c0] w fun e w' => e = .returned (.bool r) ∧ Below w.heap.size w w' := by
 have hu44 := Try.underlying44; have HR0 := Aside0.mk hr0; have HC0 := Aside0.mk hc0; clear hr0 hc0
 have HB := Aside0.mk (Below.refl w.heap.size w)
 have H : ((laws_rBig.f l0).bind fun t410 => (if t410 = true then (some true) else ((spec_DrawFitScale.f k l0).bind fun bt411 => ((impl_FitScale.f k bt411.1 bt411.2.1 bt411.2.2.1 bt411.2.2.2.1 bt411.2.2.2.2).bind fun bt419 => ((spec_FitScale.f k bt411.1 bt411.2.1 bt411.2.2.1 bt411.2.2.2.1 bt411.2.2.2.2).bind fun bt425 => (if (!(bt419.1 == bt425.1) || (!(bt419.2.1 == bt425.2.1) || (!(bt419.2.2.1 == bt425.2.2.1) || (!(bt419.2.2.2.1 == bt425.2.2.2.1))))) = true then (laws_FnToolKinds.j0 k l0 bt411.2.2.2.2 bt419.2.2.2.2 true bt411.1 bt411.2.1 bt411.2.2.1 bt411.2.2.2.1 bt419.1 bt419.2.1 bt419.2.2.1 bt419.2.2.2.1) else (if (bt419.2.2.2.2 != bt425.2.2.2.2) = true then (laws_FnToolKinds.j0 k l0 bt411.2.2.2.2 bt419.2.2.2.2 true bt411.1 bt411.2.1 bt411.2.2.1 bt411.2.2.2.1 bt419.1 bt419.2.1 bt419.2.2.1 bt419.2.2.2.1) else (if bt419.2.2.2.2 = true then (if bt419.2.2.1 = bt411.2.2.1 then ((impl_IsTool.f k bt419.1 bt419.2.1 bt419.2.2.1 bt419.2.2.2.1).bind fun t431 => (laws_FnToolKinds.j0 k l0 bt411.2.2.2.2 bt419.2.2.2.2 (!t431) bt411.1 bt411.2.1 bt411.2.2.1 bt411.2.2.2.1 bt419.1 bt419.2.1 bt419.2.2.1 bt419.2.2.2.1)) else (laws_FnToolKinds.j0 k l0 bt411.2.2.2.2 bt419.2.2.2.2 true bt411.1 bt411.2.1 bt411.2.2.1 bt411.2.2.2.1 bt419.1 bt419.2.1 bt419.2.2.1 bt419.2.2.2.1)) else (laws_FnToolKinds.j0 k l0 bt411.2.2.2.2 bt419.2.2.2.2 false bt411.1 bt411.2.1 bt411.2.2.1 bt411.2.2.2.1 bt419.1 bt419.2.1 bt419.2.2.1 bt419.2.2.2.1))))))))) = some r := h
 clear h; replace H := Option.bind_eq_some_iff.mp H; obtain ⟨t410, A20, H⟩ := H
 replace H : (if t410 = true then (some true) else ((spec_DrawFitScale.f k l0).bind fun bt411 => ((impl_FitScale.f k bt411.1 bt411.2.1 bt411.2.2.1 bt411.2.2.2.1 bt411.2.2.2.2).bind fun bt419 => ((spec_FitScale.f k bt411.1 bt411.2.1 bt411.2.2.1 bt411.2.2.2.1 bt411.2.2.2.2).bind fun bt425 => (if (!(bt419.1 == bt425.1) || (!(bt419.2.1 == bt425.2.1) || (!(bt419.2.2.1 == bt425.2.2.1) || (!(bt419.2.2.2.1 == bt425.2.2.2.1))))) = true then (laws_FnToolKinds.j0 k l0 bt411.2.2.2.2 bt419.2.2.2.2 true bt411.1 bt411.2.1 bt411.2.2.1 bt411.2.2.2.1 bt419.1 bt419.2.1 bt419.2.2.1 bt419.2.2.2.1) else (if (bt419.2.2.2.2 != bt425.2.2.2.2) = true then (laws_FnToolKinds.j0 k l0 bt411.2.2.2.2 bt419.2.2.2.2 true bt411.1 bt411.2.1 bt411.2.2.1 bt411.2.2.2.1 bt419.1 bt419.2.1 bt419.2.2.1 bt419.2.2.2.1) else (if bt419.2.2.2.2 = true then (if bt419.2.2.1 = bt411.2.2.1 then ((impl_IsTool.f k bt419.1 bt419.2.1 bt419.2.2.1 bt419.2.2.2.1).bind fun t431 => (laws_FnToolKinds.j0 k l0 bt411.2.2.2.2 bt419.2.2.2.2 (!t431) bt411.1 bt411.2.1 bt411.2.2.1 bt411.2.2.2.1 bt419.1 bt419.2.1 bt419.2.2.1 bt419.2.2.2.1)) else (laws_FnToolKinds.j0 k l0 bt411.2.2.2.2 bt419.2.2.2.2 true bt411.1 bt411.2.1 bt411.2.2.1 bt411.2.2.2.1 bt419.1 bt419.2.1 bt419.2.2.1 bt419.2.2.2.1)) else (laws_FnToolKinds.j0 k l0 bt411.2.2.2.2 bt419.2.2.2.2 false bt411.1 bt411.2.1 bt411.2.2.1 bt411.2.2.2.1 bt419.1 bt419.2.1 bt419.2.2.1 bt419.2.2.2.1)))))))) = some r := H
 have A2 := Aside0.mk A20; clear A20
 by_cases c3 : t410 = true
 ·subst c3
  have H1 : (some true) = some r := by rw [if_pos rfl] at H; exact H
  clear H; have H := H1; clear H1
  obtain rfl := Option.some.inj H
  go_enter Try.func14, Try.ntmps14
  go_wp2_with (first | ((with_reducible refine gate_callee (f := 61) rfl ?_); refine goesL_ (some 32) rfl rfl Try.func61 (by kernel_rfl) rfl #[.slice A0 l0.length c0] rfl gl_ ?_; (with_reducible refine (laws_rBig.calls _ _ l0 true _ ?side1 ?side2 A2.out).mono ?_); (case side1 => repeat (first | exact HR0.out | (with_reducible refine Kd.C_alloc ?_ _) | (with_reducible refine Kd.C_drewN ?_ _) | (with_reducible refine Kd.C_drew ?_))); (case side2 => exact HC0.out); rintro e w' ⟨rfl, ⟨nd, rfl⟩⟩; refine ⟨_, rfl, ?_⟩))
  go_ret
  exact ⟨by first | rfl | (simp <;> rfl) | (simp [*] <;> rfl), by repeat (first | (with_reducible first | exact HB.out | apply below_alloc | apply pw_below_drewN | apply below_drew1) | exact HB.out)⟩
 ·replace c3 := Bool.eq_false_iff.mpr c3
  subst c3
  have H1 : ((spec_DrawFitScale.f k l0).bind fun bt411 => ((impl_FitScale.f k bt411.1 bt411.2.1 bt411.2.2.1 bt411.2.2.2.1 bt411.2.2.2.2).bind fun bt419 => ((spec_FitScale.f k bt411.1 bt411.2.1 bt411.2.2.1 bt411.2.2.2.1 bt411.2.2.2.2).bind fun bt425 => (if (!(bt419.1 == bt425.1) || (!(bt419.2.1 == bt425.2.1) || (!(bt419.2.2.1 == bt425.2.2.1) || (!(bt419.2.2.2.1 == bt425.2.2.2.1))))) = true then (laws_FnToolKinds.j0 k l0 bt411.2.2.2.2 bt419.2.2.2.2 true bt411.1 bt411.2.1 bt411.2.2.1 bt411.2.2.2.1 bt419.1 bt419.2.1 bt419.2.2.1 bt419.2.2.2.1) else (if (bt419.2.2.2.2 != bt425.2.2.2.2) = true then (laws_FnToolKinds.j0 k l0 bt411.2.2.2.2 bt419.2.2.2.2 true bt411.1 bt411.2.1 bt411.2.2.1 bt411.2.2.2.1 bt419.1 bt419.2.1 bt419.2.2.1 bt419.2.2.2.1) else (if bt419.2.2.2.2 = true then (if bt419.2.2.1 = bt411.2.2.1 then ((impl_IsTool.f k bt419.1 bt419.2.1 bt419.2.2.1 bt419.2.2.2.1).bind fun t431 => (laws_FnToolKinds.j0 k l0 bt411.2.2.2.2 bt419.2.2.2.2 (!t431) bt411.1 bt411.2.1 bt411.2.2.1 bt411.2.2.2.1 bt419.1 bt419.2.1 bt419.2.2.1 bt419.2.2.2.1)) else (laws_FnToolKinds.j0 k l0 bt411.2.2.2.2 bt419.2.2.2.2 true bt411.1 bt411.2.1 bt411.2.2.1 bt411.2.2.2.1 bt419.1 bt419.2.1 bt419.2.2.1 bt419.2.2.2.1)) else (laws_FnToolKinds.j0 k l0 bt411.2.2.2.2 bt419.2.2.2.2 false bt411.1 bt411.2.1 bt411.2.2.1 bt411.2.2.2.1 bt419.1 bt419.2.1 bt419.2.2.1 bt419.2.2.2.1))))))) = some r := by rw [if_neg (show ¬ (false = true) by decide)] at H; exact H
  clear H; have H := H1; clear H1; replace H := Option.bind_eq_some_iff.mp H; obtain ⟨⟨t411, t412, t413, t414, t415⟩, A40, H⟩ := H
  replace H : ((impl_FitScale.f k t411 t412 t413 t414 t415).bind fun bt419 => ((spec_FitScale.f k t411 t412 t413 t414 t415).bind fun bt425 => (if (!(bt419.1 == bt425.1) || (!(bt419.2.1 == bt425.2.1) || (!(bt419.2.2.1 == bt425.2.2.1) || (!(bt419.2.2.2.1 == bt425.2.2.2.1))))) = true then (laws_FnToolKinds.j0 k l0 t415 bt419.2.2.2.2 true t411 t412 t413 t414 bt419.1 bt419.2.1 bt419.2.2.1 bt419.2.2.2.1) else (if (bt419.2.2.2.2 != bt425.2.2.2.2) = true then (laws_FnToolKinds.j0 k l0 t415 bt419.2.2.2.2 true t411 t412 t413 t414 bt419.1 bt419.2.1 bt419.2.2.1 bt419.2.2.2.1) else (if bt419.2.2.2.2 = true then (if bt419.2.2.1 = t413 then ((impl_IsTool.f k bt419.1 bt419.2.1 bt419.2.2.1 bt419.2.2.2.1).bind fun t431 => (laws_FnToolKinds.j0 k l0 t415 bt419.2.2.2.2 (!t431) t411 t412 t413 t414 bt419.1 bt419.2.1 bt419.2.2.1 bt419.2.2.2.1)) else (laws_FnToolKinds.j0 k l0 t415 bt419.2.2.2.2 true t411 t412 t413 t414 bt419.1 bt419.2.1 bt419.2.2.1 bt419.2.2.2.1)) else (laws_FnToolKinds.j0 k l0 t415 bt419.2.2.2.2 false t411 t412 t413 t414 bt419.1 bt419.2.1 bt419.2.2.1 bt419.2.2.2.1)))))) = some r := H
  have A4 := Aside0.mk A40; clear A40; replace H := Option.bind_eq_some_iff.mp H; obtain ⟨⟨t419, t420, t421, t422, t423⟩, A50, H⟩ := H
  replace H : ((spec_FitScale.f k t411 t412 t413 t414 t415).bind fun bt425 => (if (!(t419 == bt425.1) || (!(t420 == bt425.2.1) || (!(t421 == bt425.2.2.1) || (!(t422 == bt425.2.2.2.1))))) = true then (laws_FnToolKinds.j0 k l0 t415 t423 true t411 t412 t413 t414 t419 t420 t421 t422) else (if (t423 != bt425.2.2.2.2) = true then (laws_FnToolKinds.j0 k l0 t415 t423 true t411 t412 t413 t414 t419 t420 t421 t422) else (if t423 = true then (if t421 = t413 then ((impl_IsTool.f k t419 t420 t421 t422).bind fun t431 => (laws_FnToolKinds.j0 k l0 t415 t423 (!t431) t411 t412 t413 t414 t419 t420 t421 t422)) else (laws_FnToolKinds.j0 k l0 t415 t423 true t411 t412 t413 t414 t419 t420 t421 t422)) else (laws_FnToolKinds.j0 k l0 t415 t423 false t411 t412 t413 t414 t419 t420 t421 t422))))) = some r := H
  have A5 := Aside0.mk A50; clear A50; replace H := Option.bind_eq_some_iff.mp H; obtain ⟨⟨t425, t426, t427, t428, t429⟩, A60, H⟩ := H
  replace H : (if (!(t419 == t425) || (!(t420 == t426) || (!(t421 == t427) || (!(t422 == t428))))) = true then (laws_FnToolKinds.j0 k l0 t415 t423 true t411 t412 t413 t414 t419 t420 t421 t422) else (if (t423 != t429) = true then (laws_FnToolKinds.j0 k l0 t415 t423 true t411 t412 t413 t414 t419 t420 t421 t422) else (if t423 = true then (if t421 = t413 then ((impl_IsTool.f k t419 t420 t421 t422).bind fun t431 => (laws_FnToolKinds.j0 k l0 t415 t423 (!t431) t411 t412 t413 t414 t419 t420 t421 t422)) else (laws_FnToolKinds.j0 k l0 t415 t423 true t411 t412 t413 t414 t419 t420 t421 t422)) else (laws_FnToolKinds.j0 k l0 t415 t423 false t411 t412 t413 t414 t419 t420 t421 t422)))) = some r := H
  have A6 := Aside0.mk A60; clear A60; have HC7 := Aside0.mk H; clear H
  go_enter Try.func14, Try.ntmps14
  go_upto_region 6 with (first | ((with_reducible refine gate_callee (f := 61) rfl ?_); refine goesL_ (some 32) rfl rfl Try.func61 (by kernel_rfl) rfl #[.slice A0 l0.length c0] rfl gl_ ?_; (with_reducible refine (laws_rBig.calls _ _ l0 false _ ?side1 ?side2 A2.out).mono ?_); (case side1 => repeat (first | exact HR0.out | (with_reducible refine Kd.C_alloc ?_ _) | (with_reducible refine Kd.C_drewN ?_ _) | (with_reducible refine Kd.C_drew ?_))); (case side2 => exact HC0.out); rintro e w' ⟨rfl, ⟨nd, rfl⟩⟩; refine ⟨_, rfl, ?_⟩) | ((with_reducible refine gate_callee (f := 70) rfl ?_); refine goesL_ (some 35) rfl rfl Try.func70 (by kernel_rfl) rfl #[.slice A0 l0.length c0] rfl gl_ ?_; (with_reducible refine (spec_DrawFitScale.calls k _ _ l0 t411 t412 t413 t414 t415 _ ?side1 ?side2 A4.out).mono ?_); (case side1 => repeat (first | exact HR0.out | (with_reducible refine Kd.C_alloc ?_ _) | (with_reducible refine Kd.C_drewN ?_ _) | (with_reducible refine Kd.C_drew ?_))); (case side2 => exact HC0.out); rintro e w8 ⟨v416, rfl, ho0, hb⟩; refine ⟨_, rfl, ?_⟩; have n0_ := Aside0.mk (Kd.R_lower ho0 (below_size bx_)); have n1_ := Aside0.mk (below_step bx_ hb); clear HB; have HO417 := n0_; have HB := n1_; clear n0_ n1_; (try clear hb); (try clear hk); (try clear ho0)) | ((with_reducible refine gate_dst (N := 3) rfl ?_); refine box_event ?hg (N := 3) ?hd (cs := #[.int .i64 0, .int .i64 0, .int .i64 0, .int .i64 0]) (t := 44) ?hr ?_; (case hd => rfl); (case hg => rfl); (case hr => first | (go_simp; done) | (go_simp; rfl)); intro gb418 hg w9 hbox hb; have n0_ := Aside0.mk (Kd.R_below (kr_ HO417) hb); have n1_ := Aside0.mk (below_step bx_ hb); have n2_ := Aside0.mk (hbox); have n3_ := Aside0.mk ((by rw [hg]; exact (below_size bx_) : w.heap.size ≤ gb418)); have n4_ := Aside0.mk ((by rw [hg]; exact (below_size bx_) : w.heap.size ≤ gb418)); clear HO417; clear HB; have HO417 := n0_; have HB := n1_; have BK418 := n2_; have GW418 := n3_; have GE418 := n4_; clear n0_ n1_ n2_ n3_ n4_; clear hb hbox hg; have z10_0 : w9.cell? ⟨gb418, 0, none⟩ = some (.int .i64 0) := (blk_cell BK418.out 0).trans rfl; have z10_1 : w9.cell? ⟨gb418, 1, none⟩ = some (.int .i64 0) := (blk_cell BK418.out 1).trans rfl; have z10_2 : w9.cell? ⟨gb418, 2, none⟩ = some (.int .i64 0) := (blk_cell BK418.out 2).trans rfl; have z10_3 : w9.cell? ⟨gb418, 3, none⟩ = some (.int .i64 0) := (blk_cell BK418.out 3).trans rfl; have y10_0 := blk_frozen BK418.out 0; have y10_1 := blk_frozen BK418.out 1; have y10_2 := blk_frozen BK418.out 2; have y10_3 := blk_frozen BK418.out 3; obtain ⟨Ao11, co11, eo11⟩ := Kd.R_slice HO417.out; subst eo11) | ((with_reducible refine gate_callee (f := 49) rfl ?_); refine goesL_ (some 41) rfl rfl Try.func49 (by kernel_rfl) rfl #[.agg #[.int .i64 t411, .int .i64 t412, .int .i64 t413, .int .i64 t414], .slice Ao11 t415.length co11] rfl gl_ ?_; (with_reducible refine (impl_FitScale.calls k t411 t412 t413 t414 _ _ t415 t419 t420 t421 t422 t423 _ ?side1 ?side2 A5.out).mono ?_); (case side1 => refine (Kd.R_reads' (e := 46) (base := w.heap.size) (ok := fun k_ => True) (n := t415.length) (c := co11) ?_).2.2; exact (by (with_reducible repeat (first | apply Kd.R_alloc | apply Kd.R_drewN | apply Kd.R_drew)); exact (Kd.R_mono (Kd.R_far (p := ⟨gb418, 3, none⟩) (Kd.R_far (p := ⟨gb418, 2, none⟩) (Kd.R_far (p := ⟨gb418, 1, none⟩) (Kd.R_far (p := ⟨gb418, 0, none⟩) (Kd.R_types HO417.out BK418.out (by decide)) (fun _ hk => hk.2) (.int .i64 t411)) (fun _ hk => hk.2) (.int .i64 t412)) (fun _ hk => hk.2) (.int .i64 t413)) (fun _ hk => hk.2) (.int .i64 t414)) (fun _ h_ => h_.1)))); (case side2 => exact (Kd.R_reads' HO417.out).2.1); rintro e w12 ⟨rfl, hb⟩; refine ⟨_, rfl, ?_⟩; have n0_ := Aside0.mk (Kd.R_below (by (with_reducible repeat (first | apply Kd.R_alloc | apply Kd.R_drewN | apply Kd.R_drew)); exact (Kd.R_mono (Kd.R_far (p := ⟨gb418, 3, none⟩) (Kd.R_far (p := ⟨gb418, 2, none⟩) (Kd.R_far (p := ⟨gb418, 1, none⟩) (Kd.R_far (p := ⟨gb418, 0, none⟩) (Kd.R_types HO417.out BK418.out (by decide)) (fun _ hk => hk.2) (.int .i64 t411)) (fun _ hk => hk.2) (.int .i64 t412)) (fun _ hk => hk.2) (.int .i64 t413)) (fun _ hk => hk.2) (.int .i64 t414)) (fun _ h_ => h_.1))) hb); have n1_ := Aside0.mk (blk_below (g := gb418) (o := .cells #[.int .i64 t411, .int .i64 t412, .int .i64 t413, .int .i64 t414] 44 (0, 0)) (by (with_reducible repeat (first | refine blk_drewN ?_ _ | refine blk_drew ?_ | refine blk_alloc ?_ _)); refine blk_put (cs := #[.int .i64 t411, .int .i64 t412, .int .i64 t413, .int .i64 0]) ?_ 3 _ rfl; (with_reducible repeat (first | refine blk_drewN ?_ _ | refine blk_drew ?_ | refine blk_alloc ?_ _)); refine blk_put (cs := #[.int .i64 t411, .int .i64 t412, .int .i64 0, .int .i64 0]) ?_ 2 _ rfl; (with_reducible repeat (first | refine blk_drewN ?_ _ | refine blk_drew ?_ | refine blk_alloc ?_ _)); refine blk_put (cs := #[.int .i64 t411, .int .i64 0, .int .i64 0, .int .i64 0]) ?_ 1 _ rfl; (with_reducible repeat (first | refine blk_drewN ?_ _ | refine blk_drew ?_ | refine blk_alloc ?_ _)); refine blk_put (cs := #[.int .i64 0, .int .i64 0, .int .i64 0, .int .i64 0]) ?_ 0 _ rfl; (with_reducible repeat (first | refine blk_drewN ?_ _ | refine blk_drew ?_ | refine blk_alloc ?_ _)); exact BK418.out) hb); have n2_ := Aside0.mk (below_step bx_ hb); clear HO417; clear BK418; clear HB; have HO417 := n0_; have BK418 := n1_; have HB := n2_; clear n0_ n1_ n2_; (try clear hb); (try clear hk)) | ((with_reducible refine gate_dst (N := 5) rfl ?_); refine box_event ?hg (N := 5) ?hd (cs := #[.int .i64 0, .int .i64 0, .int .i64 0, .int .i64 0]) (t := 44) ?hr ?_; (case hd => rfl); (case hg => rfl); (case hr => first | (go_simp; done) | (go_simp; rfl)); intro gb424 hg w13 hbox hb; have n0_ := Aside0.mk (Kd.R_below (kr_ HO417) hb); have n1_ := Aside0.mk (blk_below (bk_ BK418) hb); have n2_ := Aside0.mk (below_step bx_ hb); have n3_ := Aside0.mk (hbox); have n4_ := Aside0.mk ((by rw [hg]; exact (below_size bx_) : w.heap.size ≤ gb424)); have n5_ := Aside0.mk ((by rw [hg]; exact (below_size bx_) : w.heap.size ≤ gb424)); have n6_ := Aside0.mk ((by rw [hg]; exact Nat.ne_of_lt (blk_lt (g := gb418) (o := .cells #[.int .i64 t411, .int .i64 t412, .int .i64 t413, .int .i64 t414] 44 (0, 0)) (by (with_reducible repeat (first | refine blk_drewN ?_ _ | refine blk_drew ?_ | refine blk_alloc ?_ _)); exact BK418.out)) : gb418 ≠ gb424)); have n7_ := Aside0.mk ((by rw [hg]; exact Nat.ne_of_gt (blk_lt (g := gb418) (o := .cells #[.int .i64 t411, .int .i64 t412, .int .i64 t413, .int .i64 t414] 44 (0, 0)) (by (with_reducible repeat (first | refine blk_drewN ?_ _ | refine blk_drew ?_ | refine blk_alloc ?_ _)); exact BK418.out)) : gb424 ≠ gb418)); clear HO417; clear BK418; clear HB; have HO417 := n0_; have BK418 := n1_; have HB := n2_; have BK424 := n3_; have GW424 := n4_; have GE424 := n5_; have NB418_424 := n6_; have NB424_418 := n7_; clear n0_ n1_ n2_ n3_ n4_ n5_ n6_ n7_; clear hb hbox hg; have hnb14 := NB424_418.out; have hnc14 := NB418_424.out; have z15_0 : w13.cell? ⟨gb424, 0, none⟩ = some (.int .i64 0) := (blk_cell BK424.out 0).trans rfl; have z15_1 : w13.cell? ⟨gb424, 1, none⟩ = some (.int .i64 0) := (blk_cell BK424.out 1).trans rfl; have z15_2 : w13.cell? ⟨gb424, 2, none⟩ = some (.int .i64 0) := (blk_cell BK424.out 2).trans rfl; have z15_3 : w13.cell? ⟨gb424, 3, none⟩ = some (.int .i64 0) := (blk_cell BK424.out 3).trans rfl; have y15_0 := blk_frozen BK424.out 0; have y15_1 := blk_frozen BK424.out 1; have y15_2 := blk_frozen BK424.out 2; have y15_3 := blk_frozen BK424.out 3; have z16_0 : w13.cell? ⟨gb418, 0, none⟩ = some (.int .i64 t411) := (blk_cell BK418.out 0).trans rfl; have z16_1 : w13.cell? ⟨gb418, 1, none⟩ = some (.int .i64 t412) := (blk_cell BK418.out 1).trans rfl; have z16_2 : w13.cell? ⟨gb418, 2, none⟩ = some (.int .i64 t413) := (blk_cell BK418.out 2).trans rfl; have z16_3 : w13.cell? ⟨gb418, 3, none⟩ = some (.int .i64 t414) := (blk_cell BK418.out 3).trans rfl; have y16_0 := blk_frozen BK418.out 0; have y16_1 := blk_frozen BK418.out 1; have y16_2 := blk_frozen BK418.out 2; have y16_3 := blk_frozen BK418.out 3) | ((with_reducible refine gate_callee (f := 48) rfl ?_); refine goesL_ (some 47) rfl rfl Try.func48 (by kernel_rfl) rfl #[.agg #[.int .i64 t411, .int .i64 t412, .int .i64 t413, .int .i64 t414], .slice Ao11 t415.length co11] rfl gl_ ?_; (with_reducible refine (spec_FitScale.calls k t411 t412 t413 t414 _ _ t415 t425 t426 t427 t428 t429 _ ?side1 ?side2 A6.out).mono ?_); (case side1 => refine (Kd.R_reads' (e := 46) (base := w.heap.size) (ok := fun k_ => True) (n := t415.length) (c := co11) ?_).2.2; exact (by (with_reducible repeat (first | apply Kd.R_alloc | apply Kd.R_drewN | apply Kd.R_drew)); exact (Kd.R_mono (Kd.R_far (p := ⟨gb424, 3, none⟩) (Kd.R_far (p := ⟨gb424, 2, none⟩) (Kd.R_far (p := ⟨gb424, 1, none⟩) (Kd.R_far (p := ⟨gb424, 0, none⟩) (Kd.R_types HO417.out BK424.out (by decide)) (fun _ hk => hk.2) (.int .i64 t419)) (fun _ hk => hk.2) (.int .i64 t420)) (fun _ hk => hk.2) (.int .i64 t421)) (fun _ hk => hk.2) (.int .i64 t422)) (fun _ h_ => h_.1)))); (case side2 => exact (Kd.R_reads' HO417.out).2.1); rintro e w17 ⟨rfl, hb⟩; refine ⟨_, rfl, ?_⟩; have n0_ := Aside0.mk (Kd.R_below (by (with_reducible repeat (first | apply Kd.R_alloc | apply Kd.R_drewN | apply Kd.R_drew)); exact (Kd.R_mono (Kd.R_far (p := ⟨gb424, 3, none⟩) (Kd.R_far (p := ⟨gb424, 2, none⟩) (Kd.R_far (p := ⟨gb424, 1, none⟩) (Kd.R_far (p := ⟨gb424, 0, none⟩) (Kd.R_types HO417.out BK424.out (by decide)) (fun _ hk => hk.2) (.int .i64 t419)) (fun _ hk => hk.2) (.int .i64 t420)) (fun _ hk => hk.2) (.int .i64 t421)) (fun _ hk => hk.2) (.int .i64 t422)) (fun _ h_ => h_.1))) hb); have n1_ := Aside0.mk (blk_below (g := gb418) (o := .cells #[.int .i64 t411, .int .i64 t412, .int .i64 t413, .int .i64 t414] 44 (0, 0)) (by (with_reducible repeat (first | refine blk_drewN ?_ _ | refine blk_drew ?_ | refine blk_alloc ?_ _)); refine blk_far ?_ NB418_424.out _; (with_reducible repeat (first | refine blk_drewN ?_ _ | refine blk_drew ?_ | refine blk_alloc ?_ _)); refine blk_far ?_ NB418_424.out _; (with_reducible repeat (first | refine blk_drewN ?_ _ | refine blk_drew ?_ | refine blk_alloc ?_ _)); refine blk_far ?_ NB418_424.out _; (with_reducible repeat (first | refine blk_drewN ?_ _ | refine blk_drew ?_ | refine blk_alloc ?_ _)); refine blk_far ?_ NB418_424.out _; (with_reducible repeat (first | refine blk_drewN ?_ _ | refine blk_drew ?_ | refine blk_alloc ?_ _)); exact BK418.out) hb); have n2_ := Aside0.mk (blk_below (g := gb424) (o := .cells #[.int .i64 t419, .int .i64 t420, .int .i64 t421, .int .i64 t422] 44 (0, 0)) (by (with_reducible repeat (first | refine blk_drewN ?_ _ | refine blk_drew ?_ | refine blk_alloc ?_ _)); refine blk_put (cs := #[.int .i64 t419, .int .i64 t420, .int .i64 t421, .int .i64 0]) ?_ 3 _ rfl; (with_reducible repeat (first | refine blk_drewN ?_ _ | refine blk_drew ?_ | refine blk_alloc ?_ _)); refine blk_put (cs := #[.int .i64 t419, .int .i64 t420, .int .i64 0, .int .i64 0]) ?_ 2 _ rfl; (with_reducible repeat (first | refine blk_drewN ?_ _ | refine blk_drew ?_ | refine blk_alloc ?_ _)); refine blk_put (cs := #[.int .i64 t419, .int .i64 0, .int .i64 0, .int .i64 0]) ?_ 1 _ rfl; (with_reducible repeat (first | refine blk_drewN ?_ _ | refine blk_drew ?_ | refine blk_alloc ?_ _)); refine blk_put (cs := #[.int .i64 0, .int .i64 0, .int .i64 0, .int .i64 0]) ?_ 0 _ rfl; (with_reducible repeat (first | refine blk_drewN ?_ _ | refine blk_drew ?_ | refine blk_alloc ?_ _)); exact BK424.out) hb); have n3_ := Aside0.mk (below_step bx_ hb); clear HO417; clear BK418; clear BK424; clear HB; have HO417 := n0_; have BK418 := n1_; have BK424 := n2_; have HB := n3_; clear n0_ n1_ n2_ n3_; (try clear hb); (try clear hk)) | ((with_reducible refine gate_dst (N := 7) rfl ?_); refine box_event ?hg (N := 7) ?hd (cs := #[.int .i64 0, .int .i64 0, .int .i64 0, .int .i64 0]) (t := 44) ?hr ?_; (case hd => rfl); (case hg => rfl); (case hr => first | (go_simp; done) | (go_simp; rfl)); intro gb430 hg w18 hbox hb; have n0_ := Aside0.mk (Kd.R_below (kr_ HO417) hb); have n1_ := Aside0.mk (blk_below (bk_ BK418) hb); have n2_ := Aside0.mk (blk_below (bk_ BK424) hb); have n3_ := Aside0.mk (below_step bx_ hb); have n4_ := Aside0.mk (hbox); have n5_ := Aside0.mk ((by rw [hg]; exact (below_size bx_) : w.heap.size ≤ gb430)); have n6_ := Aside0.mk ((by rw [hg]; exact (below_size bx_) : w.heap.size ≤ gb430)); have n7_ := Aside0.mk ((by rw [hg]; exact Nat.ne_of_lt (blk_lt (g := gb418) (o := .cells #[.int .i64 t411, .int .i64 t412, .int .i64 t413, .int .i64 t414] 44 (0, 0)) (by (with_reducible repeat (first | refine blk_drewN ?_ _ | refine blk_drew ?_ | refine blk_alloc ?_ _)); exact BK418.out)) : gb418 ≠ gb430)); have n8_ := Aside0.mk ((by rw [hg]; exact Nat.ne_of_gt (blk_lt (g := gb418) (o := .cells #[.int .i64 t411, .int .i64 t412, .int .i64 t413, .int .i64 t414] 44 (0, 0)) (by (with_reducible repeat (first | refine blk_drewN ?_ _ | refine blk_drew ?_ | refine blk_alloc ?_ _)); exact BK418.out)) : gb430 ≠ gb418)); have n9_ := Aside0.mk ((by rw [hg]; exact Nat.ne_of_lt (blk_lt (g := gb424) (o := .cells #[.int .i64 t419, .int .i64 t420, .int .i64 t421, .int .i64 t422] 44 (0, 0)) (by (with_reducible repeat (first | refine blk_drewN ?_ _ | refine blk_drew ?_ | refine blk_alloc ?_ _)); exact BK424.out)) : gb424 ≠ gb430)); have n10_ := Aside0.mk ((by rw [hg]; exact Nat.ne_of_gt (blk_lt (g := gb424) (o := .cells #[.int .i64 t419, .int .i64 t420, .int .i64 t421, .int .i64 t422] 44 (0, 0)) (by (with_reducible repeat (first | refine blk_drewN ?_ _ | refine blk_drew ?_ | refine blk_alloc ?_ _)); exact BK424.out)) : gb430 ≠ gb424)); clear HO417; clear BK418; clear BK424; clear HB; have HO417 := n0_; have BK418 := n1_; have BK424 := n2_; have HB := n3_; have BK430 := n4_; have GW430 := n5_; have GE430 := n6_; have NB418_430 := n7_; have NB430_418 := n8_; have NB424_430 := n9_; have NB430_424 := n10_; clear n0_ n1_ n2_ n3_ n4_ n5_ n6_ n7_ n8_ n9_ n10_; clear hb hbox hg; have hnb19 := NB430_418.out; have hnc19 := NB418_430.out; have hnb20 := NB430_424.out; have hnc20 := NB424_430.out; have z21_0 : w18.cell? ⟨gb430, 0, none⟩ = some (.int .i64 0) := (blk_cell BK430.out 0).trans rfl; have z21_1 : w18.cell? ⟨gb430, 1, none⟩ = some (.int .i64 0) := (blk_cell BK430.out 1).trans rfl; have z21_2 : w18.cell? ⟨gb430, 2, none⟩ = some (.int .i64 0) := (blk_cell BK430.out 2).trans rfl; have z21_3 : w18.cell? ⟨gb430, 3, none⟩ = some (.int .i64 0) := (blk_cell BK430.out 3).trans rfl; have y21_0 := blk_frozen BK430.out 0; have y21_1 := blk_frozen BK430.out 1; have y21_2 := blk_frozen BK430.out 2; have y21_3 := blk_frozen BK430.out 3))
  (try simp only [Act.put, zA, zB, zC])
  go_cut [72] (fun v72 wc => ∃ (kq : Nat) (x72_6 : Bool), v72 = .bool x72_6 ∧ Aside0 (laws_FnToolKinds.j0 kq l0 t415 t423 x72_6 t411 t412 t413 t414 t419 t420 t421 t422 = some r) ∧ Aside0 (kq ≤ k) ∧ Aside0 (Kd.R k46 46 wc w.heap.size (fun _ => True) (.slice Ao11 t415.length co11) t415) ∧ Aside0 (wc.heap[gb418]? = some (.cells #[.int .i64 t411, .int .i64 t412, .int .i64 t413, .int .i64 t414] 44 (0, 0))) ∧ Aside0 (wc.heap[gb424]? = some (.cells #[.int .i64 t419, .int .i64 t420, .int .i64 t421, .int .i64 t422] 44 (0, 0))) ∧ Aside0 (wc.heap[gb430]? = some (.cells #[.int .i64 t425, .int .i64 t426, .int .i64 t427, .int .i64 t428] 44 (0, 0))) ∧ Aside0 (Below w.heap.size w wc))
  case first => as_aux_lemma =>
   have H := HC7.out; clear HC7
   by_cases c22 : (!(t419 == t425) || (!(t420 == t426) || (!(t421 == t427) || (!(t422 == t428))))) = true
   ·rw [if_pos c22] at H
    have c22b0 : (!(t419 == t425) || (!(t420 == t426) || (!(t421 == t427) || (!(t422 == t428))))) = true := c22
    clear c22
    (first | rw [c22b0] | (simp only [i64_w, i32_w]; rw [c22b0]) | skip)
    have H' := Aside0.mk H
    clear H; have hnb23 := NB424_418.out; have hnc23 := NB418_424.out; have hnb24 := NB424_430.out; have hnc24 := NB430_424.out
    have z25_0 : w18.cell? ⟨gb424, 0, none⟩ = some (.int .i64 t419) := (blk_cell BK424.out 0).trans rfl
    have z25_1 : w18.cell? ⟨gb424, 1, none⟩ = some (.int .i64 t420) := (blk_cell BK424.out 1).trans rfl
    have z25_2 : w18.cell? ⟨gb424, 2, none⟩ = some (.int .i64 t421) := (blk_cell BK424.out 2).trans rfl
    have z25_3 : w18.cell? ⟨gb424, 3, none⟩ = some (.int .i64 t422) := (blk_cell BK424.out 3).trans rfl
    have y25_0 := blk_frozen BK424.out 0; have y25_1 := blk_frozen BK424.out 1; have y25_2 := blk_frozen BK424.out 2; have y25_3 := blk_frozen BK424.out 3; have hnb26 := NB430_418.out; have hnc26 := NB418_430.out
    have z27_0 : w18.cell? ⟨gb430, 0, none⟩ = some (.int .i64 0) := (blk_cell BK430.out 0).trans rfl
    have z27_1 : w18.cell? ⟨gb430, 1, none⟩ = some (.int .i64 0) := (blk_cell BK430.out 1).trans rfl
    have z27_2 : w18.cell? ⟨gb430, 2, none⟩ = some (.int .i64 0) := (blk_cell BK430.out 2).trans rfl
    have z27_3 : w18.cell? ⟨gb430, 3, none⟩ = some (.int .i64 0) := (blk_cell BK430.out 3).trans rfl
    have y27_0 := blk_frozen BK430.out 0; have y27_1 := blk_frozen BK430.out 1; have y27_2 := blk_frozen BK430.out 2; have y27_3 := blk_frozen BK430.out 3
    go_wp2
    go_meet
    case rel => exact ⟨_, (true), (by first | rfl | (simp; done) | (simp [*]; done)), H', ⟨by first | omega | exact Nat.le_refl _⟩, ⟨by (with_reducible repeat (first | apply Kd.R_alloc | apply Kd.R_drewN | apply Kd.R_drew)); exact Kd.R_mono (Kd.R_far (p := ⟨gb430, 3, none⟩) (Kd.R_far (p := ⟨gb430, 2, none⟩) (Kd.R_far (p := ⟨gb430, 1, none⟩) (Kd.R_far (p := ⟨gb430, 0, none⟩) (Kd.R_types HO417.out BK430.out (by decide)) (fun _ hk => hk.2) (.int .i64 t425)) (fun _ hk => hk.2) (.int .i64 t426)) (fun _ hk => hk.2) (.int .i64 t427)) (fun _ hk => hk.2) (.int .i64 t428)) (fun _ hk => trivial)⟩, ⟨by (with_reducible repeat (first | refine blk_drewN ?_ _ | refine blk_drew ?_ | refine blk_alloc ?_ _)); refine blk_far ?_ NB418_430.out _; (with_reducible repeat (first | refine blk_drewN ?_ _ | refine blk_drew ?_ | refine blk_alloc ?_ _)); refine blk_far ?_ NB418_430.out _; (with_reducible repeat (first | refine blk_drewN ?_ _ | refine blk_drew ?_ | refine blk_alloc ?_ _)); refine blk_far ?_ NB418_430.out _; (with_reducible repeat (first | refine blk_drewN ?_ _ | refine blk_drew ?_ | refine blk_alloc ?_ _)); refine blk_far ?_ NB418_430.out _; (with_reducible repeat (first | refine blk_drewN ?_ _ | refine blk_drew ?_ | refine blk_alloc ?_ _)); exact BK418.out⟩, ⟨by (with_reducible repeat (first | refine blk_drewN ?_ _ | refine blk_drew ?_ | refine blk_alloc ?_ _)); refine blk_far ?_ NB424_430.out _; (with_reducible repeat (first | refine blk_drewN ?_ _ | refine blk_drew ?_ | refine blk_alloc ?_ _)); refine blk_far ?_ NB424_430.out _; (with_reducible repeat (first | refine blk_drewN ?_ _ | refine blk_drew ?_ | refine blk_alloc ?_ _)); refine blk_far ?_ NB424_430.out _; (with_reducible repeat (first | refine blk_drewN ?_ _ | refine blk_drew ?_ | refine blk_alloc ?_ _)); refine blk_far ?_ NB424_430.out _; (with_reducible repeat (first | refine blk_drewN ?_ _ | refine blk_drew ?_ | refine blk_alloc ?_ _)); exact BK424.out⟩, ⟨by (with_reducible repeat (first | refine blk_drewN ?_ _ | refine blk_drew ?_ | refine blk_alloc ?_ _)); refine blk_put (cs := #[.int .i64 t425, .int .i64 t426, .int .i64 t427, .int .i64 0]) ?_ 3 _ rfl; (with_reducible repeat (first | refine blk_drewN ?_ _ | refine blk_drew ?_ | refine blk_alloc ?_ _)); refine blk_put (cs := #[.int .i64 t425, .int .i64 t426, .int .i64 0, .int .i64 0]) ?_ 2 _ rfl; (with_reducible repeat (first | refine blk_drewN ?_ _ | refine blk_drew ?_ | refine blk_alloc ?_ _)); refine blk_put (cs := #[.int .i64 t425, .int .i64 0, .int .i64 0, .int .i64 0]) ?_ 1 _ rfl; (with_reducible repeat (first | refine blk_drewN ?_ _ | refine blk_drew ?_ | refine blk_alloc ?_ _)); refine blk_put (cs := #[.int .i64 0, .int .i64 0, .int .i64 0, .int .i64 0]) ?_ 0 _ rfl; (with_reducible repeat (first | refine blk_drewN ?_ _ | refine blk_drew ?_ | refine blk_alloc ?_ _)); exact BK430.out⟩, ⟨by repeat (first | (with_reducible first | exact HB.out | apply below_alloc | apply pw_below_drewN | apply below_drew1 | refine below_set ?_ GE418.out | refine below_set ?_ GE424.out | refine below_set ?_ GE430.out) | exact HB.out)⟩⟩
   ·rw [if_neg c22] at H
    have c22b0 : (!(t419 == t425) || (!(t420 == t426) || (!(t421 == t427) || (!(t422 == t428))))) = false := by simpa using c22
    clear c22
    (first | rw [c22b0] | (simp only [i64_w, i32_w]; rw [c22b0]) | skip)
    by_cases c28 : (t423 != t429) = true
    ·rw [if_pos c28] at H
     have c28b0 : (t423 != t429) = true := c28
     (try (have c28b1 : decide (t423 = t429) = false := by simpa using c28))
     (try (have c28b2 : (t423 == t429) = false := by simpa using c28))
     (try (have c28b3 : ¬ (t423 = t429) := by simpa using c28))
     clear c28
     have H' := Aside0.mk H
     clear H; have hnb29 := NB424_418.out; have hnc29 := NB418_424.out; have hnb30 := NB424_430.out; have hnc30 := NB430_424.out
     have z31_0 : w18.cell? ⟨gb424, 0, none⟩ = some (.int .i64 t419) := (blk_cell BK424.out 0).trans rfl
     have z31_1 : w18.cell? ⟨gb424, 1, none⟩ = some (.int .i64 t420) := (blk_cell BK424.out 1).trans rfl
     have z31_2 : w18.cell? ⟨gb424, 2, none⟩ = some (.int .i64 t421) := (blk_cell BK424.out 2).trans rfl
     have z31_3 : w18.cell? ⟨gb424, 3, none⟩ = some (.int .i64 t422) := (blk_cell BK424.out 3).trans rfl
     have y31_0 := blk_frozen BK424.out 0; have y31_1 := blk_frozen BK424.out 1; have y31_2 := blk_frozen BK424.out 2; have y31_3 := blk_frozen BK424.out 3; have hnb32 := NB430_418.out; have hnc32 := NB418_430.out
     have z33_0 : w18.cell? ⟨gb430, 0, none⟩ = some (.int .i64 0) := (blk_cell BK430.out 0).trans rfl
     have z33_1 : w18.cell? ⟨gb430, 1, none⟩ = some (.int .i64 0) := (blk_cell BK430.out 1).trans rfl
     have z33_2 : w18.cell? ⟨gb430, 2, none⟩ = some (.int .i64 0) := (blk_cell BK430.out 2).trans rfl
     have z33_3 : w18.cell? ⟨gb430, 3, none⟩ = some (.int .i64 0) := (blk_cell BK430.out 3).trans rfl
     have y33_0 := blk_frozen BK430.out 0; have y33_1 := blk_frozen BK430.out 1; have y33_2 := blk_frozen BK430.out 2; have y33_3 := blk_frozen BK430.out 3
     go_wp2
     go_meet
     case rel => exact ⟨_, (true), (by first | rfl | (simp; done) | (simp [*]; done)), H', ⟨by first | omega | exact Nat.le_refl _⟩, ⟨by (with_reducible repeat (first | apply Kd.R_alloc | apply Kd.R_drewN | apply Kd.R_drew)); exact Kd.R_mono (Kd.R_far (p := ⟨gb430, 3, none⟩) (Kd.R_far (p := ⟨gb430, 2, none⟩) (Kd.R_far (p := ⟨gb430, 1, none⟩) (Kd.R_far (p := ⟨gb430, 0, none⟩) (Kd.R_types HO417.out BK430.out (by decide)) (fun _ hk => hk.2) (.int .i64 t425)) (fun _ hk => hk.2) (.int .i64 t426)) (fun _ hk => hk.2) (.int .i64 t427)) (fun _ hk => hk.2) (.int .i64 t428)) (fun _ hk => trivial)⟩, ⟨by (with_reducible repeat (first | refine blk_drewN ?_ _ | refine blk_drew ?_ | refine blk_alloc ?_ _)); refine blk_far ?_ NB418_430.out _; (with_reducible repeat (first | refine blk_drewN ?_ _ | refine blk_drew ?_ | refine blk_alloc ?_ _)); refine blk_far ?_ NB418_430.out _; (with_reducible repeat (first | refine blk_drewN ?_ _ | refine blk_drew ?_ | refine blk_alloc ?_ _)); refine blk_far ?_ NB418_430.out _; (with_reducible repeat (first | refine blk_drewN ?_ _ | refine blk_drew ?_ | refine blk_alloc ?_ _)); refine blk_far ?_ NB418_430.out _; (with_reducible repeat (first | refine blk_drewN ?_ _ | refine blk_drew ?_ | refine blk_alloc ?_ _)); exact BK418.out⟩, ⟨by (with_reducible repeat (first | refine blk_drewN ?_ _ | refine blk_drew ?_ | refine blk_alloc ?_ _)); refine blk_far ?_ NB424_430.out _; (with_reducible repeat (first | refine blk_drewN ?_ _ | refine blk_drew ?_ | refine blk_alloc ?_ _)); refine blk_far ?_ NB424_430.out _; (with_reducible repeat (first | refine blk_drewN ?_ _ | refine blk_drew ?_ | refine blk_alloc ?_ _)); refine blk_far ?_ NB424_430.out _; (with_reducible repeat (first | refine blk_drewN ?_ _ | refine blk_drew ?_ | refine blk_alloc ?_ _)); refine blk_far ?_ NB424_430.out _; (with_reducible repeat (first | refine blk_drewN ?_ _ | refine blk_drew ?_ | refine blk_alloc ?_ _)); exact BK424.out⟩, ⟨by (with_reducible repeat (first | refine blk_drewN ?_ _ | refine blk_drew ?_ | refine blk_alloc ?_ _)); refine blk_put (cs := #[.int .i64 t425, .int .i64 t426, .int .i64 t427, .int .i64 0]) ?_ 3 _ rfl; (with_reducible repeat (first | refine blk_drewN ?_ _ | refine blk_drew ?_ | refine blk_alloc ?_ _)); refine blk_put (cs := #[.int .i64 t425, .int .i64 t426, .int .i64 0, .int .i64 0]) ?_ 2 _ rfl; (with_reducible repeat (first | refine blk_drewN ?_ _ | refine blk_drew ?_ | refine blk_alloc ?_ _)); refine blk_put (cs := #[.int .i64 t425, .int .i64 0, .int .i64 0, .int .i64 0]) ?_ 1 _ rfl; (with_reducible repeat (first | refine blk_drewN ?_ _ | refine blk_drew ?_ | refine blk_alloc ?_ _)); refine blk_put (cs := #[.int .i64 0, .int .i64 0, .int .i64 0, .int .i64 0]) ?_ 0 _ rfl; (with_reducible repeat (first | refine blk_drewN ?_ _ | refine blk_drew ?_ | refine blk_alloc ?_ _)); exact BK430.out⟩, ⟨by repeat (first | (with_reducible first | exact HB.out | apply below_alloc | apply pw_below_drewN | apply below_drew1 | refine below_set ?_ GE418.out | refine below_set ?_ GE424.out | refine below_set ?_ GE430.out) | exact HB.out)⟩⟩
    ·rw [if_neg c28] at H
     have c28b0 : (t423 != t429) = false := by simpa using c28
     (try (have c28b1 : decide (t423 = t429) = true := by simpa using c28))
     (try (have c28b2 : (t423 == t429) = true := by simpa using c28))
     clear c28
     by_cases c34 : t423 = true
     ·subst c34
      have H1 : (if t421 = t413 then ((impl_IsTool.f k t419 t420 t421 t422).bind fun t431 => (laws_FnToolKinds.j0 k l0 t415 true (!t431) t411 t412 t413 t414 t419 t420 t421 t422)) else (laws_FnToolKinds.j0 k l0 t415 true true t411 t412 t413 t414 t419 t420 t421 t422)) = some r := by rw [if_pos rfl] at H; exact H
      clear H; have H := H1; clear H1
      by_cases c35 : t421 = t413
      ·rw [if_pos c35] at H
       have c35b0 : (t421 == t413) = true := beq_iff_eq.mpr c35
       have c35b1 : (t421 != t413) = false := bne_eq_false_iff_eq.mpr c35
       clear c35; replace H := Option.bind_eq_some_iff.mp H; obtain ⟨t431, A360, H⟩ := H
       replace H : (laws_FnToolKinds.j0 k l0 t415 true (!t431) t411 t412 t413 t414 t419 t420 t421 t422) = some r := H
       have A36 := Aside0.mk A360; clear A360
       have H' := Aside0.mk H
       clear H; have hnb37 := NB424_418.out; have hnc37 := NB418_424.out; have hnb38 := NB424_430.out; have hnc38 := NB430_424.out
       have z39_0 : w18.cell? ⟨gb424, 0, none⟩ = some (.int .i64 t419) := (blk_cell BK424.out 0).trans rfl
       have z39_1 : w18.cell? ⟨gb424, 1, none⟩ = some (.int .i64 t420) := (blk_cell BK424.out 1).trans rfl
       have z39_2 : w18.cell? ⟨gb424, 2, none⟩ = some (.int .i64 t421) := (blk_cell BK424.out 2).trans rfl
       have z39_3 : w18.cell? ⟨gb424, 3, none⟩ = some (.int .i64 t422) := (blk_cell BK424.out 3).trans rfl
       have y39_0 := blk_frozen BK424.out 0; have y39_1 := blk_frozen BK424.out 1; have y39_2 := blk_frozen BK424.out 2; have y39_3 := blk_frozen BK424.out 3; have hnb40 := NB430_418.out; have hnc40 := NB418_430.out
       have z41_0 : w18.cell? ⟨gb430, 0, none⟩ = some (.int .i64 0) := (blk_cell BK430.out 0).trans rfl
       have z41_1 : w18.cell? ⟨gb430, 1, none⟩ = some (.int .i64 0) := (blk_cell BK430.out 1).trans rfl
       have z41_2 : w18.cell? ⟨gb430, 2, none⟩ = some (.int .i64 0) := (blk_cell BK430.out 2).trans rfl
       have z41_3 : w18.cell? ⟨gb430, 3, none⟩ = some (.int .i64 0) := (blk_cell BK430.out 3).trans rfl
       have y41_0 := blk_frozen BK430.out 0; have y41_1 := blk_frozen BK430.out 1; have y41_2 := blk_frozen BK430.out 2; have y41_3 := blk_frozen BK430.out 3
       have z42_0 : w18.cell? ⟨gb418, 0, none⟩ = some (.int .i64 t411) := (blk_cell BK418.out 0).trans rfl
       have z42_1 : w18.cell? ⟨gb418, 1, none⟩ = some (.int .i64 t412) := (blk_cell BK418.out 1).trans rfl
       have z42_2 : w18.cell? ⟨gb418, 2, none⟩ = some (.int .i64 t413) := (blk_cell BK418.out 2).trans rfl
       have z42_3 : w18.cell? ⟨gb418, 3, none⟩ = some (.int .i64 t414) := (blk_cell BK418.out 3).trans rfl
       have y42_0 := blk_frozen BK418.out 0; have y42_1 := blk_frozen BK418.out 1; have y42_2 := blk_frozen BK418.out 2; have y42_3 := blk_frozen BK418.out 3
       go_wp2_with (first | (go_at_call 65; (with_reducible refine (impl_IsTool.calls k t419 t420 t421 t422 t431 _ A36.out).mono ?_); rintro e w43 ⟨rfl, hb⟩; have n0_ := Aside0.mk (Kd.R_below (by (with_reducible repeat (first | apply Kd.R_alloc | apply Kd.R_drewN | apply Kd.R_drew)); exact (Kd.R_mono (Kd.R_far (p := ⟨gb430, 3, none⟩) (Kd.R_far (p := ⟨gb430, 2, none⟩) (Kd.R_far (p := ⟨gb430, 1, none⟩) (Kd.R_far (p := ⟨gb430, 0, none⟩) (Kd.R_types HO417.out BK430.out (by decide)) (fun _ hk => hk.2) (.int .i64 t425)) (fun _ hk => hk.2) (.int .i64 t426)) (fun _ hk => hk.2) (.int .i64 t427)) (fun _ hk => hk.2) (.int .i64 t428)) (fun _ h_ => h_.1))) hb); have n1_ := Aside0.mk (blk_below (g := gb418) (o := .cells #[.int .i64 t411, .int .i64 t412, .int .i64 t413, .int .i64 t414] 44 (0, 0)) (by (with_reducible repeat (first | refine blk_drewN ?_ _ | refine blk_drew ?_ | refine blk_alloc ?_ _)); refine blk_far ?_ NB418_430.out _; (with_reducible repeat (first | refine blk_drewN ?_ _ | refine blk_drew ?_ | refine blk_alloc ?_ _)); refine blk_far ?_ NB418_430.out _; (with_reducible repeat (first | refine blk_drewN ?_ _ | refine blk_drew ?_ | refine blk_alloc ?_ _)); refine blk_far ?_ NB418_430.out _; (with_reducible repeat (first | refine blk_drewN ?_ _ | refine blk_drew ?_ | refine blk_alloc ?_ _)); refine blk_far ?_ NB418_430.out _; (with_reducible repeat (first | refine blk_drewN ?_ _ | refine blk_drew ?_ | refine blk_alloc ?_ _)); exact BK418.out) hb); have n2_ := Aside0.mk (blk_below (g := gb424) (o := .cells #[.int .i64 t419, .int .i64 t420, .int .i64 t421, .int .i64 t422] 44 (0, 0)) (by (with_reducible repeat (first | refine blk_drewN ?_ _ | refine blk_drew ?_ | refine blk_alloc ?_ _)); refine blk_far ?_ NB424_430.out _; (with_reducible repeat (first | refine blk_drewN ?_ _ | refine blk_drew ?_ | refine blk_alloc ?_ _)); refine blk_far ?_ NB424_430.out _; (with_reducible repeat (first | refine blk_drewN ?_ _ | refine blk_drew ?_ | refine blk_alloc ?_ _)); refine blk_far ?_ NB424_430.out _; (with_reducible repeat (first | refine blk_drewN ?_ _ | refine blk_drew ?_ | refine blk_alloc ?_ _)); refine blk_far ?_ NB424_430.out _; (with_reducible repeat (first | refine blk_drewN ?_ _ | refine blk_drew ?_ | refine blk_alloc ?_ _)); exact BK424.out) hb); have n3_ := Aside0.mk (blk_below (g := gb430) (o := .cells #[.int .i64 t425, .int .i64 t426, .int .i64 t427, .int .i64 t428] 44 (0, 0)) (by (with_reducible repeat (first | refine blk_drewN ?_ _ | refine blk_drew ?_ | refine blk_alloc ?_ _)); refine blk_put (cs := #[.int .i64 t425, .int .i64 t426, .int .i64 t427, .int .i64 0]) ?_ 3 _ rfl; (with_reducible repeat (first | refine blk_drewN ?_ _ | refine blk_drew ?_ | refine blk_alloc ?_ _)); refine blk_put (cs := #[.int .i64 t425, .int .i64 t426, .int .i64 0, .int .i64 0]) ?_ 2 _ rfl; (with_reducible repeat (first | refine blk_drewN ?_ _ | refine blk_drew ?_ | refine blk_alloc ?_ _)); refine blk_put (cs := #[.int .i64 t425, .int .i64 0, .int .i64 0, .int .i64 0]) ?_ 1 _ rfl; (with_reducible repeat (first | refine blk_drewN ?_ _ | refine blk_drew ?_ | refine blk_alloc ?_ _)); refine blk_put (cs := #[.int .i64 0, .int .i64 0, .int .i64 0, .int .i64 0]) ?_ 0 _ rfl; (with_reducible repeat (first | refine blk_drewN ?_ _ | refine blk_drew ?_ | refine blk_alloc ?_ _)); exact BK430.out) hb); have n4_ := Aside0.mk (below_step bx_ hb); clear HO417; clear BK418; clear BK424; clear BK430; clear HB; have HO417 := n0_; have BK418 := n1_; have BK424 := n2_; have BK430 := n3_; have HB := n4_; clear n0_ n1_ n2_ n3_ n4_; (try clear hb); (try clear hk)))
       go_meet
       case rel => exact ⟨_, (!t431), (by first | rfl | (simp; done) | (simp [*]; done)), H', ⟨by first | omega | exact Nat.le_refl _⟩, ⟨by (with_reducible repeat (first | apply Kd.R_alloc | apply Kd.R_drewN | apply Kd.R_drew)); exact HO417.out⟩, ⟨by (with_reducible repeat (first | refine blk_drewN ?_ _ | refine blk_drew ?_ | refine blk_alloc ?_ _)); exact BK418.out⟩, ⟨by (with_reducible repeat (first | refine blk_drewN ?_ _ | refine blk_drew ?_ | refine blk_alloc ?_ _)); exact BK424.out⟩, ⟨by (with_reducible repeat (first | refine blk_drewN ?_ _ | refine blk_drew ?_ | refine blk_alloc ?_ _)); exact BK430.out⟩, ⟨by repeat (first | (with_reducible first | exact HB.out | apply below_alloc | apply pw_below_drewN | apply below_drew1 | refine below_set ?_ GE418.out | refine below_set ?_ GE424.out | refine below_set ?_ GE430.out) | exact HB.out)⟩⟩
      ·rw [if_neg c35] at H
       have c35b0 : (t421 == t413) = false := beq_eq_false_iff_ne.mpr c35
       have c35b1 : (t421 != t413) = true := bne_iff_ne.mpr c35
       have H' := Aside0.mk H
       clear H; have hnb44 := NB424_418.out; have hnc44 := NB418_424.out; have hnb45 := NB424_430.out; have hnc45 := NB430_424.out
       have z46_0 : w18.cell? ⟨gb424, 0, none⟩ = some (.int .i64 t419) := (blk_cell BK424.out 0).trans rfl
       have z46_1 : w18.cell? ⟨gb424, 1, none⟩ = some (.int .i64 t420) := (blk_cell BK424.out 1).trans rfl
       have z46_2 : w18.cell? ⟨gb424, 2, none⟩ = some (.int .i64 t421) := (blk_cell BK424.out 2).trans rfl
       have z46_3 : w18.cell? ⟨gb424, 3, none⟩ = some (.int .i64 t422) := (blk_cell BK424.out 3).trans rfl
       have y46_0 := blk_frozen BK424.out 0; have y46_1 := blk_frozen BK424.out 1; have y46_2 := blk_frozen BK424.out 2; have y46_3 := blk_frozen BK424.out 3; have hnb47 := NB430_418.out; have hnc47 := NB418_430.out
       have z48_0 : w18.cell? ⟨gb430, 0, none⟩ = some (.int .i64 0) := (blk_cell BK430.out 0).trans rfl
       have z48_1 : w18.cell? ⟨gb430, 1, none⟩ = some (.int .i64 0) := (blk_cell BK430.out 1).trans rfl
       have z48_2 : w18.cell? ⟨gb430, 2, none⟩ = some (.int .i64 0) := (blk_cell BK430.out 2).trans rfl
       have z48_3 : w18.cell? ⟨gb430, 3, none⟩ = some (.int .i64 0) := (blk_cell BK430.out 3).trans rfl
       have y48_0 := blk_frozen BK430.out 0; have y48_1 := blk_frozen BK430.out 1; have y48_2 := blk_frozen BK430.out 2; have y48_3 := blk_frozen BK430.out 3
       have z49_0 : w18.cell? ⟨gb418, 0, none⟩ = some (.int .i64 t411) := (blk_cell BK418.out 0).trans rfl
       have z49_1 : w18.cell? ⟨gb418, 1, none⟩ = some (.int .i64 t412) := (blk_cell BK418.out 1).trans rfl
       have z49_2 : w18.cell? ⟨gb418, 2, none⟩ = some (.int .i64 t413) := (blk_cell BK418.out 2).trans rfl
       have z49_3 : w18.cell? ⟨gb418, 3, none⟩ = some (.int .i64 t414) := (blk_cell BK418.out 3).trans rfl
       have y49_0 := blk_frozen BK418.out 0; have y49_1 := blk_frozen BK418.out 1; have y49_2 := blk_frozen BK418.out 2; have y49_3 := blk_frozen BK418.out 3
       go_wp2
       go_meet
       case rel => exact ⟨_, (true), (by first | rfl | (simp; done) | (simp [*]; done)), H', ⟨by first | omega | exact Nat.le_refl _⟩, ⟨by (with_reducible repeat (first | apply Kd.R_alloc | apply Kd.R_drewN | apply Kd.R_drew)); exact Kd.R_mono (Kd.R_far (p := ⟨gb430, 3, none⟩) (Kd.R_far (p := ⟨gb430, 2, none⟩) (Kd.R_far (p := ⟨gb430, 1, none⟩) (Kd.R_far (p := ⟨gb430, 0, none⟩) (Kd.R_types HO417.out BK430.out (by decide)) (fun _ hk => hk.2) (.int .i64 t425)) (fun _ hk => hk.2) (.int .i64 t426)) (fun _ hk => hk.2) (.int .i64 t427)) (fun _ hk => hk.2) (.int .i64 t428)) (fun _ hk => trivial)⟩, ⟨by (with_reducible repeat (first | refine blk_drewN ?_ _ | refine blk_drew ?_ | refine blk_alloc ?_ _)); refine blk_far ?_ NB418_430.out _; (with_reducible repeat (first | refine blk_drewN ?_ _ | refine blk_drew ?_ | refine blk_alloc ?_ _)); refine blk_far ?_ NB418_430.out _; (with_reducible repeat (first | refine blk_drewN ?_ _ | refine blk_drew ?_ | refine blk_alloc ?_ _)); refine blk_far ?_ NB418_430.out _; (with_reducible repeat (first | refine blk_drewN ?_ _ | refine blk_drew ?_ | refine blk_alloc ?_ _)); refine blk_far ?_ NB418_430.out _; (with_reducible repeat (first | refine blk_drewN ?_ _ | refine blk_drew ?_ | refine blk_alloc ?_ _)); exact BK418.out⟩, ⟨by (with_reducible repeat (first | refine blk_drewN ?_ _ | refine blk_drew ?_ | refine blk_alloc ?_ _)); refine blk_far ?_ NB424_430.out _; (with_reducible repeat (first | refine blk_drewN ?_ _ | refine blk_drew ?_ | refine blk_alloc ?_ _)); refine blk_far ?_ NB424_430.out _; (with_reducible repeat (first | refine blk_drewN ?_ _ | refine blk_drew ?_ | refine blk_alloc ?_ _)); refine blk_far ?_ NB424_430.out _; (with_reducible repeat (first | refine blk_drewN ?_ _ | refine blk_drew ?_ | refine blk_alloc ?_ _)); refine blk_far ?_ NB424_430.out _; (with_reducible repeat (first | refine blk_drewN ?_ _ | refine blk_drew ?_ | refine blk_alloc ?_ _)); exact BK424.out⟩, ⟨by (with_reducible repeat (first | refine blk_drewN ?_ _ | refine blk_drew ?_ | refine blk_alloc ?_ _)); refine blk_put (cs := #[.int .i64 t425, .int .i64 t426, .int .i64 t427, .int .i64 0]) ?_ 3 _ rfl; (with_reducible repeat (first | refine blk_drewN ?_ _ | refine blk_drew ?_ | refine blk_alloc ?_ _)); refine blk_put (cs := #[.int .i64 t425, .int .i64 t426, .int .i64 0, .int .i64 0]) ?_ 2 _ rfl; (with_reducible repeat (first | refine blk_drewN ?_ _ | refine blk_drew ?_ | refine blk_alloc ?_ _)); refine blk_put (cs := #[.int .i64 t425, .int .i64 0, .int .i64 0, .int .i64 0]) ?_ 1 _ rfl; (with_reducible repeat (first | refine blk_drewN ?_ _ | refine blk_drew ?_ | refine blk_alloc ?_ _)); refine blk_put (cs := #[.int .i64 0, .int .i64 0, .int .i64 0, .int .i64 0]) ?_ 0 _ rfl; (with_reducible repeat (first | refine blk_drewN ?_ _ | refine blk_drew ?_ | refine blk_alloc ?_ _)); exact BK430.out⟩, ⟨by repeat (first | (with_reducible first | exact HB.out | apply below_alloc | apply pw_below_drewN | apply below_drew1 | refine below_set ?_ GE418.out | refine below_set ?_ GE424.out | refine below_set ?_ GE430.out) | exact HB.out)⟩⟩
     ·replace c34 := Bool.eq_false_iff.mpr c34
      subst c34
      have H1 : (laws_FnToolKinds.j0 k l0 t415 false false t411 t412 t413 t414 t419 t420 t421 t422) = some r := by rw [if_neg (show ¬ (false = true) by decide)] at H; exact H
      clear H; have H := H1; clear H1
      have H' := Aside0.mk H
      clear H; have hnb50 := NB424_418.out; have hnc50 := NB418_424.out; have hnb51 := NB424_430.out; have hnc51 := NB430_424.out
      have z52_0 : w18.cell? ⟨gb424, 0, none⟩ = some (.int .i64 t419) := (blk_cell BK424.out 0).trans rfl
      have z52_1 : w18.cell? ⟨gb424, 1, none⟩ = some (.int .i64 t420) := (blk_cell BK424.out 1).trans rfl
      have z52_2 : w18.cell? ⟨gb424, 2, none⟩ = some (.int .i64 t421) := (blk_cell BK424.out 2).trans rfl
      have z52_3 : w18.cell? ⟨gb424, 3, none⟩ = some (.int .i64 t422) := (blk_cell BK424.out 3).trans rfl
      have y52_0 := blk_frozen BK424.out 0; have y52_1 := blk_frozen BK424.out 1; have y52_2 := blk_frozen BK424.out 2; have y52_3 := blk_frozen BK424.out 3; have hnb53 := NB430_418.out; have hnc53 := NB418_430.out
      have z54_0 : w18.cell? ⟨gb430, 0, none⟩ = some (.int .i64 0) := (blk_cell BK430.out 0).trans rfl
      have z54_1 : w18.cell? ⟨gb430, 1, none⟩ = some (.int .i64 0) := (blk_cell BK430.out 1).trans rfl
      have z54_2 : w18.cell? ⟨gb430, 2, none⟩ = some (.int .i64 0) := (blk_cell BK430.out 2).trans rfl
      have z54_3 : w18.cell? ⟨gb430, 3, none⟩ = some (.int .i64 0) := (blk_cell BK430.out 3).trans rfl
      have y54_0 := blk_frozen BK430.out 0; have y54_1 := blk_frozen BK430.out 1; have y54_2 := blk_frozen BK430.out 2; have y54_3 := blk_frozen BK430.out 3
      go_wp2
      go_meet
      case rel => exact ⟨_, (false), (by first | rfl | (simp; done) | (simp [*]; done)), H', ⟨by first | omega | exact Nat.le_refl _⟩, ⟨by (with_reducible repeat (first | apply Kd.R_alloc | apply Kd.R_drewN | apply Kd.R_drew)); exact Kd.R_mono (Kd.R_far (p := ⟨gb430, 3, none⟩) (Kd.R_far (p := ⟨gb430, 2, none⟩) (Kd.R_far (p := ⟨gb430, 1, none⟩) (Kd.R_far (p := ⟨gb430, 0, none⟩) (Kd.R_types HO417.out BK430.out (by decide)) (fun _ hk => hk.2) (.int .i64 t425)) (fun _ hk => hk.2) (.int .i64 t426)) (fun _ hk => hk.2) (.int .i64 t427)) (fun _ hk => hk.2) (.int .i64 t428)) (fun _ hk => trivial)⟩, ⟨by (with_reducible repeat (first | refine blk_drewN ?_ _ | refine blk_drew ?_ | refine blk_alloc ?_ _)); refine blk_far ?_ NB418_430.out _; (with_reducible repeat (first | refine blk_drewN ?_ _ | refine blk_drew ?_ | refine blk_alloc ?_ _)); refine blk_far ?_ NB418_430.out _; (with_reducible repeat (first | refine blk_drewN ?_ _ | refine blk_drew ?_ | refine blk_alloc ?_ _)); refine blk_far ?_ NB418_430.out _; (with_reducible repeat (first | refine blk_drewN ?_ _ | refine blk_drew ?_ | refine blk_alloc ?_ _)); refine blk_far ?_ NB418_430.out _; (with_reducible repeat (first | refine blk_drewN ?_ _ | refine blk_drew ?_ | refine blk_alloc ?_ _)); exact BK418.out⟩, ⟨by (with_reducible repeat (first | refine blk_drewN ?_ _ | refine blk_drew ?_ | refine blk_alloc ?_ _)); refine blk_far ?_ NB424_430.out _; (with_reducible repeat (first | refine blk_drewN ?_ _ | refine blk_drew ?_ | refine blk_alloc ?_ _)); refine blk_far ?_ NB424_430.out _; (with_reducible repeat (first | refine blk_drewN ?_ _ | refine blk_drew ?_ | refine blk_alloc ?_ _)); refine blk_far ?_ NB424_430.out _; (with_reducible repeat (first | refine blk_drewN ?_ _ | refine blk_drew ?_ | refine blk_alloc ?_ _)); refine blk_far ?_ NB424_430.out _; (with_reducible repeat (first | refine blk_drewN ?_ _ | refine blk_drew ?_ | refine blk_alloc ?_ _)); exact BK424.out⟩, ⟨by (with_reducible repeat (first | refine blk_drewN ?_ _ | refine blk_drew ?_ | refine blk_alloc ?_ _)); refine blk_put (cs := #[.int .i64 t425, .int .i64 t426, .int .i64 t427, .int .i64 0]) ?_ 3 _ rfl; (with_reducible repeat (first | refine blk_drewN ?_ _ | refine blk_drew ?_ | refine blk_alloc ?_ _)); refine blk_put (cs := #[.int .i64 t425, .int .i64 t426, .int .i64 0, .int .i64 0]) ?_ 2 _ rfl; (with_reducible repeat (first | refine blk_drewN ?_ _ | refine blk_drew ?_ | refine blk_alloc ?_ _)); refine blk_put (cs := #[.int .i64 t425, .int .i64 0, .int .i64 0, .int .i64 0]) ?_ 1 _ rfl; (with_reducible repeat (first | refine blk_drewN ?_ _ | refine blk_drew ?_ | refine blk_alloc ?_ _)); refine blk_put (cs := #[.int .i64 0, .int .i64 0, .int .i64 0, .int .i64 0]) ?_ 0 _ rfl; (with_reducible repeat (first | refine blk_drewN ?_ _ | refine blk_drew ?_ | refine blk_alloc ?_ _)); exact BK430.out⟩, ⟨by repeat (first | (with_reducible first | exact HB.out | apply below_alloc | apply pw_below_drewN | apply below_drew1 | refine below_set ?_ GE418.out | refine below_set ?_ GE424.out | refine below_set ?_ GE430.out) | exact HB.out)⟩⟩
  case rest => as_aux_lemma =>
   clear HC7; (try clear c3); (try clear c22); (try clear c22b0); (try clear c28); (try clear c28b0); (try clear c28b1); (try clear c28b2); (try clear c34); (try clear c35); (try clear c35b0); (try clear c35b1); (try clear z10_0); (try clear z10_1); (try clear z10_2); (try clear z10_3); (try clear z15_0); (try clear z15_1); (try clear z15_2); (try clear z15_3); (try clear z16_0); (try clear z16_1); (try clear z16_2); (try clear z16_3); (try clear z21_0); (try clear z21_1); (try clear z21_2); (try clear z21_3); (try clear z25_0); (try clear z25_1); (try clear z25_2); (try clear z25_3); (try clear z27_0); (try clear z27_1); (try clear z27_2); (try clear z27_3); (try clear z31_0); (try clear z31_1); (try clear z31_2); (try clear z31_3); (try clear z33_0); (try clear z33_1); (try clear z33_2); (try clear z33_3); (try clear z39_0); (try clear z39_1); (try clear z39_2); (try clear z39_3); (try clear z41_0); (try clear z41_1); (try clear z41_2); (try clear z41_3); (try clear z42_0); (try clear z42_1); (try clear z42_2); (try clear z42_3); (try clear z46_0); (try clear z46_1); (try clear z46_2); (try clear z46_3); (try clear z48_0); (try clear z48_1); (try clear z48_2); (try clear z48_3); (try clear z49_0); (try clear z49_1); (try clear z49_2); (try clear z49_3); (try clear z52_0); (try clear z52_1); (try clear z52_2); (try clear z52_3); (try clear z54_0); (try clear z54_1); (try clear z54_2); (try clear z54_3); (try clear y10_0); (try clear y10_1); (try clear y10_2); (try clear y10_3); (try clear y15_0); (try clear y15_1); (try clear y15_2); (try clear y15_3); (try clear y16_0); (try clear y16_1); (try clear y16_2); (try clear y16_3); (try clear y21_0); (try clear y21_1); (try clear y21_2); (try clear y21_3); (try clear y25_0); (try clear y25_1); (try clear y25_2); (try clear y25_3); (try clear y27_0); (try clear y27_1); (try clear y27_2); (try clear y27_3); (try clear y31_0); (try clear y31_1); (try clear y31_2); (try clear y31_3); (try clear y33_0); (try clear y33_1); (try clear y33_2); (try clear y33_3); (try clear y39_0); (try clear y39_1); (try clear y39_2); (try clear y39_3); (try clear y41_0); (try clear y41_1); (try clear y41_2); (try clear y41_3); (try clear y42_0); (try clear y42_1); (try clear y42_2); (try clear y42_3); (try clear y46_0); (try clear y46_1); (try clear y46_2); (try clear y46_3); (try clear y48_0); (try clear y48_1); (try clear y48_2); (try clear y48_3); (try clear y49_0); (try clear y49_1); (try clear y49_2); (try clear y49_3); (try clear y52_0); (try clear y52_1); (try clear y52_2); (try clear y52_3); (try clear y54_0); (try clear y54_1); (try clear y54_2); (try clear y54_3); obtain ⟨kq, x72_6, rfl, HA, HJ6, HO_4, BK418, BK424, BK430, HB⟩ := hcut
   cases kq with
   | zero => exact absurd HA.out (by simp [laws_FnToolKinds.j0])
   | succ kj6 =>
    have H := HA.out; clear HA
    simp only [laws_FnToolKinds.j0] at H
    by_cases c55 : x72_6 = true
    ·subst c55
     have H1 : (none) = some r := by rw [if_pos rfl] at H; exact H
     clear H; have H := H1; clear H1
     exact absurd H (by simp)
    ·replace c55 := Bool.eq_false_iff.mpr c55
     subst c55
     have H1 : ((impl_WorstCheck.f kj6 t411 t412 t413 t414 t415).bind fun bt432 => (if bt432.2.2 = true then (laws_FnToolKinds.j1 kj6 l0 t415 t423 bt432.2.1 (t412 == 0) t419 t420 t421 t422) else (laws_FnToolKinds.j1 kj6 l0 t415 t423 bt432.2.1 false t419 t420 t421 t422))) = some r := by rw [if_neg (show ¬ (false = true) by decide)] at H; exact H
     clear H; have H := H1; clear H1; replace H := Option.bind_eq_some_iff.mp H; obtain ⟨⟨t432, t433, t434⟩, A560, H⟩ := H
     replace H : (if t434 = true then (laws_FnToolKinds.j1 kj6 l0 t415 t423 t433 (t412 == 0) t419 t420 t421 t422) else (laws_FnToolKinds.j1 kj6 l0 t415 t423 t433 false t419 t420 t421 t422)) = some r := H
     have A56 := Aside0.mk A560; clear A560; have HC57 := Aside0.mk H; clear H; have hnb58 := NB418_424.out; have hnc58 := NB424_418.out; have hnb59 := NB418_430.out; have hnc59 := NB430_418.out
     have z60_0 : wc.cell? ⟨gb418, 0, none⟩ = some (.int .i64 t411) := (blk_cell BK418.out 0).trans rfl
     have z60_1 : wc.cell? ⟨gb418, 1, none⟩ = some (.int .i64 t412) := (blk_cell BK418.out 1).trans rfl
     have z60_2 : wc.cell? ⟨gb418, 2, none⟩ = some (.int .i64 t413) := (blk_cell BK418.out 2).trans rfl
     have z60_3 : wc.cell? ⟨gb418, 3, none⟩ = some (.int .i64 t414) := (blk_cell BK418.out 3).trans rfl
     have y60_0 := blk_frozen BK418.out 0; have y60_1 := blk_frozen BK418.out 1; have y60_2 := blk_frozen BK418.out 2; have y60_3 := blk_frozen BK418.out 3
     go_upto_region 9 with (first | ((with_reducible refine gate_callee (f := 46) rfl ?_); refine goesL_ (some 76) rfl rfl Try.func46 (by kernel_rfl) rfl #[.agg #[.int .i64 t411, .int .i64 t412, .int .i64 t413, .int .i64 t414], .slice Ao11 t415.length co11] rfl gl_ ?_; (with_reducible refine (impl_WorstCheck.calls kj6 t411 t412 t413 t414 _ _ t415 t432 t433 t434 _ ?side1 ?side2 A56.out).mono ?_); (case side1 => repeat (first | exact (Kd.R_reads' HO_4.out).2.2 | (with_reducible refine Kd.C_alloc ?_ _) | (with_reducible refine Kd.C_drewN ?_ _) | (with_reducible refine Kd.C_drew ?_))); (case side2 => exact (Kd.R_reads' HO_4.out).2.1); rintro e w61 ⟨rfl, hb⟩; refine ⟨_, rfl, ?_⟩; have n0_ := Aside0.mk (Kd.R_below (kr_ HO_4) hb); have n1_ := Aside0.mk (blk_below (bk_ BK418) hb); have n2_ := Aside0.mk (blk_below (bk_ BK424) hb); have n3_ := Aside0.mk (blk_below (bk_ BK430) hb); have n4_ := Aside0.mk (below_step bx_ hb); clear HO_4; clear BK418; clear BK424; clear BK430; clear HB; have HO_4 := n0_; have BK418 := n1_; have BK424 := n2_; have BK430 := n3_; have HB := n4_; clear n0_ n1_ n2_ n3_ n4_; (try clear hb); (try clear hk)))
     (try simp only [Act.put, zA, zB, zC])
     go_cut [85] (fun v85 wc => ∃ (kq : Nat) (x85_56 : Bool), v85 = .bool x85_56 ∧ Aside0 (laws_FnToolKinds.j1 kq l0 t415 t423 t433 x85_56 t419 t420 t421 t422 = some r) ∧ Aside0 (kq ≤ kj6) ∧ Aside0 (Kd.R k46 46 wc w.heap.size (fun _ => True) (.slice Ao11 t415.length co11) t415) ∧ Aside0 (wc.heap[gb418]? = some (.cells #[.int .i64 t411, .int .i64 t412, .int .i64 t413, .int .i64 t414] 44 (0, 0))) ∧ Aside0 (wc.heap[gb424]? = some (.cells #[.int .i64 t419, .int .i64 t420, .int .i64 t421, .int .i64 t422] 44 (0, 0))) ∧ Aside0 (wc.heap[gb430]? = some (.cells #[.int .i64 t425, .int .i64 t426, .int .i64 t427, .int .i64 t428] 44 (0, 0))) ∧ Aside0 (Below w.heap.size w wc))
     case first => as_aux_lemma =>
      have H := HC57.out; clear HC57
      by_cases c62 : t434 = true
      ·subst c62
       have H1 : (laws_FnToolKinds.j1 kj6 l0 t415 t423 t433 (t412 == 0) t419 t420 t421 t422) = some r := by rw [if_pos rfl] at H; exact H
       clear H; have H := H1; clear H1
       have H' := Aside0.mk H
       clear H; have hnb63 := NB418_424.out; have hnc63 := NB424_418.out; have hnb64 := NB418_430.out; have hnc64 := NB430_418.out
       have z65_0 : w61.cell? ⟨gb418, 0, none⟩ = some (.int .i64 t411) := (blk_cell BK418.out 0).trans rfl
       have z65_1 : w61.cell? ⟨gb418, 1, none⟩ = some (.int .i64 t412) := (blk_cell BK418.out 1).trans rfl
       have z65_2 : w61.cell? ⟨gb418, 2, none⟩ = some (.int .i64 t413) := (blk_cell BK418.out 2).trans rfl
       have z65_3 : w61.cell? ⟨gb418, 3, none⟩ = some (.int .i64 t414) := (blk_cell BK418.out 3).trans rfl
       have y65_0 := blk_frozen BK418.out 0; have y65_1 := blk_frozen BK418.out 1; have y65_2 := blk_frozen BK418.out 2; have y65_3 := blk_frozen BK418.out 3
       go_wp2
       go_meet
       case rel => exact ⟨_, ((t412 == 0)), (by first | rfl | (simp; done) | (simp [*]; done)), H', ⟨by have := HJ6.out; first | omega | exact Nat.le_refl _⟩, ⟨by (with_reducible repeat (first | apply Kd.R_alloc | apply Kd.R_drewN | apply Kd.R_drew)); exact HO_4.out⟩, ⟨by (with_reducible repeat (first | refine blk_drewN ?_ _ | refine blk_drew ?_ | refine blk_alloc ?_ _)); exact BK418.out⟩, ⟨by (with_reducible repeat (first | refine blk_drewN ?_ _ | refine blk_drew ?_ | refine blk_alloc ?_ _)); exact BK424.out⟩, ⟨by (with_reducible repeat (first | refine blk_drewN ?_ _ | refine blk_drew ?_ | refine blk_alloc ?_ _)); exact BK430.out⟩, ⟨by repeat (first | (with_reducible first | exact HB.out | apply below_alloc | apply pw_below_drewN | apply below_drew1 | refine below_set ?_ GE418.out | refine below_set ?_ GE424.out | refine below_set ?_ GE430.out) | exact HB.out)⟩⟩
      ·replace c62 := Bool.eq_false_iff.mpr c62
       subst c62
       have H1 : (laws_FnToolKinds.j1 kj6 l0 t415 t423 t433 false t419 t420 t421 t422) = some r := by rw [if_neg (show ¬ (false = true) by decide)] at H; exact H
       clear H; have H := H1; clear H1
       have H' := Aside0.mk H
       clear H
       go_wp2
       go_meet
       case rel => exact ⟨_, (false), (by first | rfl | (simp; done) | (simp [*]; done)), H', ⟨by have := HJ6.out; first | omega | exact Nat.le_refl _⟩, ⟨by (with_reducible repeat (first | apply Kd.R_alloc | apply Kd.R_drewN | apply Kd.R_drew)); exact HO_4.out⟩, ⟨by (with_reducible repeat (first | refine blk_drewN ?_ _ | refine blk_drew ?_ | refine blk_alloc ?_ _)); exact BK418.out⟩, ⟨by (with_reducible repeat (first | refine blk_drewN ?_ _ | refine blk_drew ?_ | refine blk_alloc ?_ _)); exact BK424.out⟩, ⟨by (with_reducible repeat (first | refine blk_drewN ?_ _ | refine blk_drew ?_ | refine blk_alloc ?_ _)); exact BK430.out⟩, ⟨by repeat (first | (with_reducible first | exact HB.out | apply below_alloc | apply pw_below_drewN | apply below_drew1 | refine below_set ?_ GE418.out | refine below_set ?_ GE424.out | refine below_set ?_ GE430.out) | exact HB.out)⟩⟩
     case rest => as_aux_lemma =>
      clear HC57; (try clear c3); (try clear c22); (try clear c22b0); (try clear c28); (try clear c28b0); (try clear c28b1); (try clear c28b2); (try clear c34); (try clear c35); (try clear c35b0); (try clear c35b1); (try clear c55); (try clear c62); (try clear z10_0); (try clear z10_1); (try clear z10_2); (try clear z10_3); (try clear z15_0); (try clear z15_1); (try clear z15_2); (try clear z15_3); (try clear z16_0); (try clear z16_1); (try clear z16_2); (try clear z16_3); (try clear z21_0); (try clear z21_1); (try clear z21_2); (try clear z21_3); (try clear z25_0); (try clear z25_1); (try clear z25_2); (try clear z25_3); (try clear z27_0); (try clear z27_1); (try clear z27_2); (try clear z27_3); (try clear z31_0); (try clear z31_1); (try clear z31_2); (try clear z31_3); (try clear z33_0); (try clear z33_1); (try clear z33_2); (try clear z33_3); (try clear z39_0); (try clear z39_1); (try clear z39_2); (try clear z39_3); (try clear z41_0); (try clear z41_1); (try clear z41_2); (try clear z41_3); (try clear z42_0); (try clear z42_1); (try clear z42_2); (try clear z42_3); (try clear z46_0); (try clear z46_1); (try clear z46_2); (try clear z46_3); (try clear z48_0); (try clear z48_1); (try clear z48_2); (try clear z48_3); (try clear z49_0); (try clear z49_1); (try clear z49_2); (try clear z49_3); (try clear z52_0); (try clear z52_1); (try clear z52_2); (try clear z52_3); (try clear z54_0); (try clear z54_1); (try clear z54_2); (try clear z54_3); (try clear z60_0); (try clear z60_1); (try clear z60_2); (try clear z60_3); (try clear z65_0); (try clear z65_1); (try clear z65_2); (try clear z65_3); (try clear y10_0); (try clear y10_1); (try clear y10_2); (try clear y10_3); (try clear y15_0); (try clear y15_1); (try clear y15_2); (try clear y15_3); (try clear y16_0); (try clear y16_1); (try clear y16_2); (try clear y16_3); (try clear y21_0); (try clear y21_1); (try clear y21_2); (try clear y21_3); (try clear y25_0); (try clear y25_1); (try clear y25_2); (try clear y25_3); (try clear y27_0); (try clear y27_1); (try clear y27_2); (try clear y27_3); (try clear y31_0); (try clear y31_1); (try clear y31_2); (try clear y31_3); (try clear y33_0); (try clear y33_1); (try clear y33_2); (try clear y33_3); (try clear y39_0); (try clear y39_1); (try clear y39_2); (try clear y39_3); (try clear y41_0); (try clear y41_1); (try clear y41_2); (try clear y41_3); (try clear y42_0); (try clear y42_1); (try clear y42_2); (try clear y42_3); (try clear y46_0); (try clear y46_1); (try clear y46_2); (try clear y46_3); (try clear y48_0); (try clear y48_1); (try clear y48_2); (try clear y48_3); (try clear y49_0); (try clear y49_1); (try clear y49_2); (try clear y49_3); (try clear y52_0); (try clear y52_1); (try clear y52_2); (try clear y52_3); (try clear y54_0); (try clear y54_1); (try clear y54_2); (try clear y54_3); (try clear y60_0); (try clear y60_1); (try clear y60_2); (try clear y60_3); (try clear y65_0); (try clear y65_1); (try clear y65_2); (try clear y65_3); obtain ⟨kq, x85_56, rfl, HA, HJ56, HO_4, BK418, BK424, BK430, HB⟩ := hcut
      cases kq with
      | zero => exact absurd HA.out (by simp [laws_FnToolKinds.j1])
      | succ kj56 =>
       have H := HA.out; clear HA
       simp only [laws_FnToolKinds.j1] at H
       have HC66 := Aside0.mk H; clear H
       go_upto_if 85 with (fail)
       go_cut [] (fun wc => ∃ (kq : Nat), Aside0 (laws_FnToolKinds.j2 kq l0 = some r) ∧ Aside0 (kq ≤ kj56) ∧ Aside0 (wc.heap[gb418]? = some (.cells #[.int .i64 t411, .int .i64 t412, .int .i64 t413, .int .i64 t414] 44 (0, 0))) ∧ Aside0 (wc.heap[gb424]? = some (.cells #[.int .i64 t419, .int .i64 t420, .int .i64 t421, .int .i64 t422] 44 (0, 0))) ∧ Aside0 (wc.heap[gb430]? = some (.cells #[.int .i64 t425, .int .i64 t426, .int .i64 t427, .int .i64 t428] 44 (0, 0))) ∧ Aside0 (Below w.heap.size w wc))
       case first => as_aux_lemma =>
        have H := HC66.out; clear HC66
        by_cases c67 : x85_56 = true
        ·subst c67
         have H1 : ((impl_WorstCheck.f kj56 t419 t420 t421 t422 t415).bind fun bt435 => (if t423 = true then (if bt435.2.2 = true then (if bt435.2.1 > t433 then (none) else (laws_FnToolKinds.j2 kj56 l0)) else (none)) else (none))) = some r := by rw [if_pos rfl] at H; exact H
         clear H; have H := H1; clear H1; replace H := Option.bind_eq_some_iff.mp H; obtain ⟨⟨t435, t436, t437⟩, A680, H⟩ := H
         replace H : (if t423 = true then (if t437 = true then (if t436 > t433 then (none) else (laws_FnToolKinds.j2 kj56 l0)) else (none)) else (none)) = some r := H
         have A68 := Aside0.mk A680; clear A680
         by_cases c69 : t423 = true
         ·subst c69
          have H1 : (if t437 = true then (if t436 > t433 then (none) else (laws_FnToolKinds.j2 kj56 l0)) else (none)) = some r := by rw [if_pos rfl] at H; exact H
          clear H; have H := H1; clear H1
          by_cases c70 : t437 = true
          ·subst c70
           have H1 : (if t436 > t433 then (none) else (laws_FnToolKinds.j2 kj56 l0)) = some r := by rw [if_pos rfl] at H; exact H
           clear H; have H := H1; clear H1
           by_cases c71 : t436 > t433
           ·rw [if_pos c71] at H
            exact absurd H (by simp)
           ·rw [if_neg c71] at H
            have c71b0 : decide (t433 < t436) = false := decide_eq_false c71
            clear c71
            (first | rw [c71b0] | (simp only [i64_w, i32_w]; rw [c71b0]) | skip)
            have H' := Aside0.mk H
            clear H; have hnb72 := NB424_418.out; have hnc72 := NB418_424.out; have hnb73 := NB424_430.out; have hnc73 := NB430_424.out
            have z74_0 : wc.cell? ⟨gb424, 0, none⟩ = some (.int .i64 t419) := (blk_cell BK424.out 0).trans rfl
            have z74_1 : wc.cell? ⟨gb424, 1, none⟩ = some (.int .i64 t420) := (blk_cell BK424.out 1).trans rfl
            have z74_2 : wc.cell? ⟨gb424, 2, none⟩ = some (.int .i64 t421) := (blk_cell BK424.out 2).trans rfl
            have z74_3 : wc.cell? ⟨gb424, 3, none⟩ = some (.int .i64 t422) := (blk_cell BK424.out 3).trans rfl
            have y74_0 := blk_frozen BK424.out 0; have y74_1 := blk_frozen BK424.out 1; have y74_2 := blk_frozen BK424.out 2; have y74_3 := blk_frozen BK424.out 3
            go_wp2_with (first | ((with_reducible refine gate_callee (f := 46) rfl ?_); refine goesL_ (some 89) rfl rfl Try.func46 (by kernel_rfl) rfl #[.agg #[.int .i64 t419, .int .i64 t420, .int .i64 t421, .int .i64 t422], .slice Ao11 t415.length co11] rfl gl_ ?_; (with_reducible refine (impl_WorstCheck.calls kj56 t419 t420 t421 t422 _ _ t415 t435 t436 true _ ?side1 ?side2 A68.out).mono ?_); (case side1 => repeat (first | exact (Kd.R_reads' HO_4.out).2.2 | (with_reducible refine Kd.C_alloc ?_ _) | (with_reducible refine Kd.C_drewN ?_ _) | (with_reducible refine Kd.C_drew ?_))); (case side2 => exact (Kd.R_reads' HO_4.out).2.1); rintro e w75 ⟨rfl, hb⟩; refine ⟨_, rfl, ?_⟩; have n0_ := Aside0.mk (Kd.R_below (kr_ HO_4) hb); have n1_ := Aside0.mk (blk_below (bk_ BK418) hb); have n2_ := Aside0.mk (blk_below (bk_ BK424) hb); have n3_ := Aside0.mk (blk_below (bk_ BK430) hb); have n4_ := Aside0.mk (below_step bx_ hb); clear HO_4; clear BK418; clear BK424; clear BK430; clear HB; have HO_4 := n0_; have BK418 := n1_; have BK424 := n2_; have BK430 := n3_; have HB := n4_; clear n0_ n1_ n2_ n3_ n4_; (try clear hb); (try clear hk)))
            go_meet
            case rel => exact ⟨_, H', ⟨by have := HJ6.out; have := HJ56.out; first | omega | exact Nat.le_refl _⟩, ⟨by (with_reducible repeat (first | refine blk_drewN ?_ _ | refine blk_drew ?_ | refine blk_alloc ?_ _)); exact BK418.out⟩, ⟨by (with_reducible repeat (first | refine blk_drewN ?_ _ | refine blk_drew ?_ | refine blk_alloc ?_ _)); exact BK424.out⟩, ⟨by (with_reducible repeat (first | refine blk_drewN ?_ _ | refine blk_drew ?_ | refine blk_alloc ?_ _)); exact BK430.out⟩, ⟨by repeat (first | (with_reducible first | exact HB.out | apply below_alloc | apply pw_below_drewN | apply below_drew1 | refine below_set ?_ GE418.out | refine below_set ?_ GE424.out | refine below_set ?_ GE430.out) | exact HB.out)⟩⟩
          ·replace c70 := Bool.eq_false_iff.mpr c70
           subst c70
           have H1 : (none) = some r := by rw [if_neg (show ¬ (false = true) by decide)] at H; exact H
           clear H; have H := H1; clear H1
           exact absurd H (by simp)
         ·replace c69 := Bool.eq_false_iff.mpr c69
          subst c69
          have H1 : (none) = some r := by rw [if_neg (show ¬ (false = true) by decide)] at H; exact H
          clear H; have H := H1; clear H1
          exact absurd H (by simp)
        ·replace c67 := Bool.eq_false_iff.mpr c67
         subst c67
         have H1 : (laws_FnToolKinds.j2 kj56 l0) = some r := by rw [if_neg (show ¬ (false = true) by decide)] at H; exact H
         clear H; have H := H1; clear H1
         have H' := Aside0.mk H
         clear H
         go_wp2
         go_meet
         case rel => exact ⟨_, H', ⟨by have := HJ6.out; have := HJ56.out; first | omega | exact Nat.le_refl _⟩, ⟨by (with_reducible repeat (first | refine blk_drewN ?_ _ | refine blk_drew ?_ | refine blk_alloc ?_ _)); exact BK418.out⟩, ⟨by (with_reducible repeat (first | refine blk_drewN ?_ _ | refine blk_drew ?_ | refine blk_alloc ?_ _)); exact BK424.out⟩, ⟨by (with_reducible repeat (first | refine blk_drewN ?_ _ | refine blk_drew ?_ | refine blk_alloc ?_ _)); exact BK430.out⟩, ⟨by repeat (first | (with_reducible first | exact HB.out | apply below_alloc | apply pw_below_drewN | apply below_drew1 | refine below_set ?_ GE418.out | refine below_set ?_ GE424.out | refine below_set ?_ GE430.out) | exact HB.out)⟩⟩
       case rest => as_aux_lemma =>
        clear HC66; (try clear c3); (try clear c22); (try clear c22b0); (try clear c28); (try clear c28b0); (try clear c28b1); (try clear c28b2); (try clear c34); (try clear c35); (try clear c35b0); (try clear c35b1); (try clear c55); (try clear c62); (try clear c67); (try clear c69); (try clear c70); (try clear c71); (try clear c71b0); (try clear z10_0); (try clear z10_1); (try clear z10_2); (try clear z10_3); (try clear z15_0); (try clear z15_1); (try clear z15_2); (try clear z15_3); (try clear z16_0); (try clear z16_1); (try clear z16_2); (try clear z16_3); (try clear z21_0); (try clear z21_1); (try clear z21_2); (try clear z21_3); (try clear z25_0); (try clear z25_1); (try clear z25_2); (try clear z25_3); (try clear z27_0); (try clear z27_1); (try clear z27_2); (try clear z27_3); (try clear z31_0); (try clear z31_1); (try clear z31_2); (try clear z31_3); (try clear z33_0); (try clear z33_1); (try clear z33_2); (try clear z33_3); (try clear z39_0); (try clear z39_1); (try clear z39_2); (try clear z39_3); (try clear z41_0); (try clear z41_1); (try clear z41_2); (try clear z41_3); (try clear z42_0); (try clear z42_1); (try clear z42_2); (try clear z42_3); (try clear z46_0); (try clear z46_1); (try clear z46_2); (try clear z46_3); (try clear z48_0); (try clear z48_1); (try clear z48_2); (try clear z48_3); (try clear z49_0); (try clear z49_1); (try clear z49_2); (try clear z49_3); (try clear z52_0); (try clear z52_1); (try clear z52_2); (try clear z52_3); (try clear z54_0); (try clear z54_1); (try clear z54_2); (try clear z54_3); (try clear z60_0); (try clear z60_1); (try clear z60_2); (try clear z60_3); (try clear z65_0); (try clear z65_1); (try clear z65_2); (try clear z65_3); (try clear z74_0); (try clear z74_1); (try clear z74_2); (try clear z74_3); (try clear y10_0); (try clear y10_1); (try clear y10_2); (try clear y10_3); (try clear y15_0); (try clear y15_1); (try clear y15_2); (try clear y15_3); (try clear y16_0); (try clear y16_1); (try clear y16_2); (try clear y16_3); (try clear y21_0); (try clear y21_1); (try clear y21_2); (try clear y21_3); (try clear y25_0); (try clear y25_1); (try clear y25_2); (try clear y25_3); (try clear y27_0); (try clear y27_1); (try clear y27_2); (try clear y27_3); (try clear y31_0); (try clear y31_1); (try clear y31_2); (try clear y31_3); (try clear y33_0); (try clear y33_1); (try clear y33_2); (try clear y33_3); (try clear y39_0); (try clear y39_1); (try clear y39_2); (try clear y39_3); (try clear y41_0); (try clear y41_1); (try clear y41_2); (try clear y41_3); (try clear y42_0); (try clear y42_1); (try clear y42_2); (try clear y42_3); (try clear y46_0); (try clear y46_1); (try clear y46_2); (try clear y46_3); (try clear y48_0); (try clear y48_1); (try clear y48_2); (try clear y48_3); (try clear y49_0); (try clear y49_1); (try clear y49_2); (try clear y49_3); (try clear y52_0); (try clear y52_1); (try clear y52_2); (try clear y52_3); (try clear y54_0); (try clear y54_1); (try clear y54_2); (try clear y54_3); (try clear y60_0); (try clear y60_1); (try clear y60_2); (try clear y60_3); (try clear y65_0); (try clear y65_1); (try clear y65_2); (try clear y65_3); (try clear y74_0); (try clear y74_1); (try clear y74_2); (try clear y74_3); obtain ⟨kq, HA, HJ65, BK418, BK424, BK430, HB⟩ := hcut
        cases kq with
        | zero => exact absurd HA.out (by simp [laws_FnToolKinds.j2])
        | succ kj65 =>
         have H := HA.out; clear HA
         simp only [laws_FnToolKinds.j2] at H
         replace H := Option.bind_eq_some_iff.mp H; obtain ⟨⟨t438, t439⟩, A760, H⟩ := H
         replace H : ((impl_ToolsOf.f kj65 t438 t439).bind fun bt442 => ((spec_ToolsOf.f kj65 t438 t439).bind fun bt446 => (if (bt442.2 != bt446.2) = true then (laws_FnToolKinds.j3 kj65 l0 t438 true) else ((laws_rInts.f kj65 bt442.1 bt446.1).bind fun t450 => (laws_FnToolKinds.j3 kj65 l0 t438 (!t450)))))) = some r := H
         have A76 := Aside0.mk A760; clear A760; replace H := Option.bind_eq_some_iff.mp H; obtain ⟨⟨t442, t443⟩, A770, H⟩ := H
         replace H : ((spec_ToolsOf.f kj65 t438 t439).bind fun bt446 => (if (t443 != bt446.2) = true then (laws_FnToolKinds.j3 kj65 l0 t438 true) else ((laws_rInts.f kj65 t442 bt446.1).bind fun t450 => (laws_FnToolKinds.j3 kj65 l0 t438 (!t450))))) = some r := H
         have A77 := Aside0.mk A770; clear A770; replace H := Option.bind_eq_some_iff.mp H; obtain ⟨⟨t446, t447⟩, A780, H⟩ := H
         replace H : (if (t443 != t447) = true then (laws_FnToolKinds.j3 kj65 l0 t438 true) else ((laws_rInts.f kj65 t442 t446).bind fun t450 => (laws_FnToolKinds.j3 kj65 l0 t438 (!t450)))) = some r := H
         have A78 := Aside0.mk A780; clear A780; have HC79 := Aside0.mk H; clear H
         go_upto_region 16 with (first | ((with_reducible refine gate_callee (f := 71) rfl ?_); refine goesL_ (some 106) rfl rfl Try.func71 (by kernel_rfl) rfl #[.slice A0 l0.length c0] rfl gl_ ?_; (with_reducible refine (spec_DrawToolsOf.calls kj65 _ _ l0 t438 t439 _ ?side1 ?side2 A76.out).mono ?_); (case side1 => repeat (first | exact (Kd.C_below HR0.out HB.out) | (with_reducible refine Kd.C_alloc ?_ _) | (with_reducible refine Kd.C_drewN ?_ _) | (with_reducible refine Kd.C_drew ?_))); (case side2 => exact HC0.out); rintro e w80 ⟨v440, rfl, ho0, hb⟩; refine ⟨_, rfl, ?_⟩; have n0_ := Aside0.mk (Kd.R_lower (Kd.R_newB (Kd.R_newB (Kd.R_newB ho0 (g := gb418) (o := .cells #[.int .i64 t411, .int .i64 t412, .int .i64 t413, .int .i64 t414] 44 (0, 0)) (by (with_reducible repeat (first | refine blk_drewN ?_ _ | refine blk_drew ?_ | refine blk_alloc ?_ _)); exact BK418.out)) (g := gb424) (o := .cells #[.int .i64 t419, .int .i64 t420, .int .i64 t421, .int .i64 t422] 44 (0, 0)) (by (with_reducible repeat (first | refine blk_drewN ?_ _ | refine blk_drew ?_ | refine blk_alloc ?_ _)); exact BK424.out)) (g := gb430) (o := .cells #[.int .i64 t425, .int .i64 t426, .int .i64 t427, .int .i64 t428] 44 (0, 0)) (by (with_reducible repeat (first | refine blk_drewN ?_ _ | refine blk_drew ?_ | refine blk_alloc ?_ _)); exact BK430.out)) (below_size bx_)); have n1_ := Aside0.mk (blk_below (bk_ BK418) hb); have n2_ := Aside0.mk (blk_below (bk_ BK424) hb); have n3_ := Aside0.mk (blk_below (bk_ BK430) hb); have n4_ := Aside0.mk (below_step bx_ hb); clear BK418; clear BK424; clear BK430; clear HB; have HO441 := n0_; have BK418 := n1_; have BK424 := n2_; have BK430 := n3_; have HB := n4_; clear n0_ n1_ n2_ n3_ n4_; (try clear hb); (try clear hk); (try clear ho0); obtain ⟨Ao81, co81, eo81⟩ := Kd.R_slice HO441.out; subst eo81) | ((with_reducible refine gate_callee (f := 37) rfl ?_); refine goesL_ (some 112) rfl rfl Try.func37 (by kernel_rfl) rfl #[.slice Ao81 t438.length co81, .int .i64 t439] rfl gl_ ?_; (with_reducible refine (impl_ToolsOf.calls kj65 _ _ t438 t439 t442 t443 _ ?side1 ?side2 A77.out).mono ?_); (case side1 => repeat (first | exact (Kd.R_reads' HO441.out).2.2 | (with_reducible refine Kd.C_alloc ?_ _) | (with_reducible refine Kd.C_drewN ?_ _) | (with_reducible refine Kd.C_drew ?_))); (case side2 => exact (Kd.R_reads' HO441.out).2.1); rintro e w82 ⟨v444, rfl, ho0, hb⟩; refine ⟨_, rfl, ?_⟩; have n0_ := Aside0.mk (Kd.R_below (kr_ HO441) hb); have n1_ := Aside0.mk (Kd.R_lower ho0 (below_size bx_)); have n2_ := Aside0.mk (blk_below (bk_ BK418) hb); have n3_ := Aside0.mk (blk_below (bk_ BK424) hb); have n4_ := Aside0.mk (blk_below (bk_ BK430) hb); have n5_ := Aside0.mk (below_step bx_ hb); clear HO441; clear BK418; clear BK424; clear BK430; clear HB; have HO441 := n0_; have HO445 := n1_; have BK418 := n2_; have BK424 := n3_; have BK430 := n4_; have HB := n5_; clear n0_ n1_ n2_ n3_ n4_ n5_; (try clear hb); (try clear hk); (try clear ho0)) | ((with_reducible refine gate_callee (f := 35) rfl ?_); refine goesL_ (some 118) rfl rfl Try.func35 (by kernel_rfl) rfl #[.slice Ao81 t438.length co81, .int .i64 t439] rfl gl_ ?_; (with_reducible refine (spec_ToolsOf.calls kj65 _ _ t438 t439 t446 t447 _ ?side1 ?side2 A78.out).mono ?_); (case side1 => repeat (first | exact (Kd.R_reads' HO441.out).2.2 | (with_reducible refine Kd.C_alloc ?_ _) | (with_reducible refine Kd.C_drewN ?_ _) | (with_reducible refine Kd.C_drew ?_))); (case side2 => exact (Kd.R_reads' HO441.out).2.1); rintro e w83 ⟨v448, rfl, ho0, hb⟩; refine ⟨_, rfl, ?_⟩; have n0_ := Aside0.mk (Kd.R_below (kr_ HO441) hb); have n1_ := Aside0.mk (Kd.R_elder' (kr_ HO445) (Kd.R_base ho0) hb); have n2_ := Aside0.mk (Kd.R_lower (Kd.R_new' ho0 (Kd.R_lt (kr_ HO445))) (below_size bx_)); have n3_ := Aside0.mk (blk_below (bk_ BK418) hb); have n4_ := Aside0.mk (blk_below (bk_ BK424) hb); have n5_ := Aside0.mk (blk_below (bk_ BK430) hb); have n6_ := Aside0.mk (below_step bx_ hb); clear HO441; clear HO445; clear BK418; clear BK424; clear BK430; clear HB; have HO441 := n0_; have HO445 := n1_; have HO449 := n2_; have BK418 := n3_; have BK424 := n4_; have BK430 := n5_; have HB := n6_; clear n0_ n1_ n2_ n3_ n4_ n5_ n6_; (try clear hb); (try clear hk); (try clear ho0)))
         (try simp only [Act.put, zA, zB, zC])
         go_cut [129] (fun v129 wc => ∃ (kq : Nat) (x129_78 : Bool), v129 = .bool x129_78 ∧ Aside0 (laws_FnToolKinds.j3 kq l0 t438 x129_78 = some r) ∧ Aside0 (kq ≤ kj65) ∧ Aside0 (Kd.R k44 44 wc w.heap.size (fun k_ => k_ ≠ gb418 ∧ k_ ≠ gb424 ∧ k_ ≠ gb430) (.slice Ao81 t438.length co81) t438) ∧ Aside0 (wc.heap[gb418]? = some (.cells #[.int .i64 t411, .int .i64 t412, .int .i64 t413, .int .i64 t414] 44 (0, 0))) ∧ Aside0 (wc.heap[gb424]? = some (.cells #[.int .i64 t419, .int .i64 t420, .int .i64 t421, .int .i64 t422] 44 (0, 0))) ∧ Aside0 (wc.heap[gb430]? = some (.cells #[.int .i64 t425, .int .i64 t426, .int .i64 t427, .int .i64 t428] 44 (0, 0))) ∧ Aside0 (Below w.heap.size w wc))
         case first => as_aux_lemma =>
          have H := HC79.out; clear HC79
          by_cases c84 : (t443 != t447) = true
          ·rw [if_pos c84] at H
           have c84b0 : (t443 != t447) = true := c84
           (try (have c84b1 : decide (t443 = t447) = false := by simpa using c84))
           (try (have c84b2 : (t443 == t447) = false := by simpa using c84))
           (try (have c84b3 : ¬ (t443 = t447) := by simpa using c84))
           clear c84
           (first | rw [c84b0] | (simp only [i64_w, i32_w]; rw [c84b0]) | skip)
           have H' := Aside0.mk H
           clear H
           go_wp2
           go_meet
           case rel => exact ⟨_, (true), (by first | rfl | (simp; done) | (simp [*]; done)), H', ⟨by have := HJ6.out; have := HJ56.out; have := HJ65.out; first | omega | exact Nat.le_refl _⟩, ⟨by (with_reducible repeat (first | apply Kd.R_alloc | apply Kd.R_drewN | apply Kd.R_drew)); exact Kd.R_mono HO441.out (fun _ hk => ⟨hk.1.1.2, ⟨hk.1.2, hk.2⟩⟩)⟩, ⟨by (with_reducible repeat (first | refine blk_drewN ?_ _ | refine blk_drew ?_ | refine blk_alloc ?_ _)); exact BK418.out⟩, ⟨by (with_reducible repeat (first | refine blk_drewN ?_ _ | refine blk_drew ?_ | refine blk_alloc ?_ _)); exact BK424.out⟩, ⟨by (with_reducible repeat (first | refine blk_drewN ?_ _ | refine blk_drew ?_ | refine blk_alloc ?_ _)); exact BK430.out⟩, ⟨by repeat (first | (with_reducible first | exact HB.out | apply below_alloc | apply pw_below_drewN | apply below_drew1 | refine below_set ?_ GE418.out | refine below_set ?_ GE424.out | refine below_set ?_ GE430.out) | exact HB.out)⟩⟩
          ·rw [if_neg c84] at H
           have c84b0 : (t443 != t447) = false := by simpa using c84
           (try (have c84b1 : decide (t443 = t447) = true := by simpa using c84))
           (try (have c84b2 : (t443 == t447) = true := by simpa using c84))
           clear c84
           (first | rw [c84b0] | (simp only [i64_w, i32_w]; rw [c84b0]) | skip)
           replace H := Option.bind_eq_some_iff.mp H; obtain ⟨t450, A850, H⟩ := H
           replace H : (laws_FnToolKinds.j3 kj65 l0 t438 (!t450)) = some r := H
           have A85 := Aside0.mk A850; clear A850
           have H' := Aside0.mk H
           clear H
           obtain ⟨Ao86, co86, eo86⟩ := Kd.R_slice HO445.out
           subst eo86
           obtain ⟨Ao87, co87, eo87⟩ := Kd.R_slice HO449.out
           subst eo87
           go_wp2_with (first | (go_at_call 72; (with_reducible refine (laws_rInts.calls kj65 _ _ t442 _ _ t446 t450 _ ?side1 ?side2 ?side3 ?side4 A85.out).mono ?_); (case side1 => repeat (first | exact (Kd.R_reads' HO445.out).2.2 | (with_reducible refine Kd.C_alloc ?_ _) | (with_reducible refine Kd.C_drewN ?_ _) | (with_reducible refine Kd.C_drew ?_))); (case side2 => exact (Kd.R_reads' HO445.out).2.1); (case side3 => repeat (first | exact (Kd.R_reads' HO449.out).2.2 | (with_reducible refine Kd.C_alloc ?_ _) | (with_reducible refine Kd.C_drewN ?_ _) | (with_reducible refine Kd.C_drew ?_))); (case side4 => exact (Kd.R_reads' HO449.out).2.1); rintro e w' ⟨rfl, ⟨nd, rfl⟩⟩))
           go_meet
           case rel => exact ⟨_, (!t450), (by first | rfl | (simp; done) | (simp [*]; done)), H', ⟨by have := HJ6.out; have := HJ56.out; have := HJ65.out; first | omega | exact Nat.le_refl _⟩, ⟨by (with_reducible repeat (first | apply Kd.R_alloc | apply Kd.R_drewN | apply Kd.R_drew)); exact Kd.R_mono HO441.out (fun _ hk => ⟨hk.1.1.2, ⟨hk.1.2, hk.2⟩⟩)⟩, ⟨by (with_reducible repeat (first | refine blk_drewN ?_ _ | refine blk_drew ?_ | refine blk_alloc ?_ _)); exact BK418.out⟩, ⟨by (with_reducible repeat (first | refine blk_drewN ?_ _ | refine blk_drew ?_ | refine blk_alloc ?_ _)); exact BK424.out⟩, ⟨by (with_reducible repeat (first | refine blk_drewN ?_ _ | refine blk_drew ?_ | refine blk_alloc ?_ _)); exact BK430.out⟩, ⟨by repeat (first | (with_reducible first | exact HB.out | apply below_alloc | apply pw_below_drewN | apply below_drew1 | refine below_set ?_ GE418.out | refine below_set ?_ GE424.out | refine below_set ?_ GE430.out) | exact HB.out)⟩⟩
         case rest => as_aux_lemma =>
          clear HC79; (try clear c3); (try clear c22); (try clear c22b0); (try clear c28); (try clear c28b0); (try clear c28b1); (try clear c28b2); (try clear c34); (try clear c35); (try clear c35b0); (try clear c35b1); (try clear c55); (try clear c62); (try clear c67); (try clear c69); (try clear c70); (try clear c71); (try clear c71b0); (try clear c84); (try clear c84b0); (try clear c84b1); (try clear c84b2); (try clear z10_0); (try clear z10_1); (try clear z10_2); (try clear z10_3); (try clear z15_0); (try clear z15_1); (try clear z15_2); (try clear z15_3); (try clear z16_0); (try clear z16_1); (try clear z16_2); (try clear z16_3); (try clear z21_0); (try clear z21_1); (try clear z21_2); (try clear z21_3); (try clear z25_0); (try clear z25_1); (try clear z25_2); (try clear z25_3); (try clear z27_0); (try clear z27_1); (try clear z27_2); (try clear z27_3); (try clear z31_0); (try clear z31_1); (try clear z31_2); (try clear z31_3); (try clear z33_0); (try clear z33_1); (try clear z33_2); (try clear z33_3); (try clear z39_0); (try clear z39_1); (try clear z39_2); (try clear z39_3); (try clear z41_0); (try clear z41_1); (try clear z41_2); (try clear z41_3); (try clear z42_0); (try clear z42_1); (try clear z42_2); (try clear z42_3); (try clear z46_0); (try clear z46_1); (try clear z46_2); (try clear z46_3); (try clear z48_0); (try clear z48_1); (try clear z48_2); (try clear z48_3); (try clear z49_0); (try clear z49_1); (try clear z49_2); (try clear z49_3); (try clear z52_0); (try clear z52_1); (try clear z52_2); (try clear z52_3); (try clear z54_0); (try clear z54_1); (try clear z54_2); (try clear z54_3); (try clear z60_0); (try clear z60_1); (try clear z60_2); (try clear z60_3); (try clear z65_0); (try clear z65_1); (try clear z65_2); (try clear z65_3); (try clear z74_0); (try clear z74_1); (try clear z74_2); (try clear z74_3); (try clear y10_0); (try clear y10_1); (try clear y10_2); (try clear y10_3); (try clear y15_0); (try clear y15_1); (try clear y15_2); (try clear y15_3); (try clear y16_0); (try clear y16_1); (try clear y16_2); (try clear y16_3); (try clear y21_0); (try clear y21_1); (try clear y21_2); (try clear y21_3); (try clear y25_0); (try clear y25_1); (try clear y25_2); (try clear y25_3); (try clear y27_0); (try clear y27_1); (try clear y27_2); (try clear y27_3); (try clear y31_0); (try clear y31_1); (try clear y31_2); (try clear y31_3); (try clear y33_0); (try clear y33_1); (try clear y33_2); (try clear y33_3); (try clear y39_0); (try clear y39_1); (try clear y39_2); (try clear y39_3); (try clear y41_0); (try clear y41_1); (try clear y41_2); (try clear y41_3); (try clear y42_0); (try clear y42_1); (try clear y42_2); (try clear y42_3); (try clear y46_0); (try clear y46_1); (try clear y46_2); (try clear y46_3); (try clear y48_0); (try clear y48_1); (try clear y48_2); (try clear y48_3); (try clear y49_0); (try clear y49_1); (try clear y49_2); (try clear y49_3); (try clear y52_0); (try clear y52_1); (try clear y52_2); (try clear y52_3); (try clear y54_0); (try clear y54_1); (try clear y54_2); (try clear y54_3); (try clear y60_0); (try clear y60_1); (try clear y60_2); (try clear y60_3); (try clear y65_0); (try clear y65_1); (try clear y65_2); (try clear y65_3); (try clear y74_0); (try clear y74_1); (try clear y74_2); (try clear y74_3); obtain ⟨kq, x129_78, rfl, HA, HJ78, HO_15, BK418, BK424, BK430, HB⟩ := hcut
          cases kq with
          | zero => exact absurd HA.out (by simp [laws_FnToolKinds.j3])
          | succ kj78 =>
           have H := HA.out; clear HA
           simp only [laws_FnToolKinds.j3] at H
           by_cases c88 : x129_78 = true
           ·subst c88
            have H1 : (none) = some r := by rw [if_pos rfl] at H; exact H
            clear H; have H := H1; clear H1
            exact absurd H (by simp)
           ·replace c88 := Bool.eq_false_iff.mpr c88
            subst c88
            have H1 : ((impl_AreTools.f kj78 t438).bind fun t451 => (if t451 = true then (laws_FnToolKinds.l0 kj78 l0 t438 0 0) else (laws_FnToolKinds.j5 kj78 l0 t438))) = some r := by rw [if_neg (show ¬ (false = true) by decide)] at H; exact H
            clear H; have H := H1; clear H1; replace H := Option.bind_eq_some_iff.mp H; obtain ⟨t451, A890, H⟩ := H
            replace H : (if t451 = true then (laws_FnToolKinds.l0 kj78 l0 t438 0 0) else (laws_FnToolKinds.j5 kj78 l0 t438)) = some r := H
            have A89 := Aside0.mk A890; clear A890; have HC90 := Aside0.mk H; clear H
            go_upto_if 131 with (first | ((with_reducible refine gate_callee (f := 73) rfl ?_); refine goesL_ (some 131) rfl rfl Try.func73 (by kernel_rfl) rfl #[.slice Ao81 t438.length co81] rfl gl_ ?_; (with_reducible refine (impl_AreTools.calls kj78 _ _ t438 t451 _ ?side1 ?side2 A89.out).mono ?_); (case side1 => repeat (first | exact (Kd.R_reads' HO_15.out).2.2 | (with_reducible refine Kd.C_alloc ?_ _) | (with_reducible refine Kd.C_drewN ?_ _) | (with_reducible refine Kd.C_drew ?_))); (case side2 => exact (Kd.R_reads' HO_15.out).2.1); rintro e w91 ⟨rfl, hb⟩; refine ⟨_, rfl, ?_⟩; have n0_ := Aside0.mk (Kd.R_below (kr_ HO_15) hb); have n1_ := Aside0.mk (blk_below (bk_ BK418) hb); have n2_ := Aside0.mk (blk_below (bk_ BK424) hb); have n3_ := Aside0.mk (blk_below (bk_ BK430) hb); have n4_ := Aside0.mk (below_step bx_ hb); clear HO_15; clear BK418; clear BK424; clear BK430; clear HB; have HO_15 := n0_; have BK418 := n1_; have BK424 := n2_; have BK430 := n3_; have HB := n4_; clear n0_ n1_ n2_ n3_ n4_; (try clear hb); (try clear hk)))
            (try simp only [Act.put, zA, zB, zC])
            go_cut [] (fun wc => ∃ (kq : Nat), Aside0 (laws_FnToolKinds.j5 kq l0 t438 = some r) ∧ Aside0 (kq ≤ kj78) ∧ Aside0 (Kd.R k44 44 wc w.heap.size (fun k_ => k_ ≠ gb418 ∧ k_ ≠ gb424 ∧ k_ ≠ gb430) (.slice Ao81 t438.length co81) t438) ∧ Aside0 (wc.heap[gb418]? = some (.cells #[.int .i64 t411, .int .i64 t412, .int .i64 t413, .int .i64 t414] 44 (0, 0))) ∧ Aside0 (wc.heap[gb424]? = some (.cells #[.int .i64 t419, .int .i64 t420, .int .i64 t421, .int .i64 t422] 44 (0, 0))) ∧ Aside0 (wc.heap[gb430]? = some (.cells #[.int .i64 t425, .int .i64 t426, .int .i64 t427, .int .i64 t428] 44 (0, 0))) ∧ Aside0 (Below w.heap.size w wc))
            case first => as_aux_lemma =>
             have H := HC90.out; clear HC90
             by_cases c92 : t451 = true
             ·subst c92
              have H1 : (laws_FnToolKinds.l0 kj78 l0 t438 0 0) = some r := by rw [if_pos rfl] at H; exact H
              clear H; have H := H1; clear H1
              have H' := Aside0.mk H
              clear H
              go_wp2
              go_loopg [21, 22] kj78 (fun kq v21 v22 w' => ∃ (x21_5 : Int) (x22_5 : Int), v21 = .int .i64 x21_5 ∧ v22 = .int .i64 x22_5 ∧ Aside0 (laws_FnToolKinds.l0 kq l0 t438 x21_5 x22_5 = some r) ∧ Aside0 (kq ≤ kj78) ∧ Aside0 (Kd.R k44 44 w' w.heap.size (fun k_ => k_ ≠ gb418 ∧ k_ ≠ gb424 ∧ k_ ≠ gb430) (.slice Ao81 t438.length co81) t438) ∧ Aside0 (w'.heap[gb418]? = some (.cells #[.int .i64 t411, .int .i64 t412, .int .i64 t413, .int .i64 t414] 44 (0, 0))) ∧ Aside0 (w'.heap[gb424]? = some (.cells #[.int .i64 t419, .int .i64 t420, .int .i64 t421, .int .i64 t422] 44 (0, 0))) ∧ Aside0 (w'.heap[gb430]? = some (.cells #[.int .i64 t425, .int .i64 t426, .int .i64 t427, .int .i64 t428] 44 (0, 0))) ∧ Aside0 (Below w.heap.size w w'))
              case atStart => exact ⟨(0), (0), (by first | rfl | (simp; done) | (simp [*]; done)), (by first | rfl | (simp; done) | (simp [*]; done)), H', ⟨Nat.le_refl _⟩, ⟨by (with_reducible repeat (first | apply Kd.R_alloc | apply Kd.R_drewN | apply Kd.R_drew)); exact HO_15.out⟩, ⟨by (with_reducible repeat (first | refine blk_drewN ?_ _ | refine blk_drew ?_ | refine blk_alloc ?_ _)); exact BK418.out⟩, ⟨by (with_reducible repeat (first | refine blk_drewN ?_ _ | refine blk_drew ?_ | refine blk_alloc ?_ _)); exact BK424.out⟩, ⟨by (with_reducible repeat (first | refine blk_drewN ?_ _ | refine blk_drew ?_ | refine blk_alloc ?_ _)); exact BK430.out⟩, ⟨by repeat (first | (with_reducible first | exact HB.out | apply below_alloc | apply pw_below_drewN | apply below_drew1 | refine below_set ?_ GE418.out | refine below_set ?_ GE424.out | refine below_set ?_ GE430.out) | exact HB.out)⟩⟩
              case round =>
               clear H'
               (try clear c3); (try clear c22); (try clear c22b0); (try clear c28); (try clear c28b0); (try clear c28b1); (try clear c28b2); (try clear c34); (try clear c35); (try clear c35b0); (try clear c35b1); (try clear c55); (try clear c62); (try clear c67); (try clear c69); (try clear c70); (try clear c71); (try clear c71b0); (try clear c84); (try clear c84b0); (try clear c84b1); (try clear c84b2); (try clear c88); (try clear c92); (try clear z10_0); (try clear z10_1); (try clear z10_2); (try clear z10_3); (try clear z15_0); (try clear z15_1); (try clear z15_2); (try clear z15_3); (try clear z16_0); (try clear z16_1); (try clear z16_2); (try clear z16_3); (try clear z21_0); (try clear z21_1); (try clear z21_2); (try clear z21_3); (try clear z25_0); (try clear z25_1); (try clear z25_2); (try clear z25_3); (try clear z27_0); (try clear z27_1); (try clear z27_2); (try clear z27_3); (try clear z31_0); (try clear z31_1); (try clear z31_2); (try clear z31_3); (try clear z33_0); (try clear z33_1); (try clear z33_2); (try clear z33_3); (try clear z39_0); (try clear z39_1); (try clear z39_2); (try clear z39_3); (try clear z41_0); (try clear z41_1); (try clear z41_2); (try clear z41_3); (try clear z42_0); (try clear z42_1); (try clear z42_2); (try clear z42_3); (try clear z46_0); (try clear z46_1); (try clear z46_2); (try clear z46_3); (try clear z48_0); (try clear z48_1); (try clear z48_2); (try clear z48_3); (try clear z49_0); (try clear z49_1); (try clear z49_2); (try clear z49_3); (try clear z52_0); (try clear z52_1); (try clear z52_2); (try clear z52_3); (try clear z54_0); (try clear z54_1); (try clear z54_2); (try clear z54_3); (try clear z60_0); (try clear z60_1); (try clear z60_2); (try clear z60_3); (try clear z65_0); (try clear z65_1); (try clear z65_2); (try clear z65_3); (try clear z74_0); (try clear z74_1); (try clear z74_2); (try clear z74_3); (try clear y10_0); (try clear y10_1); (try clear y10_2); (try clear y10_3); (try clear y15_0); (try clear y15_1); (try clear y15_2); (try clear y15_3); (try clear y16_0); (try clear y16_1); (try clear y16_2); (try clear y16_3); (try clear y21_0); (try clear y21_1); (try clear y21_2); (try clear y21_3); (try clear y25_0); (try clear y25_1); (try clear y25_2); (try clear y25_3); (try clear y27_0); (try clear y27_1); (try clear y27_2); (try clear y27_3); (try clear y31_0); (try clear y31_1); (try clear y31_2); (try clear y31_3); (try clear y33_0); (try clear y33_1); (try clear y33_2); (try clear y33_3); (try clear y39_0); (try clear y39_1); (try clear y39_2); (try clear y39_3); (try clear y41_0); (try clear y41_1); (try clear y41_2); (try clear y41_3); (try clear y42_0); (try clear y42_1); (try clear y42_2); (try clear y42_3); (try clear y46_0); (try clear y46_1); (try clear y46_2); (try clear y46_3); (try clear y48_0); (try clear y48_1); (try clear y48_2); (try clear y48_3); (try clear y49_0); (try clear y49_1); (try clear y49_2); (try clear y49_3); (try clear y52_0); (try clear y52_1); (try clear y52_2); (try clear y52_3); (try clear y54_0); (try clear y54_1); (try clear y54_2); (try clear y54_3); (try clear y60_0); (try clear y60_1); (try clear y60_2); (try clear y60_3); (try clear y65_0); (try clear y65_1); (try clear y65_2); (try clear y65_3); (try clear y74_0); (try clear y74_1); (try clear y74_2); (try clear y74_3); obtain ⟨x21_5, x22_5, rfl, rfl, HA, HK5, HO_15, BK418, BK424, BK430, HB⟩ := hrel
               cases gk with
               | zero => exact absurd HA.out (by simp [laws_FnToolKinds.l0])
               | succ k5 =>
                have H := HA.out; clear HA
                simp only [laws_FnToolKinds.l0] at H
                by_cases c93 : x22_5 ≤ 2
                ·rw [if_pos c93] at H
                 have c93b0 : decide (x22_5 ≤ 2) = true := decide_eq_true c93
                 clear c93
                 (first | rw [c93b0] | (simp only [i64_w, i32_w]; rw [c93b0]) | skip)
                 replace H := Option.bind_eq_some_iff.mp H; obtain ⟨⟨t452, t453⟩, A940, H⟩ := H
                 replace H : (if t453 = true then (laws_FnToolKinds.l0 k5 l0 t438 (wrap64 (x21_5 + (t452.length : Int))) (wrap64 (x22_5 + 1))) else (none)) = some r := H
                 have A94 := Aside0.mk A940; clear A940
                 by_cases c95 : t453 = true
                 ·subst c95
                  have H1 : (laws_FnToolKinds.l0 k5 l0 t438 (wrap64 (x21_5 + (t452.length : Int))) (wrap64 (x22_5 + 1))) = some r := by rw [if_pos rfl] at H; exact H
                  clear H; have H := H1; clear H1
                  have H' := Aside0.mk H
                  clear H
                  go_wp2_with (first | ((with_reducible refine gate_callee (f := 37) rfl ?_); refine goesL_ (some 139) rfl rfl Try.func37 (by kernel_rfl) rfl #[.slice Ao81 t438.length co81, .int .i64 x22_5] rfl gl_ ?_; (with_reducible refine (impl_ToolsOf.calls k5 _ _ t438 x22_5 t452 true _ ?side1 ?side2 A94.out).mono ?_); (case side1 => repeat (first | exact (Kd.R_reads' HO_15.out).2.2 | (with_reducible refine Kd.C_alloc ?_ _) | (with_reducible refine Kd.C_drewN ?_ _) | (with_reducible refine Kd.C_drew ?_))); (case side2 => exact (Kd.R_reads' HO_15.out).2.1); rintro e w96 ⟨v454, rfl, ho0, hb⟩; refine ⟨_, rfl, ?_⟩; have n0_ := Aside0.mk (Kd.R_below (kr_ HO_15) hb); have n1_ := Aside0.mk (Kd.R_lower ho0 (below_size bx_)); have n2_ := Aside0.mk (blk_below (bk_ BK418) hb); have n3_ := Aside0.mk (blk_below (bk_ BK424) hb); have n4_ := Aside0.mk (blk_below (bk_ BK430) hb); have n5_ := Aside0.mk (below_step bx_ hb); clear HO_15; clear BK418; clear BK424; clear BK430; clear HB; have HO_15 := n0_; have HO455 := n1_; have BK418 := n2_; have BK424 := n3_; have BK430 := n4_; have HB := n5_; clear n0_ n1_ n2_ n3_ n4_ n5_; (try clear hb); (try clear hk); (try clear ho0); obtain ⟨Ao97, co97, eo97⟩ := Kd.R_slice HO455.out; subst eo97))
                  go_roundg k5
                  case measure => have := HJ6.out; have := HJ56.out; have := HJ65.out; have := HJ78.out; have := HK5.out; omega
                  case rel => exact ⟨(wrap64 (x21_5 + (t452.length : Int))), (wrap64 (x22_5 + 1)), (by first | rfl | (simp; done) | (simp [*]; done)), (by first | rfl | (simp; done) | (simp [*]; done)), H', ⟨by have := HJ6.out; have := HJ56.out; have := HJ65.out; have := HJ78.out; have := HK5.out; omega⟩, ⟨by (with_reducible repeat (first | apply Kd.R_alloc | apply Kd.R_drewN | apply Kd.R_drew)); exact HO_15.out⟩, ⟨by (with_reducible repeat (first | refine blk_drewN ?_ _ | refine blk_drew ?_ | refine blk_alloc ?_ _)); exact BK418.out⟩, ⟨by (with_reducible repeat (first | refine blk_drewN ?_ _ | refine blk_drew ?_ | refine blk_alloc ?_ _)); exact BK424.out⟩, ⟨by (with_reducible repeat (first | refine blk_drewN ?_ _ | refine blk_drew ?_ | refine blk_alloc ?_ _)); exact BK430.out⟩, ⟨by repeat (first | (with_reducible first | exact HB.out | apply below_alloc | apply pw_below_drewN | apply below_drew1 | refine below_set ?_ GE418.out | refine below_set ?_ GE424.out | refine below_set ?_ GE430.out) | exact HB.out)⟩⟩
                 ·replace c95 := Bool.eq_false_iff.mpr c95
                  subst c95
                  have H1 : (none) = some r := by rw [if_neg (show ¬ (false = true) by decide)] at H; exact H
                  clear H; have H := H1; clear H1
                  exact absurd H (by simp)
                ·rw [if_neg c93] at H
                 have c93b0 : decide (x22_5 ≤ 2) = false := decide_eq_false c93
                 clear c93
                 (first | rw [c93b0] | (simp only [i64_w, i32_w]; rw [c93b0]) | skip)
                 by_cases c98 : x21_5 = (t438.length : Int)
                 ·rw [if_pos c98] at H
                  have c98b0 : (x21_5 == (t438.length : Int)) = true := beq_iff_eq.mpr c98
                  have c98b1 : (x21_5 != (t438.length : Int)) = false := bne_eq_false_iff_eq.mpr c98
                  clear c98
                  have H' := Aside0.mk H
                  clear H
                  go_wp2
                  go_meet
                  case rel => exact ⟨_, H', ⟨by have := HJ6.out; have := HJ56.out; have := HJ65.out; have := HJ78.out; have := HK5.out; first | omega | exact Nat.le_refl _⟩, ⟨by (with_reducible repeat (first | apply Kd.R_alloc | apply Kd.R_drewN | apply Kd.R_drew)); exact HO_15.out⟩, ⟨by (with_reducible repeat (first | refine blk_drewN ?_ _ | refine blk_drew ?_ | refine blk_alloc ?_ _)); exact BK418.out⟩, ⟨by (with_reducible repeat (first | refine blk_drewN ?_ _ | refine blk_drew ?_ | refine blk_alloc ?_ _)); exact BK424.out⟩, ⟨by (with_reducible repeat (first | refine blk_drewN ?_ _ | refine blk_drew ?_ | refine blk_alloc ?_ _)); exact BK430.out⟩, ⟨by repeat (first | (with_reducible first | exact HB.out | apply below_alloc | apply pw_below_drewN | apply below_drew1 | refine below_set ?_ GE418.out | refine below_set ?_ GE424.out | refine below_set ?_ GE430.out) | exact HB.out)⟩⟩
                 ·rw [if_neg c98] at H
                  exact absurd H (by simp)
             ·replace c92 := Bool.eq_false_iff.mpr c92
              subst c92
              have H1 : (laws_FnToolKinds.j5 kj78 l0 t438) = some r := by rw [if_neg (show ¬ (false = true) by decide)] at H; exact H
              clear H; have H := H1; clear H1
              have H' := Aside0.mk H
              clear H
              go_wp2
              go_meet
              case rel => exact ⟨_, H', ⟨by have := HJ6.out; have := HJ56.out; have := HJ65.out; have := HJ78.out; first | omega | exact Nat.le_refl _⟩, ⟨by (with_reducible repeat (first | apply Kd.R_alloc | apply Kd.R_drewN | apply Kd.R_drew)); exact HO_15.out⟩, ⟨by (with_reducible repeat (first | refine blk_drewN ?_ _ | refine blk_drew ?_ | refine blk_alloc ?_ _)); exact BK418.out⟩, ⟨by (with_reducible repeat (first | refine blk_drewN ?_ _ | refine blk_drew ?_ | refine blk_alloc ?_ _)); exact BK424.out⟩, ⟨by (with_reducible repeat (first | refine blk_drewN ?_ _ | refine blk_drew ?_ | refine blk_alloc ?_ _)); exact BK430.out⟩, ⟨by repeat (first | (with_reducible first | exact HB.out | apply below_alloc | apply pw_below_drewN | apply below_drew1 | refine below_set ?_ GE418.out | refine below_set ?_ GE424.out | refine below_set ?_ GE430.out) | exact HB.out)⟩⟩
            case rest => as_aux_lemma =>
             clear HC90; (try clear c3); (try clear c22); (try clear c22b0); (try clear c28); (try clear c28b0); (try clear c28b1); (try clear c28b2); (try clear c34); (try clear c35); (try clear c35b0); (try clear c35b1); (try clear c55); (try clear c62); (try clear c67); (try clear c69); (try clear c70); (try clear c71); (try clear c71b0); (try clear c84); (try clear c84b0); (try clear c84b1); (try clear c84b2); (try clear c88); (try clear c92); (try clear c93); (try clear c93b0); (try clear c95); (try clear c98); (try clear c98b0); (try clear c98b1); (try clear z10_0); (try clear z10_1); (try clear z10_2); (try clear z10_3); (try clear z15_0); (try clear z15_1); (try clear z15_2); (try clear z15_3); (try clear z16_0); (try clear z16_1); (try clear z16_2); (try clear z16_3); (try clear z21_0); (try clear z21_1); (try clear z21_2); (try clear z21_3); (try clear z25_0); (try clear z25_1); (try clear z25_2); (try clear z25_3); (try clear z27_0); (try clear z27_1); (try clear z27_2); (try clear z27_3); (try clear z31_0); (try clear z31_1); (try clear z31_2); (try clear z31_3); (try clear z33_0); (try clear z33_1); (try clear z33_2); (try clear z33_3); (try clear z39_0); (try clear z39_1); (try clear z39_2); (try clear z39_3); (try clear z41_0); (try clear z41_1); (try clear z41_2); (try clear z41_3); (try clear z42_0); (try clear z42_1); (try clear z42_2); (try clear z42_3); (try clear z46_0); (try clear z46_1); (try clear z46_2); (try clear z46_3); (try clear z48_0); (try clear z48_1); (try clear z48_2); (try clear z48_3); (try clear z49_0); (try clear z49_1); (try clear z49_2); (try clear z49_3); (try clear z52_0); (try clear z52_1); (try clear z52_2); (try clear z52_3); (try clear z54_0); (try clear z54_1); (try clear z54_2); (try clear z54_3); (try clear z60_0); (try clear z60_1); (try clear z60_2); (try clear z60_3); (try clear z65_0); (try clear z65_1); (try clear z65_2); (try clear z65_3); (try clear z74_0); (try clear z74_1); (try clear z74_2); (try clear z74_3); (try clear y10_0); (try clear y10_1); (try clear y10_2); (try clear y10_3); (try clear y15_0); (try clear y15_1); (try clear y15_2); (try clear y15_3); (try clear y16_0); (try clear y16_1); (try clear y16_2); (try clear y16_3); (try clear y21_0); (try clear y21_1); (try clear y21_2); (try clear y21_3); (try clear y25_0); (try clear y25_1); (try clear y25_2); (try clear y25_3); (try clear y27_0); (try clear y27_1); (try clear y27_2); (try clear y27_3); (try clear y31_0); (try clear y31_1); (try clear y31_2); (try clear y31_3); (try clear y33_0); (try clear y33_1); (try clear y33_2); (try clear y33_3); (try clear y39_0); (try clear y39_1); (try clear y39_2); (try clear y39_3); (try clear y41_0); (try clear y41_1); (try clear y41_2); (try clear y41_3); (try clear y42_0); (try clear y42_1); (try clear y42_2); (try clear y42_3); (try clear y46_0); (try clear y46_1); (try clear y46_2); (try clear y46_3); (try clear y48_0); (try clear y48_1); (try clear y48_2); (try clear y48_3); (try clear y49_0); (try clear y49_1); (try clear y49_2); (try clear y49_3); (try clear y52_0); (try clear y52_1); (try clear y52_2); (try clear y52_3); (try clear y54_0); (try clear y54_1); (try clear y54_2); (try clear y54_3); (try clear y60_0); (try clear y60_1); (try clear y60_2); (try clear y60_3); (try clear y65_0); (try clear y65_1); (try clear y65_2); (try clear y65_3); (try clear y74_0); (try clear y74_1); (try clear y74_2); (try clear y74_3); obtain ⟨kq, HA, HJ89, HO_15, BK418, BK424, BK430, HB⟩ := hcut
             cases kq with
             | zero => exact absurd HA.out (by simp [laws_FnToolKinds.j5])
             | succ kj89 =>
              have H := HA.out; clear HA
              simp only [laws_FnToolKinds.j5] at H
              replace H := Option.bind_eq_some_iff.mp H; obtain ⟨⟨t456, t457, t458, t459, t460⟩, A990, H⟩ := H
              replace H : ((impl_ReadBack.f kj89 t456 t457 t458 t459 t460).bind fun bt462 => ((spec_ReadBack.f kj89 t456 t457 t458 t459 t460).bind fun bt464 => (if bt462.1 = bt464.1 then (if (bt462.2 == bt464.2) = true then ((impl_AreTools.f kj89 t438).bind fun t466 => ((spec_AreTools.f kj89 t438).bind fun t467 => (some (t466 == t467)))) else (none)) else (none)))) = some r := H
              have A99 := Aside0.mk A990; clear A990; replace H := Option.bind_eq_some_iff.mp H; obtain ⟨⟨t462, t463⟩, A1000, H⟩ := H
              replace H : ((spec_ReadBack.f kj89 t456 t457 t458 t459 t460).bind fun bt464 => (if t462 = bt464.1 then (if (t463 == bt464.2) = true then ((impl_AreTools.f kj89 t438).bind fun t466 => ((spec_AreTools.f kj89 t438).bind fun t467 => (some (t466 == t467)))) else (none)) else (none))) = some r := H
              have A100 := Aside0.mk A1000; clear A1000; replace H := Option.bind_eq_some_iff.mp H; obtain ⟨⟨t464, t465⟩, A1010, H⟩ := H
              replace H : (if t462 = t464 then (if (t463 == t465) = true then ((impl_AreTools.f kj89 t438).bind fun t466 => ((spec_AreTools.f kj89 t438).bind fun t467 => (some (t466 == t467)))) else (none)) else (none)) = some r := H
              have A101 := Aside0.mk A1010; clear A1010
              by_cases c102 : t462 = t464
              ·rw [if_pos c102] at H
               have c102b0 : (t462 == t464) = true := beq_iff_eq.mpr c102
               have c102b1 : (t462 != t464) = false := bne_eq_false_iff_eq.mpr c102
               clear c102
               by_cases c103 : (t463 == t465) = true
               ·rw [if_pos c103] at H
                have c103b0 : (t463 == t465) = true := c103
                (try (have c103b1 : decide (t463 = t465) = true := by simpa using c103))
                (try (have c103b2 : (t463 == t465) = true := by simpa using c103))
                clear c103; replace H := Option.bind_eq_some_iff.mp H; obtain ⟨t466, A1040, H⟩ := H
                replace H : ((spec_AreTools.f kj89 t438).bind fun t467 => (some (t466 == t467))) = some r := H
                have A104 := Aside0.mk A1040; clear A1040; replace H := Option.bind_eq_some_iff.mp H; obtain ⟨t467, A1050, H⟩ := H
                replace H : (some (t466 == t467)) = some r := H
                have A105 := Aside0.mk A1050; clear A1050
                obtain rfl := Option.some.inj H
                go_wp2_with (first | ((with_reducible refine gate_callee (f := 74) rfl ?_); refine goesL_ (some 154) rfl rfl Try.func74 (by kernel_rfl) rfl #[.slice A0 l0.length c0] rfl gl_ ?_; (with_reducible refine (spec_DrawReadBack.calls kj89 _ _ l0 t456 t457 t458 t459 t460 _ ?side1 ?side2 A99.out).mono ?_); (case side1 => repeat (first | exact (Kd.C_below HR0.out HB.out) | (with_reducible refine Kd.C_alloc ?_ _) | (with_reducible refine Kd.C_drewN ?_ _) | (with_reducible refine Kd.C_drew ?_))); (case side2 => exact HC0.out); rintro e w106 ⟨rfl, hb⟩; refine ⟨_, rfl, ?_⟩; have n0_ := Aside0.mk (Kd.R_below (kr_ HO_15) hb); have n1_ := Aside0.mk (blk_below (bk_ BK418) hb); have n2_ := Aside0.mk (blk_below (bk_ BK424) hb); have n3_ := Aside0.mk (blk_below (bk_ BK430) hb); have n4_ := Aside0.mk (below_step bx_ hb); clear HO_15; clear BK418; clear BK424; clear BK430; clear HB; have HO_15 := n0_; have BK418 := n1_; have BK424 := n2_; have BK430 := n3_; have HB := n4_; clear n0_ n1_ n2_ n3_ n4_; (try clear hb); (try clear hk)) | ((with_reducible refine gate_dst (N := 25) rfl ?_); refine box_event ?hg (N := 25) ?hd (cs := #[.int .i64 0, .int .i64 0, .int .i64 0, .int .i64 0]) (t := 44) ?hr ?_; (case hd => rfl); (case hg => rfl); (case hr => first | (go_simp; done) | (go_simp; rfl)); intro gb461 hg w107 hbox hb; have n0_ := Aside0.mk (Kd.R_below (Kd.R_elderB (kr_ HO_15) gb461 (Nat.le_of_eq hg.symm)) hb); have n1_ := Aside0.mk (blk_below (bk_ BK418) hb); have n2_ := Aside0.mk (blk_below (bk_ BK424) hb); have n3_ := Aside0.mk (blk_below (bk_ BK430) hb); have n4_ := Aside0.mk (below_step bx_ hb); have n5_ := Aside0.mk (hbox); have n6_ := Aside0.mk ((by rw [hg]; exact (below_size bx_) : w.heap.size ≤ gb461)); have n7_ := Aside0.mk ((by rw [hg]; exact (below_size bx_) : w.heap.size ≤ gb461)); have n8_ := Aside0.mk ((by rw [hg]; exact Nat.ne_of_lt (blk_lt (g := gb418) (o := .cells #[.int .i64 t411, .int .i64 t412, .int .i64 t413, .int .i64 t414] 44 (0, 0)) (by (with_reducible repeat (first | refine blk_drewN ?_ _ | refine blk_drew ?_ | refine blk_alloc ?_ _)); exact BK418.out)) : gb418 ≠ gb461)); have n9_ := Aside0.mk ((by rw [hg]; exact Nat.ne_of_gt (blk_lt (g := gb418) (o := .cells #[.int .i64 t411, .int .i64 t412, .int .i64 t413, .int .i64 t414] 44 (0, 0)) (by (with_reducible repeat (first | refine blk_drewN ?_ _ | refine blk_drew ?_ | refine blk_alloc ?_ _)); exact BK418.out)) : gb461 ≠ gb418)); have n10_ := Aside0.mk ((by rw [hg]; exact Nat.ne_of_lt (blk_lt (g := gb424) (o := .cells #[.int .i64 t419, .int .i64 t420, .int .i64 t421, .int .i64 t422] 44 (0, 0)) (by (with_reducible repeat (first | refine blk_drewN ?_ _ | refine blk_drew ?_ | refine blk_alloc ?_ _)); exact BK424.out)) : gb424 ≠ gb461)); have n11_ := Aside0.mk ((by rw [hg]; exact Nat.ne_of_gt (blk_lt (g := gb424) (o := .cells #[.int .i64 t419, .int .i64 t420, .int .i64 t421, .int .i64 t422] 44 (0, 0)) (by (with_reducible repeat (first | refine blk_drewN ?_ _ | refine blk_drew ?_ | refine blk_alloc ?_ _)); exact BK424.out)) : gb461 ≠ gb424)); have n12_ := Aside0.mk ((by rw [hg]; exact Nat.ne_of_lt (blk_lt (g := gb430) (o := .cells #[.int .i64 t425, .int .i64 t426, .int .i64 t427, .int .i64 t428] 44 (0, 0)) (by (with_reducible repeat (first | refine blk_drewN ?_ _ | refine blk_drew ?_ | refine blk_alloc ?_ _)); exact BK430.out)) : gb430 ≠ gb461)); have n13_ := Aside0.mk ((by rw [hg]; exact Nat.ne_of_gt (blk_lt (g := gb430) (o := .cells #[.int .i64 t425, .int .i64 t426, .int .i64 t427, .int .i64 t428] 44 (0, 0)) (by (with_reducible repeat (first | refine blk_drewN ?_ _ | refine blk_drew ?_ | refine blk_alloc ?_ _)); exact BK430.out)) : gb461 ≠ gb430)); clear HO_15; clear BK418; clear BK424; clear BK430; clear HB; have HO_15 := n0_; have BK418 := n1_; have BK424 := n2_; have BK430 := n3_; have HB := n4_; have BK461 := n5_; have GW461 := n6_; have GE461 := n7_; have NB418_461 := n8_; have NB461_418 := n9_; have NB424_461 := n10_; have NB461_424 := n11_; have NB430_461 := n12_; have NB461_430 := n13_; clear n0_ n1_ n2_ n3_ n4_ n5_ n6_ n7_ n8_ n9_ n10_ n11_ n12_ n13_; clear hb hbox hg; have hnb108 := NB461_418.out; have hnc108 := NB418_461.out; have hnb109 := NB461_424.out; have hnc109 := NB424_461.out; have hnb110 := NB461_430.out; have hnc110 := NB430_461.out; have z111_0 : w107.cell? ⟨gb461, 0, none⟩ = some (.int .i64 0) := (blk_cell BK461.out 0).trans rfl; have z111_1 : w107.cell? ⟨gb461, 1, none⟩ = some (.int .i64 0) := (blk_cell BK461.out 1).trans rfl; have z111_2 : w107.cell? ⟨gb461, 2, none⟩ = some (.int .i64 0) := (blk_cell BK461.out 2).trans rfl; have z111_3 : w107.cell? ⟨gb461, 3, none⟩ = some (.int .i64 0) := (blk_cell BK461.out 3).trans rfl; have y111_0 := blk_frozen BK461.out 0; have y111_1 := blk_frozen BK461.out 1; have y111_2 := blk_frozen BK461.out 2; have y111_3 := blk_frozen BK461.out 3) | ((with_reducible refine gate_callee (f := 67) rfl ?_); refine goesL_ (some 160) rfl rfl Try.func67 (by kernel_rfl) rfl #[.agg #[.int .i64 t456, .int .i64 t457, .int .i64 t458, .int .i64 t459], .int .i64 t460] rfl gl_ ?_; (with_reducible refine (impl_ReadBack.calls kj89 t456 t457 t458 t459 t460 t462 t463 _ A100.out).mono ?_); rintro e w112 ⟨rfl, hb⟩; refine ⟨_, rfl, ?_⟩; have n0_ := Aside0.mk (Kd.R_below (by (with_reducible repeat (first | apply Kd.R_alloc | apply Kd.R_drewN | apply Kd.R_drew)); exact (Kd.R_mono (Kd.R_far (p := ⟨gb461, 3, none⟩) (Kd.R_far (p := ⟨gb461, 2, none⟩) (Kd.R_far (p := ⟨gb461, 1, none⟩) (Kd.R_far (p := ⟨gb461, 0, none⟩) (Kd.R_mono HO_15.out (fun k_ hk => (⟨hk, hk.2⟩ : _ ∧ k_ ≠ gb461))) (fun _ hk => hk.2) (.int .i64 t456)) (fun _ hk => hk.2) (.int .i64 t457)) (fun _ hk => hk.2) (.int .i64 t458)) (fun _ hk => hk.2) (.int .i64 t459)) (fun _ h_ => h_.1))) hb); have n1_ := Aside0.mk (blk_below (g := gb418) (o := .cells #[.int .i64 t411, .int .i64 t412, .int .i64 t413, .int .i64 t414] 44 (0, 0)) (by (with_reducible repeat (first | refine blk_drewN ?_ _ | refine blk_drew ?_ | refine blk_alloc ?_ _)); refine blk_far ?_ NB418_461.out _; (with_reducible repeat (first | refine blk_drewN ?_ _ | refine blk_drew ?_ | refine blk_alloc ?_ _)); refine blk_far ?_ NB418_461.out _; (with_reducible repeat (first | refine blk_drewN ?_ _ | refine blk_drew ?_ | refine blk_alloc ?_ _)); refine blk_far ?_ NB418_461.out _; (with_reducible repeat (first | refine blk_drewN ?_ _ | refine blk_drew ?_ | refine blk_alloc ?_ _)); refine blk_far ?_ NB418_461.out _; (with_reducible repeat (first | refine blk_drewN ?_ _ | refine blk_drew ?_ | refine blk_alloc ?_ _)); exact BK418.out) hb); have n2_ := Aside0.mk (blk_below (g := gb424) (o := .cells #[.int .i64 t419, .int .i64 t420, .int .i64 t421, .int .i64 t422] 44 (0, 0)) (by (with_reducible repeat (first | refine blk_drewN ?_ _ | refine blk_drew ?_ | refine blk_alloc ?_ _)); refine blk_far ?_ NB424_461.out _; (with_reducible repeat (first | refine blk_drewN ?_ _ | refine blk_drew ?_ | refine blk_alloc ?_ _)); refine blk_far ?_ NB424_461.out _; (with_reducible repeat (first | refine blk_drewN ?_ _ | refine blk_drew ?_ | refine blk_alloc ?_ _)); refine blk_far ?_ NB424_461.out _; (with_reducible repeat (first | refine blk_drewN ?_ _ | refine blk_drew ?_ | refine blk_alloc ?_ _)); refine blk_far ?_ NB424_461.out _; (with_reducible repeat (first | refine blk_drewN ?_ _ | refine blk_drew ?_ | refine blk_alloc ?_ _)); exact BK424.out) hb); have n3_ := Aside0.mk (blk_below (g := gb430) (o := .cells #[.int .i64 t425, .int .i64 t426, .int .i64 t427, .int .i64 t428] 44 (0, 0)) (by (with_reducible repeat (first | refine blk_drewN ?_ _ | refine blk_drew ?_ | refine blk_alloc ?_ _)); refine blk_far ?_ NB430_461.out _; (with_reducible repeat (first | refine blk_drewN ?_ _ | refine blk_drew ?_ | refine blk_alloc ?_ _)); refine blk_far ?_ NB430_461.out _; (with_reducible repeat (first | refine blk_drewN ?_ _ | refine blk_drew ?_ | refine blk_alloc ?_ _)); refine blk_far ?_ NB430_461.out _; (with_reducible repeat (first | refine blk_drewN ?_ _ | refine blk_drew ?_ | refine blk_alloc ?_ _)); refine blk_far ?_ NB430_461.out _; (with_reducible repeat (first | refine blk_drewN ?_ _ | refine blk_drew ?_ | refine blk_alloc ?_ _)); exact BK430.out) hb); have n4_ := Aside0.mk (blk_below (g := gb461) (o := .cells #[.int .i64 t456, .int .i64 t457, .int .i64 t458, .int .i64 t459] 44 (0, 0)) (by (with_reducible repeat (first | refine blk_drewN ?_ _ | refine blk_drew ?_ | refine blk_alloc ?_ _)); refine blk_put (cs := #[.int .i64 t456, .int .i64 t457, .int .i64 t458, .int .i64 0]) ?_ 3 _ rfl; (with_reducible repeat (first | refine blk_drewN ?_ _ | refine blk_drew ?_ | refine blk_alloc ?_ _)); refine blk_put (cs := #[.int .i64 t456, .int .i64 t457, .int .i64 0, .int .i64 0]) ?_ 2 _ rfl; (with_reducible repeat (first | refine blk_drewN ?_ _ | refine blk_drew ?_ | refine blk_alloc ?_ _)); refine blk_put (cs := #[.int .i64 t456, .int .i64 0, .int .i64 0, .int .i64 0]) ?_ 1 _ rfl; (with_reducible repeat (first | refine blk_drewN ?_ _ | refine blk_drew ?_ | refine blk_alloc ?_ _)); refine blk_put (cs := #[.int .i64 0, .int .i64 0, .int .i64 0, .int .i64 0]) ?_ 0 _ rfl; (with_reducible repeat (first | refine blk_drewN ?_ _ | refine blk_drew ?_ | refine blk_alloc ?_ _)); exact BK461.out) hb); have n5_ := Aside0.mk (below_step bx_ hb); clear HO_15; clear BK418; clear BK424; clear BK430; clear BK461; clear HB; have HO_15 := n0_; have BK418 := n1_; have BK424 := n2_; have BK430 := n3_; have BK461 := n4_; have HB := n5_; clear n0_ n1_ n2_ n3_ n4_ n5_; (try clear hb); (try clear hk); have z113_0 : w112.cell? ⟨gb461, 0, none⟩ = some (.int .i64 t456) := (blk_cell BK461.out 0).trans rfl; have z113_1 : w112.cell? ⟨gb461, 1, none⟩ = some (.int .i64 t457) := (blk_cell BK461.out 1).trans rfl; have z113_2 : w112.cell? ⟨gb461, 2, none⟩ = some (.int .i64 t458) := (blk_cell BK461.out 2).trans rfl; have z113_3 : w112.cell? ⟨gb461, 3, none⟩ = some (.int .i64 t459) := (blk_cell BK461.out 3).trans rfl; have y113_0 := blk_frozen BK461.out 0; have y113_1 := blk_frozen BK461.out 1; have y113_2 := blk_frozen BK461.out 2; have y113_3 := blk_frozen BK461.out 3) | ((with_reducible refine gate_callee (f := 75) rfl ?_); refine goesL_ (some 166) rfl rfl Try.func75 (by kernel_rfl) rfl #[.agg #[.int .i64 t456, .int .i64 t457, .int .i64 t458, .int .i64 t459], .int .i64 t460] rfl gl_ ?_; (with_reducible refine (spec_ReadBack.calls kj89 t456 t457 t458 t459 t460 t464 t465 _ A101.out).mono ?_); rintro e w114 ⟨rfl, hb⟩; refine ⟨_, rfl, ?_⟩; have n0_ := Aside0.mk (Kd.R_below (kr_ HO_15) hb); have n1_ := Aside0.mk (blk_below (bk_ BK418) hb); have n2_ := Aside0.mk (blk_below (bk_ BK424) hb); have n3_ := Aside0.mk (blk_below (bk_ BK430) hb); have n4_ := Aside0.mk (blk_below (bk_ BK461) hb); have n5_ := Aside0.mk (below_step bx_ hb); clear HO_15; clear BK418; clear BK424; clear BK430; clear BK461; clear HB; have HO_15 := n0_; have BK418 := n1_; have BK424 := n2_; have BK430 := n3_; have BK461 := n4_; have HB := n5_; clear n0_ n1_ n2_ n3_ n4_ n5_; (try clear hb); (try clear hk)) | (go_at_call 73; (with_reducible refine (impl_AreTools.calls kj89 _ _ t438 t466 _ ?side1 ?side2 A104.out).mono ?_); (case side1 => repeat (first | exact (Kd.R_reads' HO_15.out).2.2 | (with_reducible refine Kd.C_alloc ?_ _) | (with_reducible refine Kd.C_drewN ?_ _) | (with_reducible refine Kd.C_drew ?_))); (case side2 => exact (Kd.R_reads' HO_15.out).2.1); rintro e w115 ⟨rfl, hb⟩; have n0_ := Aside0.mk (Kd.R_below (kr_ HO_15) hb); have n1_ := Aside0.mk (blk_below (bk_ BK418) hb); have n2_ := Aside0.mk (blk_below (bk_ BK424) hb); have n3_ := Aside0.mk (blk_below (bk_ BK430) hb); have n4_ := Aside0.mk (blk_below (bk_ BK461) hb); have n5_ := Aside0.mk (below_step bx_ hb); clear HO_15; clear BK418; clear BK424; clear BK430; clear BK461; clear HB; have HO_15 := n0_; have BK418 := n1_; have BK424 := n2_; have BK430 := n3_; have BK461 := n4_; have HB := n5_; clear n0_ n1_ n2_ n3_ n4_ n5_; (try clear hb); (try clear hk)) | (go_at_call 76; (with_reducible refine (spec_AreTools.calls kj89 _ _ t438 t467 _ ?side1 ?side2 A105.out).mono ?_); (case side1 => repeat (first | exact (Kd.R_reads' HO_15.out).2.2 | (with_reducible refine Kd.C_alloc ?_ _) | (with_reducible refine Kd.C_drewN ?_ _) | (with_reducible refine Kd.C_drew ?_))); (case side2 => exact (Kd.R_reads' HO_15.out).2.1); rintro e w116 ⟨rfl, hb⟩; have n0_ := Aside0.mk (Kd.R_below (kr_ HO_15) hb); have n1_ := Aside0.mk (blk_below (bk_ BK418) hb); have n2_ := Aside0.mk (blk_below (bk_ BK424) hb); have n3_ := Aside0.mk (blk_below (bk_ BK430) hb); have n4_ := Aside0.mk (blk_below (bk_ BK461) hb); have n5_ := Aside0.mk (below_step bx_ hb); clear HO_15; clear BK418; clear BK424; clear BK430; clear BK461; clear HB; have HO_15 := n0_; have BK418 := n1_; have BK424 := n2_; have BK430 := n3_; have BK461 := n4_; have HB := n5_; clear n0_ n1_ n2_ n3_ n4_ n5_; (try clear hb); (try clear hk)))
                go_ret
                exact ⟨by first | rfl | (simp <;> rfl) | (simp [*] <;> rfl), by repeat (first | (with_reducible first | exact HB.out | apply below_alloc | apply pw_below_drewN | apply below_drew1 | refine below_set ?_ GE418.out | refine below_set ?_ GE424.out | refine below_set ?_ GE430.out | refine below_set ?_ GE461.out) | exact HB.out)⟩
               ·rw [if_neg c103] at H
                exact absurd H (by simp)
              ·rw [if_neg c102] at H
               exact absurd H (by simp)

end Go.Proofs.Ytpfmhoikhnhdcaa.XFnToolKinds
