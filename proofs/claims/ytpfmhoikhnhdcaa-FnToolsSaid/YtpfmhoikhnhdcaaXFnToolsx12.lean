/- Contracts of the functions that the law FnTools comes to: each is told as a plain function of its arguments, and the machine's call does what that function says; no condition. Written by programs (print.py, xprint.py); Lean checks it. -/
import Derived.Test.YtpfmhoikhnhdcaaXFnToolsx0
import Derived.Test.YtpfmhoikhnhdcaaXFnToolsx1
import Derived.Test.YtpfmhoikhnhdcaaXFnToolsx3
import Derived.Test.YtpfmhoikhnhdcaaXFnToolsx4
import Derived.Test.YtpfmhoikhnhdcaaXFnToolsx5
import Derived.Test.YtpfmhoikhnhdcaaXFnToolsx6
import Derived.Test.YtpfmhoikhnhdcaaXFnToolsx7
import Derived.Test.YtpfmhoikhnhdcaaXFnToolsx8
import Derived.Test.YtpfmhoikhnhdcaaXFnToolsx9
import Derived.Test.YtpfmhoikhnhdcaaXFnToolsx11
namespace Go.Proofs.Ytpfmhoikhnhdcaa.XFnTools
open Go.RowKit Go.Proofs.YtpfmhoikhnhdcaaW.PrintWords Go.Proofs.YtpfmhoikhnhdcaaW.PrintLast Go.Proofs.YtpfmhoikhnhdcaaW.PrintMore
attribute [local go_sem] max2_int min2_int max_two min_two max_three min_three max_four min_four   -- for this text's walks alone
set_option linter.unusedVariables false
set_option linter.unusedSimpArgs false

attribute [local go_sem high] eqA44
/-! ### laws_FnTools: function 13 -/
mutual
def laws_FnTools.j0 : Nat → List Int → Int → Int → Bool → Bool → Int → Int → Int → Int → Option (Bool)
 | 0, _, _, _, _, _, _, _, _, _ => none
 | k + 1, x0, x4, x5, x6, x70, x382000, x382001, x382002, x382003 => if x70 = true then (none) else (if x6 = true then ((impl_ReadBack.f k x382000 x382001 x382002 x382003 x5).bind fun bt388 => ((impl_CorrectReading.f k x382000 x382001 x382002 x382003 bt388.1).bind fun bt390 => (if bt388.2 = true then (if bt390.2 = true then (if bt390.1 = x5 then (if bt388.1 > x4 then (none) else (laws_FnTools.j1 k x0)) else (none)) else (none)) else (none)))) else (laws_FnTools.j1 k x0))
def laws_FnTools.j1 : Nat → List Int → Option (Bool)
 | 0, _ => none
 | k + 1, x0 => (spec_DrawFitZero.f k x0).bind fun bt392 => ((impl_FitZero.f k bt392.1 bt392.2.1 bt392.2.2.1 bt392.2.2.2.1 bt392.2.2.2.2).bind fun bt400 => ((spec_FitZero.f k bt392.1 bt392.2.1 bt392.2.2.1 bt392.2.2.2.1 bt392.2.2.2.2).bind fun bt406 => (if (!(bt400.1 == bt406.1) || (!(bt400.2.1 == bt406.2.1) || (!(bt400.2.2.1 == bt406.2.2.1) || (!(bt400.2.2.2.1 == bt406.2.2.2.1))))) = true then (laws_FnTools.j2 k x0 bt392.2.2.2.2 bt400.2.2.2.2 true bt392.1 bt392.2.1 bt392.2.2.1 bt392.2.2.2.1 bt400.1 bt400.2.1 bt400.2.2.1 bt400.2.2.2.1) else (laws_FnTools.j2 k x0 bt392.2.2.2.2 bt400.2.2.2.2 (bt400.2.2.2.2 != bt406.2.2.2.2) bt392.1 bt392.2.1 bt392.2.2.1 bt392.2.2.2.1 bt400.1 bt400.2.1 bt400.2.2.1 bt400.2.2.2.1))))
def laws_FnTools.j2 : Nat → List Int → List (S46) → Bool → Bool → Int → Int → Int → Int → Int → Int → Int → Int → Option (Bool)
 | 0, _, _, _, _, _, _, _, _, _, _, _, _ => none
 | k + 1, x0, x14, x16, x124, x400000, x400001, x400002, x400003, x406000, x406001, x406002, x406003 => if x124 = true then (none) else ((impl_WorstCheck.f k x400000 x400001 x400002 x400003 x14).bind fun bt412 => ((spec_WorstCheck.f k x400000 x400001 x400002 x400003 x14).bind fun bt415 => (if bt412.1 = bt415.1 then (if bt412.2.1 = bt415.2.1 then (laws_FnTools.j3 k x0 x14 x16 bt412.2.1 bt412.2.2 (bt412.2.2 != bt415.2.2) x400000 x400001 x400002 x400003 x406000 x406001 x406002 x406003) else (laws_FnTools.j3 k x0 x14 x16 bt412.2.1 bt412.2.2 true x400000 x400001 x400002 x400003 x406000 x406001 x406002 x406003)) else (laws_FnTools.j3 k x0 x14 x16 bt412.2.1 bt412.2.2 true x400000 x400001 x400002 x400003 x406000 x406001 x406002 x406003))))
def laws_FnTools.j3 : Nat → List Int → List (S46) → Bool → Int → Bool → Bool → Int → Int → Int → Int → Int → Int → Int → Int → Option (Bool)
 | 0, _, _, _, _, _, _, _, _, _, _, _, _, _, _ => none
 | k + 1, x0, x14, x16, x20, x21, x151, x400000, x400001, x400002, x400003, x406000, x406001, x406002, x406003 => if x151 = true then (none) else (if x21 = true then ((impl_WorstCheck.f k x406000 x406001 x406002 x406003 x14).bind fun bt418 => (if x16 = true then (if bt418.2.2 = true then (laws_FnTools.j4 k x0 x14 x20 (decide (bt418.2.1 > x20)) x400000 x400001 x400002 x400003) else (laws_FnTools.j4 k x0 x14 x20 true x400000 x400001 x400002 x400003)) else (laws_FnTools.j4 k x0 x14 x20 true x400000 x400001 x400002 x400003))) else ((spec_DrawCheckError.f k x0).bind fun bt436 => ((impl_CheckError.f k bt436.1 bt436.2.1 bt436.2.2.1 bt436.2.2.2.1 bt436.2.2.2.2.1 bt436.2.2.2.2.2).bind fun bt444 => ((spec_CheckError.f k bt436.1 bt436.2.1 bt436.2.2.1 bt436.2.2.2.1 bt436.2.2.2.2.1 bt436.2.2.2.2.2).bind fun bt446 => (if bt444.1 = bt446.1 then (some (bt444.2 == bt446.2)) else (none))))))
def laws_FnTools.j4 : Nat → List Int → List (S46) → Int → Bool → Int → Int → Int → Int → Option (Bool)
 | 0, _, _, _, _, _, _, _, _ => none
 | k + 1, x0, x14, x20, x170, x400000, x400001, x400002, x400003 => if x170 = true then (none) else (laws_FnTools.l0 k x0 x14 x20 0 x400000 x400001 x400002 x400003)
def laws_FnTools.l0 : Nat → List Int → List (S46) → Int → Int → Int → Int → Int → Int → Option (Bool)
 | 0, _, _, _, _, _, _, _, _ => none
 | k + 1, x0, x14, x20, x28, x400000, x400001, x400002, x400003 => if x28 < (x14.length : Int) then (if 0 ≤ x28 then ((impl_CheckError.f k x400000 x400001 x400002 x400003 ((rd_T46 x14 x28).f0) ((rd_T46 x14 x28).f1)).bind fun bt422 => (if bt422.2 = true then (if bt422.1 > x20 then (none) else (if (wrap64 (-bt422.1)) > x20 then (none) else (laws_FnTools.l0 k x0 x14 x20 (wrap64 (x28 + 1)) x400000 x400001 x400002 x400003))) else (none))) else (none)) else ((spec_DrawCheckError.f k x0).bind fun bt424 => ((impl_CheckError.f k bt424.1 bt424.2.1 bt424.2.2.1 bt424.2.2.2.1 bt424.2.2.2.2.1 bt424.2.2.2.2.2).bind fun bt432 => ((spec_CheckError.f k bt424.1 bt424.2.1 bt424.2.2.1 bt424.2.2.2.1 bt424.2.2.2.2.1 bt424.2.2.2.2.2).bind fun bt434 => (if bt432.1 = bt434.1 then (some (bt432.2 == bt434.2)) else (none)))))
end
def laws_FnTools.f (k : Nat) (l0 : List Int) : Option (Bool) := (laws_rBig.f l0).bind fun t375 => (if t375 = true then (some true) else ((spec_DrawCorrectReading.f k l0).bind fun bt376 => ((impl_CorrectReading.f k bt376.1 bt376.2.1 bt376.2.2.1 bt376.2.2.2.1 bt376.2.2.2.2).bind fun bt382 => ((spec_CorrectReading.f k bt376.1 bt376.2.1 bt376.2.2.1 bt376.2.2.2.1 bt376.2.2.2.2).bind fun bt384 => (if bt382.1 = bt384.1 then (if (bt382.2 != bt384.2) = true then (laws_FnTools.j0 k l0 bt376.2.2.2.2 bt382.1 bt382.2 true bt376.1 bt376.2.1 bt376.2.2.1 bt376.2.2.2.1) else ((impl_IsTool.f k bt376.1 bt376.2.1 bt376.2.2.1 bt376.2.2.2.1).bind fun t386 => ((spec_IsTool.f bt376.1 bt376.2.1 bt376.2.2.1 bt376.2.2.2.1).bind fun t387 => (laws_FnTools.j0 k l0 bt376.2.2.2.2 bt382.1 bt382.2 (t386 != t387) bt376.1 bt376.2.1 bt376.2.2.1 bt376.2.2.2.1)))) else (laws_FnTools.j0 k l0 bt376.2.2.2.2 bt382.1 bt382.2 true bt376.1 bt376.2.1 bt376.2.2.1 bt376.2.2.2.1))))))
theorem laws_FnTools.mono_l : ∀ k, (∀ y0 y1 y2 y3 y4 y5 y6 y7 y8, LeO (laws_FnTools.j0 k y0 y1 y2 y3 y4 y5 y6 y7 y8) (laws_FnTools.j0 (k + 1) y0 y1 y2 y3 y4 y5 y6 y7 y8)) ∧ (∀ y0, LeO (laws_FnTools.j1 k y0) (laws_FnTools.j1 (k + 1) y0)) ∧ (∀ y0 y1 y2 y3 y4 y5 y6 y7 y8 y9 y10 y11, LeO (laws_FnTools.j2 k y0 y1 y2 y3 y4 y5 y6 y7 y8 y9 y10 y11) (laws_FnTools.j2 (k + 1) y0 y1 y2 y3 y4 y5 y6 y7 y8 y9 y10 y11)) ∧ (∀ y0 y1 y2 y3 y4 y5 y6 y7 y8 y9 y10 y11 y12 y13, LeO (laws_FnTools.j3 k y0 y1 y2 y3 y4 y5 y6 y7 y8 y9 y10 y11 y12 y13) (laws_FnTools.j3 (k + 1) y0 y1 y2 y3 y4 y5 y6 y7 y8 y9 y10 y11 y12 y13)) ∧ (∀ y0 y1 y2 y3 y4 y5 y6 y7, LeO (laws_FnTools.j4 k y0 y1 y2 y3 y4 y5 y6 y7) (laws_FnTools.j4 (k + 1) y0 y1 y2 y3 y4 y5 y6 y7)) ∧ (∀ y0 y1 y2 y3 y4 y5 y6 y7, LeO (laws_FnTools.l0 k y0 y1 y2 y3 y4 y5 y6 y7) (laws_FnTools.l0 (k + 1) y0 y1 y2 y3 y4 y5 y6 y7))
 | 0 => ⟨fun _ _ _ _ _ _ _ _ _ r h => by simp [laws_FnTools.j0] at h, fun _ r h => by simp [laws_FnTools.j1] at h, fun _ _ _ _ _ _ _ _ _ _ _ _ r h => by simp [laws_FnTools.j2] at h, fun _ _ _ _ _ _ _ _ _ _ _ _ _ _ r h => by simp [laws_FnTools.j3] at h, fun _ _ _ _ _ _ _ _ r h => by simp [laws_FnTools.j4] at h, fun _ _ _ _ _ _ _ _ r h => by simp [laws_FnTools.l0] at h⟩
 | k + 1 => by
  obtain ⟨ih0, ih1, ih2, ih3, ih4, ih5⟩ := laws_FnTools.mono_l k
  refine ⟨?_, ?_, ?_, ?_, ?_, ?_⟩
  ·intro y0 y1 y2 y3 y4 y5 y6 y7 y8
   unfold laws_FnTools.j0
   repeat' first
   | (with_reducible exact ih0 _ _ _ _ _ _ _ _ _)
   | (with_reducible exact ih1 _)
   | (with_reducible exact ih2 _ _ _ _ _ _ _ _ _ _ _ _)
   | (with_reducible exact ih3 _ _ _ _ _ _ _ _ _ _ _ _ _ _)
   | (with_reducible exact ih4 _ _ _ _ _ _ _ _)
   | (with_reducible exact ih5 _ _ _ _ _ _ _ _)
   | (with_reducible exact impl_CheckError.mono _ _ _ _ _ _ _)
   | (with_reducible exact impl_CorrectReading.mono _ _ _ _ _ _)
   | (with_reducible exact impl_FitZero.mono _ _ _ _ _ _)
   | (with_reducible exact impl_IsTool.mono _ _ _ _ _)
   | (with_reducible exact impl_ReadBack.mono _ _ _ _ _ _)
   | (with_reducible exact impl_WorstCheck.mono _ _ _ _ _ _)
   | (with_reducible exact spec_CheckError.mono _ _ _ _ _ _ _)
   | (with_reducible exact spec_CorrectReading.mono _ _ _ _ _ _)
   | (with_reducible exact spec_DrawCheckError.mono _ _)
   | (with_reducible exact spec_DrawCorrectReading.mono _ _)
   | (with_reducible exact spec_DrawFitZero.mono _ _)
   | (with_reducible exact spec_FitZero.mono _ _ _ _ _ _)
   | (with_reducible exact spec_WorstCheck.mono _ _ _ _ _ _)
   | (with_reducible exact LeO.refl _)
   | (with_reducible exact LeO.none _)
   | (with_reducible refine LeO.ite ?_ ?_)
   | (with_reducible refine LeO.bind ?_ (fun _ => ?_))
   | exact ih0 _ _ _ _ _ _ _ _ _
   | exact ih1 _
   | exact ih2 _ _ _ _ _ _ _ _ _ _ _ _
   | exact ih3 _ _ _ _ _ _ _ _ _ _ _ _ _ _
   | exact ih4 _ _ _ _ _ _ _ _
   | exact ih5 _ _ _ _ _ _ _ _
   | exact impl_CheckError.mono _ _ _ _ _ _ _
   | exact impl_CorrectReading.mono _ _ _ _ _ _
   | exact impl_FitZero.mono _ _ _ _ _ _
   | exact impl_IsTool.mono _ _ _ _ _
   | exact impl_ReadBack.mono _ _ _ _ _ _
   | exact impl_WorstCheck.mono _ _ _ _ _ _
   | exact spec_CheckError.mono _ _ _ _ _ _ _
   | exact spec_CorrectReading.mono _ _ _ _ _ _
   | exact spec_DrawCheckError.mono _ _
   | exact spec_DrawCorrectReading.mono _ _
   | exact spec_DrawFitZero.mono _ _
   | exact spec_FitZero.mono _ _ _ _ _ _
   | exact spec_WorstCheck.mono _ _ _ _ _ _
   | exact LeO.none _
   | refine LeO.ite ?_ ?_
   | refine LeO.bind ?_ (fun _ => ?_)
  ·intro y0
   unfold laws_FnTools.j1
   repeat' first
   | (with_reducible exact ih0 _ _ _ _ _ _ _ _ _)
   | (with_reducible exact ih1 _)
   | (with_reducible exact ih2 _ _ _ _ _ _ _ _ _ _ _ _)
   | (with_reducible exact ih3 _ _ _ _ _ _ _ _ _ _ _ _ _ _)
   | (with_reducible exact ih4 _ _ _ _ _ _ _ _)
   | (with_reducible exact ih5 _ _ _ _ _ _ _ _)
   | (with_reducible exact impl_CheckError.mono _ _ _ _ _ _ _)
   | (with_reducible exact impl_CorrectReading.mono _ _ _ _ _ _)
   | (with_reducible exact impl_FitZero.mono _ _ _ _ _ _)
   | (with_reducible exact impl_IsTool.mono _ _ _ _ _)
   | (with_reducible exact impl_ReadBack.mono _ _ _ _ _ _)
   | (with_reducible exact impl_WorstCheck.mono _ _ _ _ _ _)
   | (with_reducible exact spec_CheckError.mono _ _ _ _ _ _ _)
   | (with_reducible exact spec_CorrectReading.mono _ _ _ _ _ _)
   | (with_reducible exact spec_DrawCheckError.mono _ _)
   | (with_reducible exact spec_DrawCorrectReading.mono _ _)
   | (with_reducible exact spec_DrawFitZero.mono _ _)
   | (with_reducible exact spec_FitZero.mono _ _ _ _ _ _)
   | (with_reducible exact spec_WorstCheck.mono _ _ _ _ _ _)
   | (with_reducible exact LeO.refl _)
   | (with_reducible exact LeO.none _)
   | (with_reducible refine LeO.ite ?_ ?_)
   | (with_reducible refine LeO.bind ?_ (fun _ => ?_))
   | exact ih0 _ _ _ _ _ _ _ _ _
   | exact ih1 _
   | exact ih2 _ _ _ _ _ _ _ _ _ _ _ _
   | exact ih3 _ _ _ _ _ _ _ _ _ _ _ _ _ _
   | exact ih4 _ _ _ _ _ _ _ _
   | exact ih5 _ _ _ _ _ _ _ _
   | exact impl_CheckError.mono _ _ _ _ _ _ _
   | exact impl_CorrectReading.mono _ _ _ _ _ _
   | exact impl_FitZero.mono _ _ _ _ _ _
   | exact impl_IsTool.mono _ _ _ _ _
   | exact impl_ReadBack.mono _ _ _ _ _ _
   | exact impl_WorstCheck.mono _ _ _ _ _ _
   | exact spec_CheckError.mono _ _ _ _ _ _ _
   | exact spec_CorrectReading.mono _ _ _ _ _ _
   | exact spec_DrawCheckError.mono _ _
   | exact spec_DrawCorrectReading.mono _ _
   | exact spec_DrawFitZero.mono _ _
   | exact spec_FitZero.mono _ _ _ _ _ _
   | exact spec_WorstCheck.mono _ _ _ _ _ _
   | exact LeO.none _
   | refine LeO.ite ?_ ?_
   | refine LeO.bind ?_ (fun _ => ?_)
  ·intro y0 y1 y2 y3 y4 y5 y6 y7 y8 y9 y10 y11
   unfold laws_FnTools.j2
   repeat' first
   | (with_reducible exact ih0 _ _ _ _ _ _ _ _ _)
   | (with_reducible exact ih1 _)
   | (with_reducible exact ih2 _ _ _ _ _ _ _ _ _ _ _ _)
   | (with_reducible exact ih3 _ _ _ _ _ _ _ _ _ _ _ _ _ _)
   | (with_reducible exact ih4 _ _ _ _ _ _ _ _)
   | (with_reducible exact ih5 _ _ _ _ _ _ _ _)
   | (with_reducible exact impl_CheckError.mono _ _ _ _ _ _ _)
   | (with_reducible exact impl_CorrectReading.mono _ _ _ _ _ _)
   | (with_reducible exact impl_FitZero.mono _ _ _ _ _ _)
   | (with_reducible exact impl_IsTool.mono _ _ _ _ _)
   | (with_reducible exact impl_ReadBack.mono _ _ _ _ _ _)
   | (with_reducible exact impl_WorstCheck.mono _ _ _ _ _ _)
   | (with_reducible exact spec_CheckError.mono _ _ _ _ _ _ _)
   | (with_reducible exact spec_CorrectReading.mono _ _ _ _ _ _)
   | (with_reducible exact spec_DrawCheckError.mono _ _)
   | (with_reducible exact spec_DrawCorrectReading.mono _ _)
   | (with_reducible exact spec_DrawFitZero.mono _ _)
   | (with_reducible exact spec_FitZero.mono _ _ _ _ _ _)
   | (with_reducible exact spec_WorstCheck.mono _ _ _ _ _ _)
   | (with_reducible exact LeO.refl _)
   | (with_reducible exact LeO.none _)
   | (with_reducible refine LeO.ite ?_ ?_)
   | (with_reducible refine LeO.bind ?_ (fun _ => ?_))
   | exact ih0 _ _ _ _ _ _ _ _ _
   | exact ih1 _
   | exact ih2 _ _ _ _ _ _ _ _ _ _ _ _
   | exact ih3 _ _ _ _ _ _ _ _ _ _ _ _ _ _
   | exact ih4 _ _ _ _ _ _ _ _
   | exact ih5 _ _ _ _ _ _ _ _
   | exact impl_CheckError.mono _ _ _ _ _ _ _
   | exact impl_CorrectReading.mono _ _ _ _ _ _
   | exact impl_FitZero.mono _ _ _ _ _ _
   | exact impl_IsTool.mono _ _ _ _ _
   | exact impl_ReadBack.mono _ _ _ _ _ _
   | exact impl_WorstCheck.mono _ _ _ _ _ _
   | exact spec_CheckError.mono _ _ _ _ _ _ _
   | exact spec_CorrectReading.mono _ _ _ _ _ _
   | exact spec_DrawCheckError.mono _ _
   | exact spec_DrawCorrectReading.mono _ _
   | exact spec_DrawFitZero.mono _ _
   | exact spec_FitZero.mono _ _ _ _ _ _
   | exact spec_WorstCheck.mono _ _ _ _ _ _
   | exact LeO.none _
   | refine LeO.ite ?_ ?_
   | refine LeO.bind ?_ (fun _ => ?_)
  ·intro y0 y1 y2 y3 y4 y5 y6 y7 y8 y9 y10 y11 y12 y13
   unfold laws_FnTools.j3
   repeat' first
   | (with_reducible exact ih0 _ _ _ _ _ _ _ _ _)
   | (with_reducible exact ih1 _)
   | (with_reducible exact ih2 _ _ _ _ _ _ _ _ _ _ _ _)
   | (with_reducible exact ih3 _ _ _ _ _ _ _ _ _ _ _ _ _ _)
   | (with_reducible exact ih4 _ _ _ _ _ _ _ _)
   | (with_reducible exact ih5 _ _ _ _ _ _ _ _)
   | (with_reducible exact impl_CheckError.mono _ _ _ _ _ _ _)
   | (with_reducible exact impl_CorrectReading.mono _ _ _ _ _ _)
   | (with_reducible exact impl_FitZero.mono _ _ _ _ _ _)
   | (with_reducible exact impl_IsTool.mono _ _ _ _ _)
   | (with_reducible exact impl_ReadBack.mono _ _ _ _ _ _)
   | (with_reducible exact impl_WorstCheck.mono _ _ _ _ _ _)
   | (with_reducible exact spec_CheckError.mono _ _ _ _ _ _ _)
   | (with_reducible exact spec_CorrectReading.mono _ _ _ _ _ _)
   | (with_reducible exact spec_DrawCheckError.mono _ _)
   | (with_reducible exact spec_DrawCorrectReading.mono _ _)
   | (with_reducible exact spec_DrawFitZero.mono _ _)
   | (with_reducible exact spec_FitZero.mono _ _ _ _ _ _)
   | (with_reducible exact spec_WorstCheck.mono _ _ _ _ _ _)
   | (with_reducible exact LeO.refl _)
   | (with_reducible exact LeO.none _)
   | (with_reducible refine LeO.ite ?_ ?_)
   | (with_reducible refine LeO.bind ?_ (fun _ => ?_))
   | exact ih0 _ _ _ _ _ _ _ _ _
   | exact ih1 _
   | exact ih2 _ _ _ _ _ _ _ _ _ _ _ _
   | exact ih3 _ _ _ _ _ _ _ _ _ _ _ _ _ _
   | exact ih4 _ _ _ _ _ _ _ _
   | exact ih5 _ _ _ _ _ _ _ _
   | exact impl_CheckError.mono _ _ _ _ _ _ _
   | exact impl_CorrectReading.mono _ _ _ _ _ _
   | exact impl_FitZero.mono _ _ _ _ _ _
   | exact impl_IsTool.mono _ _ _ _ _
   | exact impl_ReadBack.mono _ _ _ _ _ _
   | exact impl_WorstCheck.mono _ _ _ _ _ _
   | exact spec_CheckError.mono _ _ _ _ _ _ _
   | exact spec_CorrectReading.mono _ _ _ _ _ _
   | exact spec_DrawCheckError.mono _ _
   | exact spec_DrawCorrectReading.mono _ _
   | exact spec_DrawFitZero.mono _ _
   | exact spec_FitZero.mono _ _ _ _ _ _
   | exact spec_WorstCheck.mono _ _ _ _ _ _
   | exact LeO.none _
   | refine LeO.ite ?_ ?_
   | refine LeO.bind ?_ (fun _ => ?_)
  ·intro y0 y1 y2 y3 y4 y5 y6 y7
   unfold laws_FnTools.j4
   repeat' first
   | (with_reducible exact ih0 _ _ _ _ _ _ _ _ _)
   | (with_reducible exact ih1 _)
   | (with_reducible exact ih2 _ _ _ _ _ _ _ _ _ _ _ _)
   | (with_reducible exact ih3 _ _ _ _ _ _ _ _ _ _ _ _ _ _)
   | (with_reducible exact ih4 _ _ _ _ _ _ _ _)
   | (with_reducible exact ih5 _ _ _ _ _ _ _ _)
   | (with_reducible exact impl_CheckError.mono _ _ _ _ _ _ _)
   | (with_reducible exact impl_CorrectReading.mono _ _ _ _ _ _)
   | (with_reducible exact impl_FitZero.mono _ _ _ _ _ _)
   | (with_reducible exact impl_IsTool.mono _ _ _ _ _)
   | (with_reducible exact impl_ReadBack.mono _ _ _ _ _ _)
   | (with_reducible exact impl_WorstCheck.mono _ _ _ _ _ _)
   | (with_reducible exact spec_CheckError.mono _ _ _ _ _ _ _)
   | (with_reducible exact spec_CorrectReading.mono _ _ _ _ _ _)
   | (with_reducible exact spec_DrawCheckError.mono _ _)
   | (with_reducible exact spec_DrawCorrectReading.mono _ _)
   | (with_reducible exact spec_DrawFitZero.mono _ _)
   | (with_reducible exact spec_FitZero.mono _ _ _ _ _ _)
   | (with_reducible exact spec_WorstCheck.mono _ _ _ _ _ _)
   | (with_reducible exact LeO.refl _)
   | (with_reducible exact LeO.none _)
   | (with_reducible refine LeO.ite ?_ ?_)
   | (with_reducible refine LeO.bind ?_ (fun _ => ?_))
   | exact ih0 _ _ _ _ _ _ _ _ _
   | exact ih1 _
   | exact ih2 _ _ _ _ _ _ _ _ _ _ _ _
   | exact ih3 _ _ _ _ _ _ _ _ _ _ _ _ _ _
   | exact ih4 _ _ _ _ _ _ _ _
   | exact ih5 _ _ _ _ _ _ _ _
   | exact impl_CheckError.mono _ _ _ _ _ _ _
   | exact impl_CorrectReading.mono _ _ _ _ _ _
   | exact impl_FitZero.mono _ _ _ _ _ _
   | exact impl_IsTool.mono _ _ _ _ _
   | exact impl_ReadBack.mono _ _ _ _ _ _
   | exact impl_WorstCheck.mono _ _ _ _ _ _
   | exact spec_CheckError.mono _ _ _ _ _ _ _
   | exact spec_CorrectReading.mono _ _ _ _ _ _
   | exact spec_DrawCheckError.mono _ _
   | exact spec_DrawCorrectReading.mono _ _
   | exact spec_DrawFitZero.mono _ _
   | exact spec_FitZero.mono _ _ _ _ _ _
   | exact spec_WorstCheck.mono _ _ _ _ _ _
   | exact LeO.none _
   | refine LeO.ite ?_ ?_
   | refine LeO.bind ?_ (fun _ => ?_)
  ·intro y0 y1 y2 y3 y4 y5 y6 y7
   unfold laws_FnTools.l0
   repeat' first
   | (with_reducible exact ih0 _ _ _ _ _ _ _ _ _)
   | (with_reducible exact ih1 _)
   | (with_reducible exact ih2 _ _ _ _ _ _ _ _ _ _ _ _)
   | (with_reducible exact ih3 _ _ _ _ _ _ _ _ _ _ _ _ _ _)
   | (with_reducible exact ih4 _ _ _ _ _ _ _ _)
   | (with_reducible exact ih5 _ _ _ _ _ _ _ _)
   | (with_reducible exact impl_CheckError.mono _ _ _ _ _ _ _)
   | (with_reducible exact impl_CorrectReading.mono _ _ _ _ _ _)
   | (with_reducible exact impl_FitZero.mono _ _ _ _ _ _)
   | (with_reducible exact impl_IsTool.mono _ _ _ _ _)
   | (with_reducible exact impl_ReadBack.mono _ _ _ _ _ _)
   | (with_reducible exact impl_WorstCheck.mono _ _ _ _ _ _)
   | (with_reducible exact spec_CheckError.mono _ _ _ _ _ _ _)
   | (with_reducible exact spec_CorrectReading.mono _ _ _ _ _ _)
   | (with_reducible exact spec_DrawCheckError.mono _ _)
   | (with_reducible exact spec_DrawCorrectReading.mono _ _)
   | (with_reducible exact spec_DrawFitZero.mono _ _)
   | (with_reducible exact spec_FitZero.mono _ _ _ _ _ _)
   | (with_reducible exact spec_WorstCheck.mono _ _ _ _ _ _)
   | (with_reducible exact LeO.refl _)
   | (with_reducible exact LeO.none _)
   | (with_reducible refine LeO.ite ?_ ?_)
   | (with_reducible refine LeO.bind ?_ (fun _ => ?_))
   | exact ih0 _ _ _ _ _ _ _ _ _
   | exact ih1 _
   | exact ih2 _ _ _ _ _ _ _ _ _ _ _ _
   | exact ih3 _ _ _ _ _ _ _ _ _ _ _ _ _ _
   | exact ih4 _ _ _ _ _ _ _ _
   | exact ih5 _ _ _ _ _ _ _ _
   | exact impl_CheckError.mono _ _ _ _ _ _ _
   | exact impl_CorrectReading.mono _ _ _ _ _ _
   | exact impl_FitZero.mono _ _ _ _ _ _
   | exact impl_IsTool.mono _ _ _ _ _
   | exact impl_ReadBack.mono _ _ _ _ _ _
   | exact impl_WorstCheck.mono _ _ _ _ _ _
   | exact spec_CheckError.mono _ _ _ _ _ _ _
   | exact spec_CorrectReading.mono _ _ _ _ _ _
   | exact spec_DrawCheckError.mono _ _
   | exact spec_DrawCorrectReading.mono _ _
   | exact spec_DrawFitZero.mono _ _
   | exact spec_FitZero.mono _ _ _ _ _ _
   | exact spec_WorstCheck.mono _ _ _ _ _ _
   | exact LeO.none _
   | refine LeO.ite ?_ ?_
   | refine LeO.bind ?_ (fun _ => ?_)
theorem laws_FnTools.mono : ∀ a0 k, LeO (laws_FnTools.f k a0) (laws_FnTools.f (k + 1) a0) := by
 intro a0 k
 obtain ⟨ih0, ih1, ih2, ih3, ih4, ih5⟩ := laws_FnTools.mono_l k
 unfold laws_FnTools.f
 repeat' first
   | (with_reducible exact ih0 _ _ _ _ _ _ _ _ _)
   | (with_reducible exact ih1 _)
   | (with_reducible exact ih2 _ _ _ _ _ _ _ _ _ _ _ _)
   | (with_reducible exact ih3 _ _ _ _ _ _ _ _ _ _ _ _ _ _)
   | (with_reducible exact ih4 _ _ _ _ _ _ _ _)
   | (with_reducible exact ih5 _ _ _ _ _ _ _ _)
   | (with_reducible exact impl_CheckError.mono _ _ _ _ _ _ _)
   | (with_reducible exact impl_CorrectReading.mono _ _ _ _ _ _)
   | (with_reducible exact impl_FitZero.mono _ _ _ _ _ _)
   | (with_reducible exact impl_IsTool.mono _ _ _ _ _)
   | (with_reducible exact impl_ReadBack.mono _ _ _ _ _ _)
   | (with_reducible exact impl_WorstCheck.mono _ _ _ _ _ _)
   | (with_reducible exact spec_CheckError.mono _ _ _ _ _ _ _)
   | (with_reducible exact spec_CorrectReading.mono _ _ _ _ _ _)
   | (with_reducible exact spec_DrawCheckError.mono _ _)
   | (with_reducible exact spec_DrawCorrectReading.mono _ _)
   | (with_reducible exact spec_DrawFitZero.mono _ _)
   | (with_reducible exact spec_FitZero.mono _ _ _ _ _ _)
   | (with_reducible exact spec_WorstCheck.mono _ _ _ _ _ _)
   | (with_reducible exact LeO.refl _)
   | (with_reducible exact LeO.none _)
   | (with_reducible refine LeO.ite ?_ ?_)
   | (with_reducible refine LeO.bind ?_ (fun _ => ?_))
   | exact ih0 _ _ _ _ _ _ _ _ _
   | exact ih1 _
   | exact ih2 _ _ _ _ _ _ _ _ _ _ _ _
   | exact ih3 _ _ _ _ _ _ _ _ _ _ _ _ _ _
   | exact ih4 _ _ _ _ _ _ _ _
   | exact ih5 _ _ _ _ _ _ _ _
   | exact impl_CheckError.mono _ _ _ _ _ _ _
   | exact impl_CorrectReading.mono _ _ _ _ _ _
   | exact impl_FitZero.mono _ _ _ _ _ _
   | exact impl_IsTool.mono _ _ _ _ _
   | exact impl_ReadBack.mono _ _ _ _ _ _
   | exact impl_WorstCheck.mono _ _ _ _ _ _
   | exact spec_CheckError.mono _ _ _ _ _ _ _
   | exact spec_CorrectReading.mono _ _ _ _ _ _
   | exact spec_DrawCheckError.mono _ _
   | exact spec_DrawCorrectReading.mono _ _
   | exact spec_DrawFitZero.mono _ _
   | exact spec_FitZero.mono _ _ _ _ _ _
   | exact spec_WorstCheck.mono _ _ _ _ _ _
   | exact LeO.none _
   | refine LeO.ite ?_ ?_
   | refine LeO.bind ?_ (fun _ => ?_)
def laws_FnTools.T6 : Bool × List (List Nat × List Nat) := (true, [([], []), ([], []), ([0, 1], [0, 1]), ([2], [2]), ([3], [3]), ([3], [3]), ([4, 5, 3], [3, 4, 5]), ([3, 6], [3, 6]), ([7, 3], [7]), ([8], [8]), ([9, 8, 8], [8, 9]), ([8], [8]), ([11, 10, 8], [8, 11]), ([10, 12, 8], [8, 10, 12]), ([8, 13], [8, 13])])
def laws_FnTools.B6 : List Nat := [0, 0, 3, 7, 15, 15, 63, 127, 255, 511, 1023, 511, 4095, 8191, 16383]
theorem laws_FnTools.tab6 : rtab .any (opsOf Try.f13 6) = laws_FnTools.T6 := by kernel_rfl
theorem laws_FnTools.bits6 : waitsOk laws_FnTools.T6.2 laws_FnTools.B6 = true := by kernel_rfl
def laws_FnTools.T29 : Bool × List (List Nat × List Nat) := (true, [([], []), ([], []), ([], []), ([1, 2], [1, 2]), ([3], [3]), ([0, 4], [0, 4]), ([5], [5]), ([6], [6]), ([6], [6]), ([7, 5, 0, 1, 2, 3, 4, 5, 6, 7], [7]), ([8, 9, 0, 1, 2, 3, 4, 5, 6, 7, 8, 9], [8])])
def laws_FnTools.B29 : List Nat := [0, 0, 0, 6, 14, 31, 63, 127, 127, 255, 1023]
theorem laws_FnTools.tab29 : rtab .any (opsOf Try.f13 29) = laws_FnTools.T29 := by kernel_rfl
theorem laws_FnTools.bits29 : waitsOk laws_FnTools.T29.2 laws_FnTools.B29 = true := by kernel_rfl
def laws_FnTools.sr : Code → Code
  | .seq _ b => b
  | c => c
def laws_FnTools.sl : Code → Code
  | .seq a _ => a
  | c => c
set_option maxHeartbeats 80000000 in
set_option maxRecDepth 100000 in
theorem laws_FnTools.tail_wp (k6 : Nat) (A0 : Option Addr) (c0 : Nat) (l0 : List Int) (t424 t425 t426 t427 t428 t429 t432 t434 : Int) (t433 t435 : Bool) (w : World) {W : World} {u1 u2 u3 u4 u5 u6 u7 u8 u9 u10 u11 u12 u13 u14 u15 u16 u17 u18 u19 u20 u21 u22 u23 u24 u25 u26 u27 u28 u29 u30 u31 u32 u33 u34 u35 u36 u37 u38 u39 u40 u41 u42 u43 u44 u45 u46 u47 u48 u49 u50 u51 u52 u53 u54 u55 u56 u57 u58 u59 u60 u61 u62 u63 u64 u65 u66 u67 u68 u69 u70 u71 u72 u73 u74 u75 u76 u77 u78 u79 u80 u81 u82 u83 u84 u85 u86 u87 u88 u89 u90 u91 u92 u93 u94 u95 u96 u97 u98 u99 u100 u101 u102 u103 u104 u105 u106 u107 u108 u109 u110 u111 u112 u113 u114 u115 u116 u117 u118 u119 u120 u121 u122 u123 u124 u125 u126 u127 u128 u129 u130 u131 u132 u133 u134 u135 u136 u137 u138 u139 u140 u141 u142 u143 u144 u145 u146 u147 u148 u149 u150 u151 u152 u153 u154 u155 u156 u157 u158 u159 u160 u161 u162 u163 u164 u165 u166 u167 u168 u169 u170 u171 u172 u173 u174 u175 u176 u177 u178 u179 u180 u181 u182 u183 u184 u185 u186 u187 u188 u189 u190 u191 u192 u193 u194 u195 u196 u197 u198 u199 u200 u201 u202 u203 u204 u205 u206 u207 u208 u209 u210 u211 u212 u213 u214 u215 u216 u217 u218 u219 u220 u221 u222 u223 : Value} (HR0 : Aside0 (Kd.C (Kd.int .u8) w A0 l0.length l0)) (HC0 : Aside0 (l0.length ≤ c0)) (HB : Aside0 (Below w.heap.size w W))
    (A105 : Aside0 (spec_DrawCheckError.f k6 l0 = some (t424, t425, t426, t427, t428, t429))) (A106 : Aside0 (impl_CheckError.f k6 t424 t425 t426 t427 t428 t429 = some (t432, t433))) (A107 : Aside0 (spec_CheckError.f k6 t424 t425 t426 t427 t428 t429 = some (t434, t435))) (c108b0 : (t432 == t434) = true) {C1 C2 : Code} {K : Act → World → Prop} (hC1 : laws_FnTools.sl (laws_FnTools.sr (laws_FnTools.sr (laws_FnTools.sr (laws_FnTools.sr (laws_FnTools.sr (laws_FnTools.sr (laws_FnTools.sr (laws_FnTools.sr (laws_FnTools.sr (laws_FnTools.sr (laws_FnTools.sr (laws_FnTools.sr (Try.f13.body.getD .skip))))))))))))) = C1) (hC2 : laws_FnTools.sr (laws_FnTools.sr (laws_FnTools.sr (laws_FnTools.sr (laws_FnTools.sr (laws_FnTools.sr (laws_FnTools.sr (laws_FnTools.sr (laws_FnTools.sr (laws_FnTools.sr (laws_FnTools.sr (laws_FnTools.sr (laws_FnTools.sr (Try.f13.body.getD .skip))))))))))))) = C2)
    (hK : ∀ a w', Code.wp Try.prog C2 (bodyPost Try.prog Try.f13 fun e w' => e = .returned (.bool (t433 == t435)) ∧ Below w.heap.size w w') a w' → K a w') :
    Code.wp Try.prog C1 (Exit.then K (bodyPost Try.prog Try.f13 fun e w' => e = .returned (.bool (t433 == t435)) ∧ Below w.heap.size w w')) { tmps := #[.slice A0 l0.length c0, u1, u2, u3, u4, u5, u6, u7, u8, u9, u10, u11, u12, u13, u14, u15, u16, u17, u18, u19, u20, u21, u22, u23, u24, u25, u26, u27, u28, u29, u30, u31, u32, u33, u34, u35, u36, u37, u38, u39, u40, u41, u42, u43, u44, u45, u46, u47, u48, u49, u50, u51, u52, u53, u54, u55, u56, u57, u58, u59, u60, u61, u62, u63, u64, u65, u66, u67, u68, u69, u70, u71, u72, u73, u74, u75, u76, u77, u78, u79, u80, u81, u82, u83, u84, u85, u86, u87, u88, u89, u90, u91, u92, u93, u94, u95, u96, u97, u98, u99, u100, u101, u102, u103, u104, u105, u106, u107, u108, u109, u110, u111, u112, u113, u114, u115, u116, u117, u118, u119, u120, u121, u122, u123, u124, u125, u126, u127, u128, u129, u130, u131, u132, u133, u134, u135, u136, u137, u138, u139, u140, u141, u142, u143, u144, u145, u146, u147, u148, u149, u150, u151, u152, u153, u154, u155, u156, u157, u158, u159, u160, u161, u162, u163, u164, u165, u166, u167, u168, u169, u170, u171, u172, u173, u174, u175, u176, u177, u178, u179, u180, u181, u182, u183, u184, u185, u186, u187, u188, u189, u190, u191, u192, u193, u194, u195, u196, u197, u198, u199, u200, u201, u202, u203, u204, u205, u206, u207, u208, u209, u210, u211, u212, u213, u214, u215, u216, u217, u218, u219, u220, u221, u222, u223], defers := [] } W := by
  have hu44 := Try.underlying44
  have hu46 := Try.underlying46
  simp only [laws_FnTools.sl, laws_FnTools.sr, Try.f13, Option.getD] at hC1 hC2
  subst hC1
  subst hC2
  go_wp2_with (first | ((with_reducible refine gate_callee (f := 69) rfl ?_); refine goesL_ (some 201) rfl rfl Try.func69 (by kernel_rfl) rfl #[.slice A0 l0.length c0] rfl gl_ ?_; (with_reducible refine (spec_DrawCheckError.calls k6 _ _ l0 t424 t425 t426 t427 t428 t429 _ ?side1 ?side2 A105.out).mono ?_); (case side1 => repeat (first | exact (Kd.C_below HR0.out HB.out) | (with_reducible refine Kd.C_alloc ?_ _) | (with_reducible refine Kd.C_drewN ?_ _) | (with_reducible refine Kd.C_drew ?_))); (case side2 => exact HC0.out); rintro e w109 ⟨rfl, hb⟩; refine ⟨_, rfl, ?_⟩; have n5_ := Aside0.mk (below_step bx_ hb); clear HB; have HB := n5_; clear n5_; (try clear hb); (try clear hk)) | ((with_reducible refine gate_dst (N := 31) rfl ?_); refine box_event ?hg (N := 31) ?hd (cs := #[.int .i64 0, .int .i64 0, .int .i64 0, .int .i64 0]) (t := 44) ?hr ?_; (case hd => rfl); (case hg => rfl); (case hr => first | (go_simp; done) | (go_simp; rfl)); intro gb430 hg w110 hbox hb; have n5_ := Aside0.mk (below_step bx_ hb); have n6_ := Aside0.mk (hbox); have n7_ := Aside0.mk ((by rw [hg]; exact (below_size bx_) : w.heap.size ≤ gb430)); have n8_ := Aside0.mk ((by rw [hg]; exact (below_size bx_) : w.heap.size ≤ gb430)); clear HB; have HB := n5_; have BK430 := n6_; have GW430 := n7_; have GE430 := n8_; clear n5_ n6_ n7_ n8_; clear hb hbox hg) | ((with_reducible refine gate_dst (N := 32) rfl ?_); refine box_event ?hg (N := 32) ?hd (cs := #[.int .i64 0, .int .i64 0]) (t := 46) ?hr ?_; (case hd => rfl); (case hg => rfl); (case hr => first | (go_simp; done) | (go_simp; rfl)); intro gb431 hg w111 hbox hb; have n5_ := Aside0.mk (blk_below (bk_ BK430) hb); have n6_ := Aside0.mk (below_step bx_ hb); have n7_ := Aside0.mk (hbox); have n8_ := Aside0.mk ((by rw [hg]; exact (below_size bx_) : w.heap.size ≤ gb431)); have n9_ := Aside0.mk ((by rw [hg]; exact (below_size bx_) : w.heap.size ≤ gb431)); have n18_ := Aside0.mk ((by rw [hg]; exact Nat.ne_of_lt (blk_lt (g := gb430) (o := .cells #[.int .i64 0, .int .i64 0, .int .i64 0, .int .i64 0] 44 (0, 0)) (by (with_reducible repeat (first | refine blk_drewN ?_ _ | refine blk_drew ?_ | refine blk_alloc ?_ _)); exact BK430.out)) : gb430 ≠ gb431)); have n19_ := Aside0.mk ((by rw [hg]; exact Nat.ne_of_gt (blk_lt (g := gb430) (o := .cells #[.int .i64 0, .int .i64 0, .int .i64 0, .int .i64 0] 44 (0, 0)) (by (with_reducible repeat (first | refine blk_drewN ?_ _ | refine blk_drew ?_ | refine blk_alloc ?_ _)); exact BK430.out)) : gb431 ≠ gb430)); clear BK430; clear HB; have BK430 := n5_; have HB := n6_; have BK431 := n7_; have GW431 := n8_; have GE431 := n9_; have NB430_431 := n18_; have NB431_430 := n19_; clear n5_ n6_ n7_ n8_ n9_ n18_ n19_; clear hb hbox hg; have hnb116 := NB430_431.out; have hnc116 := NB431_430.out; have z117_0 : w111.cell? ⟨gb430, 0, none⟩ = some (.int .i64 0) := (blk_cell BK430.out 0).trans rfl; have z117_1 : w111.cell? ⟨gb430, 1, none⟩ = some (.int .i64 0) := (blk_cell BK430.out 1).trans rfl; have z117_2 : w111.cell? ⟨gb430, 2, none⟩ = some (.int .i64 0) := (blk_cell BK430.out 2).trans rfl; have z117_3 : w111.cell? ⟨gb430, 3, none⟩ = some (.int .i64 0) := (blk_cell BK430.out 3).trans rfl; have y117_0 := blk_frozen BK430.out 0; have y117_1 := blk_frozen BK430.out 1; have y117_2 := blk_frozen BK430.out 2; have y117_3 := blk_frozen BK430.out 3; have z122_0 : w111.cell? ⟨gb431, 0, none⟩ = some (.int .i64 0) := (blk_cell BK431.out 0).trans rfl; have z122_1 : w111.cell? ⟨gb431, 1, none⟩ = some (.int .i64 0) := (blk_cell BK431.out 1).trans rfl; have y122_0 := blk_frozen BK431.out 0; have y122_1 := blk_frozen BK431.out 1) | ((with_reducible refine gate_callee (f := 33) rfl ?_); refine goesL_ (some 207) rfl rfl Try.func33 (by kernel_rfl) rfl #[.agg #[.int .i64 t424, .int .i64 t425, .int .i64 t426, .int .i64 t427], .agg #[.int .i64 t428, .int .i64 t429]] rfl gl_ ?_; (with_reducible refine (impl_CheckError.calls k6 t424 t425 t426 t427 t428 t429 t432 t433 _ A106.out).mono ?_); rintro e w123 ⟨rfl, hb⟩; refine ⟨_, rfl, ?_⟩; have n5_ := Aside0.mk (blk_below (g := gb430) (o := .cells #[.int .i64 t424, .int .i64 t425, .int .i64 t426, .int .i64 t427] 44 (0, 0)) (by (with_reducible repeat (first | refine blk_drewN ?_ _ | refine blk_drew ?_ | refine blk_alloc ?_ _)); refine blk_far ?_ NB430_431.out _; (with_reducible repeat (first | refine blk_drewN ?_ _ | refine blk_drew ?_ | refine blk_alloc ?_ _)); refine blk_far ?_ NB430_431.out _; (with_reducible repeat (first | refine blk_drewN ?_ _ | refine blk_drew ?_ | refine blk_alloc ?_ _)); refine blk_put (cs := #[.int .i64 t424, .int .i64 t425, .int .i64 t426, .int .i64 0]) ?_ 3 _ rfl; (with_reducible repeat (first | refine blk_drewN ?_ _ | refine blk_drew ?_ | refine blk_alloc ?_ _)); refine blk_put (cs := #[.int .i64 t424, .int .i64 t425, .int .i64 0, .int .i64 0]) ?_ 2 _ rfl; (with_reducible repeat (first | refine blk_drewN ?_ _ | refine blk_drew ?_ | refine blk_alloc ?_ _)); refine blk_put (cs := #[.int .i64 t424, .int .i64 0, .int .i64 0, .int .i64 0]) ?_ 1 _ rfl; (with_reducible repeat (first | refine blk_drewN ?_ _ | refine blk_drew ?_ | refine blk_alloc ?_ _)); refine blk_put (cs := #[.int .i64 0, .int .i64 0, .int .i64 0, .int .i64 0]) ?_ 0 _ rfl; (with_reducible repeat (first | refine blk_drewN ?_ _ | refine blk_drew ?_ | refine blk_alloc ?_ _)); exact BK430.out) hb); have n6_ := Aside0.mk (blk_below (g := gb431) (o := .cells #[.int .i64 t428, .int .i64 t429] 46 (0, 0)) (by (with_reducible repeat (first | refine blk_drewN ?_ _ | refine blk_drew ?_ | refine blk_alloc ?_ _)); refine blk_put (cs := #[.int .i64 t428, .int .i64 0]) ?_ 1 _ rfl; (with_reducible repeat (first | refine blk_drewN ?_ _ | refine blk_drew ?_ | refine blk_alloc ?_ _)); refine blk_put (cs := #[.int .i64 0, .int .i64 0]) ?_ 0 _ rfl; (with_reducible repeat (first | refine blk_drewN ?_ _ | refine blk_drew ?_ | refine blk_alloc ?_ _)); refine blk_far ?_ NB431_430.out _; (with_reducible repeat (first | refine blk_drewN ?_ _ | refine blk_drew ?_ | refine blk_alloc ?_ _)); refine blk_far ?_ NB431_430.out _; (with_reducible repeat (first | refine blk_drewN ?_ _ | refine blk_drew ?_ | refine blk_alloc ?_ _)); refine blk_far ?_ NB431_430.out _; (with_reducible repeat (first | refine blk_drewN ?_ _ | refine blk_drew ?_ | refine blk_alloc ?_ _)); refine blk_far ?_ NB431_430.out _; (with_reducible repeat (first | refine blk_drewN ?_ _ | refine blk_drew ?_ | refine blk_alloc ?_ _)); exact BK431.out) hb); have n7_ := Aside0.mk (below_step bx_ hb); clear BK430; clear BK431; clear HB; have BK430 := n5_; have BK431 := n6_; have HB := n7_; clear n5_ n6_ n7_; (try clear hb); (try clear hk); have z124_0 : w123.cell? ⟨gb430, 0, none⟩ = some (.int .i64 t424) := (blk_cell BK430.out 0).trans rfl; have z124_1 : w123.cell? ⟨gb430, 1, none⟩ = some (.int .i64 t425) := (blk_cell BK430.out 1).trans rfl; have z124_2 : w123.cell? ⟨gb430, 2, none⟩ = some (.int .i64 t426) := (blk_cell BK430.out 2).trans rfl; have z124_3 : w123.cell? ⟨gb430, 3, none⟩ = some (.int .i64 t427) := (blk_cell BK430.out 3).trans rfl; have y124_0 := blk_frozen BK430.out 0; have y124_1 := blk_frozen BK430.out 1; have y124_2 := blk_frozen BK430.out 2; have y124_3 := blk_frozen BK430.out 3; have z125_0 : w123.cell? ⟨gb431, 0, none⟩ = some (.int .i64 t428) := (blk_cell BK431.out 0).trans rfl; have z125_1 : w123.cell? ⟨gb431, 1, none⟩ = some (.int .i64 t429) := (blk_cell BK431.out 1).trans rfl; have y125_0 := blk_frozen BK431.out 0; have y125_1 := blk_frozen BK431.out 1) | ((with_reducible refine gate_callee (f := 30) rfl ?_); refine goesL_ (some 213) rfl rfl Try.func30 (by kernel_rfl) rfl #[.agg #[.int .i64 t424, .int .i64 t425, .int .i64 t426, .int .i64 t427], .agg #[.int .i64 t428, .int .i64 t429]] rfl gl_ ?_; (with_reducible refine (spec_CheckError.calls k6 t424 t425 t426 t427 t428 t429 t434 t435 _ A107.out).mono ?_); rintro e w126 ⟨rfl, hb⟩; refine ⟨_, rfl, ?_⟩; have n5_ := Aside0.mk (blk_below (bk_ BK430) hb); have n6_ := Aside0.mk (blk_below (bk_ BK431) hb); have n7_ := Aside0.mk (below_step bx_ hb); clear BK430; clear BK431; clear HB; have BK430 := n5_; have BK431 := n6_; have HB := n7_; clear n5_ n6_ n7_; (try clear hb); (try clear hk)))
  go_ret
  exact ⟨by first | rfl | (simp [c108b0]; done), by repeat (first | (with_reducible first | exact HB.out | apply below_alloc | apply pw_below_drewN | apply below_drew1 | refine below_set ?_ GE430.out | refine below_set ?_ GE431.out) | exact HB.out)⟩
set_option maxHeartbeats 80000000 in
set_option maxRecDepth 100000 in
theorem laws_FnTools.calls (k : Nat) (A0 : Option Addr) (c0 : Nat) (l0 : List Int) (r : Bool) (w : World) (hr0 : Kd.C (Kd.int .u8) w A0 l0.length l0) (hc0 : l0.length ≤ c0) (h : laws_FnTools.f k l0 = some r) :
  Calls Try.prog 13 #[.slice A0 l0.length c0] w fun e w' => e = .returned (.bool r) ∧ Below w.heap.size w w' := by
 have hu44 := Try.underlying44; have hu46 := Try.underlying46; have HR0 := Aside0.mk hr0; have HC0 := Aside0.mk hc0; clear hr0 hc0
 have HB := Aside0.mk (Below.refl w.heap.size w)
 have H : ((laws_rBig.f l0).bind fun t375 => (if t375 = true then (some true) else ((spec_DrawCorrectReading.f k l0).bind fun bt376 => ((impl_CorrectReading.f k bt376.1 bt376.2.1 bt376.2.2.1 bt376.2.2.2.1 bt376.2.2.2.2).bind fun bt382 => ((spec_CorrectReading.f k bt376.1 bt376.2.1 bt376.2.2.1 bt376.2.2.2.1 bt376.2.2.2.2).bind fun bt384 => (if bt382.1 = bt384.1 then (if (bt382.2 != bt384.2) = true then (laws_FnTools.j0 k l0 bt376.2.2.2.2 bt382.1 bt382.2 true bt376.1 bt376.2.1 bt376.2.2.1 bt376.2.2.2.1) else ((impl_IsTool.f k bt376.1 bt376.2.1 bt376.2.2.1 bt376.2.2.2.1).bind fun t386 => ((spec_IsTool.f bt376.1 bt376.2.1 bt376.2.2.1 bt376.2.2.2.1).bind fun t387 => (laws_FnTools.j0 k l0 bt376.2.2.2.2 bt382.1 bt382.2 (t386 != t387) bt376.1 bt376.2.1 bt376.2.2.1 bt376.2.2.2.1)))) else (laws_FnTools.j0 k l0 bt376.2.2.2.2 bt382.1 bt382.2 true bt376.1 bt376.2.1 bt376.2.2.1 bt376.2.2.2.1))))))) = some r := h
 clear h; replace H := Option.bind_eq_some_iff.mp H; obtain ⟨t375, A20, H⟩ := H
 replace H : (if t375 = true then (some true) else ((spec_DrawCorrectReading.f k l0).bind fun bt376 => ((impl_CorrectReading.f k bt376.1 bt376.2.1 bt376.2.2.1 bt376.2.2.2.1 bt376.2.2.2.2).bind fun bt382 => ((spec_CorrectReading.f k bt376.1 bt376.2.1 bt376.2.2.1 bt376.2.2.2.1 bt376.2.2.2.2).bind fun bt384 => (if bt382.1 = bt384.1 then (if (bt382.2 != bt384.2) = true then (laws_FnTools.j0 k l0 bt376.2.2.2.2 bt382.1 bt382.2 true bt376.1 bt376.2.1 bt376.2.2.1 bt376.2.2.2.1) else ((impl_IsTool.f k bt376.1 bt376.2.1 bt376.2.2.1 bt376.2.2.2.1).bind fun t386 => ((spec_IsTool.f bt376.1 bt376.2.1 bt376.2.2.1 bt376.2.2.2.1).bind fun t387 => (laws_FnTools.j0 k l0 bt376.2.2.2.2 bt382.1 bt382.2 (t386 != t387) bt376.1 bt376.2.1 bt376.2.2.1 bt376.2.2.2.1)))) else (laws_FnTools.j0 k l0 bt376.2.2.2.2 bt382.1 bt382.2 true bt376.1 bt376.2.1 bt376.2.2.1 bt376.2.2.2.1)))))) = some r := H
 have A2 := Aside0.mk A20; clear A20
 by_cases c3 : t375 = true
 ·subst c3
  have H1 : (some true) = some r := by rw [if_pos rfl] at H; exact H
  clear H; have H := H1; clear H1
  obtain rfl := Option.some.inj H
  go_enter Try.func13, Try.ntmps13
  go_wp2_with (first | ((with_reducible refine gate_callee (f := 61) rfl ?_); refine goesL_ (some 38) rfl rfl Try.func61 (by kernel_rfl) rfl #[.slice A0 l0.length c0] rfl gl_ ?_; (with_reducible refine (laws_rBig.calls _ _ l0 true _ ?side1 ?side2 A2.out).mono ?_); (case side1 => repeat (first | exact HR0.out | (with_reducible refine Kd.C_alloc ?_ _) | (with_reducible refine Kd.C_drewN ?_ _) | (with_reducible refine Kd.C_drew ?_))); (case side2 => exact HC0.out); rintro e w' ⟨rfl, ⟨nd, rfl⟩⟩; refine ⟨_, rfl, ?_⟩))
  go_ret
  exact ⟨by first | rfl | (simp [errW_none, errW_some] <;> rfl) | (simp [*, errW_none, errW_some] <;> rfl), by repeat (first | (with_reducible first | exact HB.out | apply below_alloc | apply pw_below_drewN | apply below_drew1) | exact HB.out)⟩
 ·replace c3 := Bool.eq_false_iff.mpr c3
  subst c3
  have H1 : ((spec_DrawCorrectReading.f k l0).bind fun bt376 => ((impl_CorrectReading.f k bt376.1 bt376.2.1 bt376.2.2.1 bt376.2.2.2.1 bt376.2.2.2.2).bind fun bt382 => ((spec_CorrectReading.f k bt376.1 bt376.2.1 bt376.2.2.1 bt376.2.2.2.1 bt376.2.2.2.2).bind fun bt384 => (if bt382.1 = bt384.1 then (if (bt382.2 != bt384.2) = true then (laws_FnTools.j0 k l0 bt376.2.2.2.2 bt382.1 bt382.2 true bt376.1 bt376.2.1 bt376.2.2.1 bt376.2.2.2.1) else ((impl_IsTool.f k bt376.1 bt376.2.1 bt376.2.2.1 bt376.2.2.2.1).bind fun t386 => ((spec_IsTool.f bt376.1 bt376.2.1 bt376.2.2.1 bt376.2.2.2.1).bind fun t387 => (laws_FnTools.j0 k l0 bt376.2.2.2.2 bt382.1 bt382.2 (t386 != t387) bt376.1 bt376.2.1 bt376.2.2.1 bt376.2.2.2.1)))) else (laws_FnTools.j0 k l0 bt376.2.2.2.2 bt382.1 bt382.2 true bt376.1 bt376.2.1 bt376.2.2.1 bt376.2.2.2.1))))) = some r := by rw [if_neg (show ¬ (false = true) by decide)] at H; exact H
  clear H; have H := H1; clear H1; replace H := Option.bind_eq_some_iff.mp H; obtain ⟨⟨t376, t377, t378, t379, t380⟩, A40, H⟩ := H
  replace H : ((impl_CorrectReading.f k t376 t377 t378 t379 t380).bind fun bt382 => ((spec_CorrectReading.f k t376 t377 t378 t379 t380).bind fun bt384 => (if bt382.1 = bt384.1 then (if (bt382.2 != bt384.2) = true then (laws_FnTools.j0 k l0 t380 bt382.1 bt382.2 true t376 t377 t378 t379) else ((impl_IsTool.f k t376 t377 t378 t379).bind fun t386 => ((spec_IsTool.f t376 t377 t378 t379).bind fun t387 => (laws_FnTools.j0 k l0 t380 bt382.1 bt382.2 (t386 != t387) t376 t377 t378 t379)))) else (laws_FnTools.j0 k l0 t380 bt382.1 bt382.2 true t376 t377 t378 t379)))) = some r := H
  have A4 := Aside0.mk A40; clear A40; replace H := Option.bind_eq_some_iff.mp H; obtain ⟨⟨t382, t383⟩, A50, H⟩ := H
  replace H : ((spec_CorrectReading.f k t376 t377 t378 t379 t380).bind fun bt384 => (if t382 = bt384.1 then (if (t383 != bt384.2) = true then (laws_FnTools.j0 k l0 t380 t382 t383 true t376 t377 t378 t379) else ((impl_IsTool.f k t376 t377 t378 t379).bind fun t386 => ((spec_IsTool.f t376 t377 t378 t379).bind fun t387 => (laws_FnTools.j0 k l0 t380 t382 t383 (t386 != t387) t376 t377 t378 t379)))) else (laws_FnTools.j0 k l0 t380 t382 t383 true t376 t377 t378 t379))) = some r := H
  have A5 := Aside0.mk A50; clear A50; replace H := Option.bind_eq_some_iff.mp H; obtain ⟨⟨t384, t385⟩, A60, H⟩ := H
  replace H : (if t382 = t384 then (if (t383 != t385) = true then (laws_FnTools.j0 k l0 t380 t382 t383 true t376 t377 t378 t379) else ((impl_IsTool.f k t376 t377 t378 t379).bind fun t386 => ((spec_IsTool.f t376 t377 t378 t379).bind fun t387 => (laws_FnTools.j0 k l0 t380 t382 t383 (t386 != t387) t376 t377 t378 t379)))) else (laws_FnTools.j0 k l0 t380 t382 t383 true t376 t377 t378 t379)) = some r := H
  have A6 := Aside0.mk A60; clear A60; have HC7 := Aside0.mk H; clear H
  go_enter Try.func13, Try.ntmps13
  go_upto_region 6 with (first | ((with_reducible refine gate_callee (f := 61) rfl ?_); refine goesL_ (some 38) rfl rfl Try.func61 (by kernel_rfl) rfl #[.slice A0 l0.length c0] rfl gl_ ?_; (with_reducible refine (laws_rBig.calls _ _ l0 false _ ?side1 ?side2 A2.out).mono ?_); (case side1 => repeat (first | exact HR0.out | (with_reducible refine Kd.C_alloc ?_ _) | (with_reducible refine Kd.C_drewN ?_ _) | (with_reducible refine Kd.C_drew ?_))); (case side2 => exact HC0.out); rintro e w' ⟨rfl, ⟨nd, rfl⟩⟩; refine ⟨_, rfl, ?_⟩) | ((with_reducible refine gate_callee (f := 62) rfl ?_); refine goesL_ (some 41) rfl rfl Try.func62 (by kernel_rfl) rfl #[.slice A0 l0.length c0] rfl gl_ ?_; (with_reducible refine (spec_DrawCorrectReading.calls k _ _ l0 t376 t377 t378 t379 t380 _ ?side1 ?side2 A4.out).mono ?_); (case side1 => repeat (first | exact HR0.out | (with_reducible refine Kd.C_alloc ?_ _) | (with_reducible refine Kd.C_drewN ?_ _) | (with_reducible refine Kd.C_drew ?_))); (case side2 => exact HC0.out); rintro e w8 ⟨rfl, hb⟩; refine ⟨_, rfl, ?_⟩; have n0_ := Aside0.mk (below_step bx_ hb); clear HB; have HB := n0_; clear n0_; (try clear hb); (try clear hk)) | ((with_reducible refine gate_dst (N := 3) rfl ?_); refine box_event ?hg (N := 3) ?hd (cs := #[.int .i64 0, .int .i64 0, .int .i64 0, .int .i64 0]) (t := 44) ?hr ?_; (case hd => rfl); (case hg => rfl); (case hr => first | (go_simp; done) | (go_simp; rfl)); intro gb381 hg w9 hbox hb; have n0_ := Aside0.mk (below_step bx_ hb); have n1_ := Aside0.mk (hbox); have n2_ := Aside0.mk ((by rw [hg]; exact (below_size bx_) : w.heap.size ≤ gb381)); have n3_ := Aside0.mk ((by rw [hg]; exact (below_size bx_) : w.heap.size ≤ gb381)); clear HB; have HB := n0_; have BK381 := n1_; have GW381 := n2_; have GE381 := n3_; clear n0_ n1_ n2_ n3_; clear hb hbox hg; have z10_0 : w9.cell? ⟨gb381, 0, none⟩ = some (.int .i64 0) := (blk_cell BK381.out 0).trans rfl; have z10_1 : w9.cell? ⟨gb381, 1, none⟩ = some (.int .i64 0) := (blk_cell BK381.out 1).trans rfl; have z10_2 : w9.cell? ⟨gb381, 2, none⟩ = some (.int .i64 0) := (blk_cell BK381.out 2).trans rfl; have z10_3 : w9.cell? ⟨gb381, 3, none⟩ = some (.int .i64 0) := (blk_cell BK381.out 3).trans rfl; have y10_0 := blk_frozen BK381.out 0; have y10_1 := blk_frozen BK381.out 1; have y10_2 := blk_frozen BK381.out 2; have y10_3 := blk_frozen BK381.out 3) | ((with_reducible refine gate_callee (f := 63) rfl ?_); refine goesL_ (some 47) rfl rfl Try.func63 (by kernel_rfl) rfl #[.agg #[.int .i64 t376, .int .i64 t377, .int .i64 t378, .int .i64 t379], .int .i64 t380] rfl gl_ ?_; (with_reducible refine (impl_CorrectReading.calls k t376 t377 t378 t379 t380 t382 t383 _ A5.out).mono ?_); rintro e w11 ⟨rfl, hb⟩; refine ⟨_, rfl, ?_⟩; have n0_ := Aside0.mk (blk_below (g := gb381) (o := .cells #[.int .i64 t376, .int .i64 t377, .int .i64 t378, .int .i64 t379] 44 (0, 0)) (by (with_reducible repeat (first | refine blk_drewN ?_ _ | refine blk_drew ?_ | refine blk_alloc ?_ _)); refine blk_put (cs := #[.int .i64 t376, .int .i64 t377, .int .i64 t378, .int .i64 0]) ?_ 3 _ rfl; (with_reducible repeat (first | refine blk_drewN ?_ _ | refine blk_drew ?_ | refine blk_alloc ?_ _)); refine blk_put (cs := #[.int .i64 t376, .int .i64 t377, .int .i64 0, .int .i64 0]) ?_ 2 _ rfl; (with_reducible repeat (first | refine blk_drewN ?_ _ | refine blk_drew ?_ | refine blk_alloc ?_ _)); refine blk_put (cs := #[.int .i64 t376, .int .i64 0, .int .i64 0, .int .i64 0]) ?_ 1 _ rfl; (with_reducible repeat (first | refine blk_drewN ?_ _ | refine blk_drew ?_ | refine blk_alloc ?_ _)); refine blk_put (cs := #[.int .i64 0, .int .i64 0, .int .i64 0, .int .i64 0]) ?_ 0 _ rfl; (with_reducible repeat (first | refine blk_drewN ?_ _ | refine blk_drew ?_ | refine blk_alloc ?_ _)); exact BK381.out) hb); have n1_ := Aside0.mk (below_step bx_ hb); clear BK381; clear HB; have BK381 := n0_; have HB := n1_; clear n0_ n1_; (try clear hb); (try clear hk); have z12_0 : w11.cell? ⟨gb381, 0, none⟩ = some (.int .i64 t376) := (blk_cell BK381.out 0).trans rfl; have z12_1 : w11.cell? ⟨gb381, 1, none⟩ = some (.int .i64 t377) := (blk_cell BK381.out 1).trans rfl; have z12_2 : w11.cell? ⟨gb381, 2, none⟩ = some (.int .i64 t378) := (blk_cell BK381.out 2).trans rfl; have z12_3 : w11.cell? ⟨gb381, 3, none⟩ = some (.int .i64 t379) := (blk_cell BK381.out 3).trans rfl; have y12_0 := blk_frozen BK381.out 0; have y12_1 := blk_frozen BK381.out 1; have y12_2 := blk_frozen BK381.out 2; have y12_3 := blk_frozen BK381.out 3) | ((with_reducible refine gate_callee (f := 64) rfl ?_); refine goesL_ (some 53) rfl rfl Try.func64 (by kernel_rfl) rfl #[.agg #[.int .i64 t376, .int .i64 t377, .int .i64 t378, .int .i64 t379], .int .i64 t380] rfl gl_ ?_; (with_reducible refine (spec_CorrectReading.calls k t376 t377 t378 t379 t380 t384 t385 _ A6.out).mono ?_); rintro e w13 ⟨rfl, hb⟩; refine ⟨_, rfl, ?_⟩; have n0_ := Aside0.mk (blk_below (bk_ BK381) hb); have n1_ := Aside0.mk (below_step bx_ hb); clear BK381; clear HB; have BK381 := n0_; have HB := n1_; clear n0_ n1_; (try clear hb); (try clear hk)))
  (try simp only [Act.put, List.setIfInBounds_toArray, List.set_cons_zero, List.set_cons_succ])
  go_cut [70] (fun v70 wc => ∃ (kq : Nat) (x70_6 : Bool), v70 = .bool x70_6 ∧ Aside0 (laws_FnTools.j0 kq l0 t380 t382 t383 x70_6 t376 t377 t378 t379 = some r) ∧ Aside0 (kq ≤ k) ∧ Aside0 (wc.heap[gb381]? = some (.cells #[.int .i64 t376, .int .i64 t377, .int .i64 t378, .int .i64 t379] 44 (0, 0))) ∧ Aside0 (Below w.heap.size w wc))
  case first => as_aux_lemma =>
   have H := HC7.out; clear HC7
   by_cases c14 : t382 = t384
   ·rw [if_pos c14] at H
    have c14b0 : (t382 == t384) = true := beq_iff_eq.mpr c14
    have c14b1 : (t382 != t384) = false := bne_eq_false_iff_eq.mpr c14
    clear c14
    (first | rw [c14b0] | (simp only [i64_w, i32_w]; rw [c14b0]) | skip)
    by_cases c15 : (t383 != t385) = true
    ·rw [if_pos c15] at H
     have c15b0 : (t383 != t385) = true := c15
     (try (have c15b1 : decide (t383 = t385) = false := by simpa using c15))
     (try (have c15b2 : (t383 == t385) = false := by simpa using c15))
     (try (have c15b3 : ¬ (t383 = t385) := by simpa using c15))
     clear c15
     have H' := Aside0.mk H
     clear H
     try go_wp2
     have n0_ := Aside0.mk (blk_drew BK381.out)
     have n1_ := Aside0.mk (below_drew1 HB.out)
     clear BK381; clear HB; have BK381 := n0_; have HB := n1_; clear n0_ n1_
     refine start_ (n := 15) (S := fun w' => True) (ds := []) #[false, false, false, false, false, false, false, false, false, false, false, false, false, false, false] (by kernel_rfl) rfl rfl trivial (fun hHeld => ?_); refine with_tabW laws_FnTools.tab6 laws_FnTools.bits6 (fun HT_ HW_ => ?_)
     generalize w13.drew = w16 at BK381 HB hHeld ⊢
     refine pure_ (i := 0) (N := some 56) (v := ?_) (a' := ?_) #[true, false, false, false, false, false, false, false, false, false, false, false, false, false, false] rfl rfl (any_of HT_.out (by kernel_rfl)) (fun _ _ _ h => h) (Or.inl ⟨by rfl, ?_⟩) ?_ ?_
     rotate_left
     ·intro w'
      go_simp
      with_reducible rfl
     rotate_left
     ·simp only [Act.put, List.setIfInBounds_toArray, List.set_cons_zero, List.set_cons_succ, i64_w, i32_w]
      rfl
     refine pure_ (i := 1) (N := some 57) (v := ?_) (a' := ?_) #[true, true, false, false, false, false, false, false, false, false, false, false, false, false, false] rfl rfl (any_of HT_.out (by kernel_rfl)) (fun _ _ _ h => h) (Or.inl ⟨by rfl, ?_⟩) ?_ ?_
     rotate_left
     ·intro w'
      go_simp
      with_reducible rfl
     rotate_left
     ·simp only [Act.put, List.setIfInBounds_toArray, List.set_cons_zero, List.set_cons_succ, i64_w, i32_w]
      rfl
     refine pure_ (i := 2) (N := some 58) (v := ?_) (a' := ?_) #[true, true, true, false, false, false, false, false, false, false, false, false, false, false, false] rfl rfl (any_of HT_.out (by kernel_rfl)) (fun _ _ _ h => h) (Or.inl ⟨by rfl, ?_⟩) ?_ ?_
     rotate_left
     ·intro w'
      go_simp
      with_reducible rfl
     rotate_left
     ·simp only [Act.put, List.setIfInBounds_toArray, List.set_cons_zero, List.set_cons_succ, i64_w, i32_w]
      rfl
     refine pure_ (i := 3) (N := some 59) (v := ?_) (a' := ?_) #[true, true, true, true, false, false, false, false, false, false, false, false, false, false, false] rfl rfl (any_of HT_.out (by kernel_rfl)) (fun _ _ _ h => h) (Or.inl ⟨by rfl, ?_⟩) ?_ ?_
     rotate_left
     ·intro w'
      go_simp
      with_reducible rfl
     rotate_left
     ·simp only [Act.put, List.setIfInBounds_toArray, List.set_cons_zero, List.set_cons_succ, i64_w, i32_w]
      rfl
     refine pure_ (i := 4) (N := some 60) (v := ?_) (a' := ?_) #[true, true, true, true, true, false, false, false, false, false, false, false, false, false, false] rfl rfl (any_of HT_.out (by kernel_rfl)) (fun _ _ _ h => h) (Or.inl ⟨by rfl, ?_⟩) ?_ ?_
     rotate_left
     ·intro w'
      go_simp
      with_reducible rfl
     rotate_left
     ·simp only [Act.put, List.setIfInBounds_toArray, List.set_cons_zero, List.set_cons_succ, i64_w, i32_w]
      rfl
     refine pure_ (i := 5) (N := some 61) (v := ?_) (a' := ?_) #[true, true, true, true, true, true, false, false, false, false, false, false, false, false, false] rfl rfl (any_of HT_.out (by kernel_rfl)) (fun _ _ _ h => h) (Or.inl ⟨by rfl, ?_⟩) ?_ ?_
     rotate_left
     ·intro w'
      go_simp
      with_reducible rfl
     rotate_left
     ·simp only [Act.put, List.setIfInBounds_toArray, List.set_cons_zero, List.set_cons_succ, i64_w, i32_w]
      rfl
     refine pure_ (i := 6) (N := some 62) (v := ?_) (a' := ?_) #[true, true, true, true, true, true, true, false, false, false, false, false, false, false, false] rfl rfl (any_of HT_.out (by kernel_rfl)) (fun _ _ _ h => h) (Or.inl ⟨by rfl, ?_⟩) ?_ ?_
     rotate_left
     ·intro w'
      go_simp
      with_reducible rfl
     rotate_left
     ·simp only [Act.put, List.setIfInBounds_toArray, List.set_cons_zero, List.set_cons_succ, i64_w, i32_w]
      rfl
     refine pure_ (i := 7) (N := some 63) (v := ?_) (a' := ?_) #[true, true, true, true, true, true, true, true, false, false, false, false, false, false, false] rfl rfl (any_of HT_.out (by kernel_rfl)) (fun _ _ _ h => h) (Or.inl ⟨by rfl, ?_⟩) ?_ ?_
     rotate_left
     ·intro w'
      go_simp
      with_reducible rfl
     rotate_left
     ·simp only [Act.put, List.setIfInBounds_toArray, List.set_cons_zero, List.set_cons_succ, i64_w, i32_w]
      rfl
     refine pure_ (i := 8) (N := some 64) (v := ?_) (a' := ?_) #[true, true, true, true, true, true, true, true, true, false, false, false, false, false, false] rfl rfl (any_of HT_.out (by kernel_rfl)) (fun _ _ _ h => h) (Or.inl ⟨by rfl, ?_⟩) ?_ ?_
     rotate_left
     ·intro w'
      go_simp
      with_reducible rfl
     rotate_left
     ·simp only [Act.put, List.setIfInBounds_toArray, List.set_cons_zero, List.set_cons_succ, i64_w, i32_w]
      rfl
     refine pure_ (i := 9) (N := some 65) (v := undef) (a' := ?_) #[true, true, true, true, true, true, true, true, true, true, false, false, false, false, false] rfl rfl (any_of HT_.out (by kernel_rfl)) (fun _ _ _ h => h) (Or.inr ⟨by rfl, rfl⟩) ?_ ?_
     rotate_left
     ·simp only [Act.put, List.setIfInBounds_toArray, List.set_cons_zero, List.set_cons_succ, i64_w, i32_w]
      rfl
     refine pure_ (i := 10) (N := some 66) (v := undef) (a' := ?_) #[true, true, true, true, true, true, true, true, true, true, true, false, false, false, false] rfl rfl (any_of HT_.out (by kernel_rfl)) (fun _ _ _ h => h) (Or.inr ⟨by rfl, rfl⟩) ?_ ?_
     rotate_left
     ·simp only [Act.put, List.setIfInBounds_toArray, List.set_cons_zero, List.set_cons_succ, i64_w, i32_w]
      rfl
     refine pure_ (i := 11) (N := some 67) (v := undef) (a' := ?_) #[true, true, true, true, true, true, true, true, true, true, true, true, false, false, false] rfl rfl (any_of HT_.out (by kernel_rfl)) (fun _ _ _ h => h) (Or.inr ⟨by rfl, rfl⟩) ?_ ?_
     rotate_left
     ·simp only [Act.put, List.setIfInBounds_toArray, List.set_cons_zero, List.set_cons_succ, i64_w, i32_w]
      rfl
     refine pure_ (i := 12) (N := some 68) (v := undef) (a' := ?_) #[true, true, true, true, true, true, true, true, true, true, true, true, true, false, false] rfl rfl (any_of HT_.out (by kernel_rfl)) (fun _ _ _ h => h) (Or.inr ⟨by rfl, rfl⟩) ?_ ?_
     rotate_left
     ·simp only [Act.put, List.setIfInBounds_toArray, List.set_cons_zero, List.set_cons_succ, i64_w, i32_w]
      rfl
     refine pure_ (i := 13) (N := some 69) (v := undef) (a' := ?_) #[true, true, true, true, true, true, true, true, true, true, true, true, true, true, false] rfl rfl (any_of HT_.out (by kernel_rfl)) (fun _ _ _ h => h) (Or.inr ⟨by rfl, rfl⟩) ?_ ?_
     rotate_left
     ·simp only [Act.put, List.setIfInBounds_toArray, List.set_cons_zero, List.set_cons_succ, i64_w, i32_w]
      rfl
     refine pure_ (i := 14) (N := some 70) (v := ?_) (a' := ?_) #[true, true, true, true, true, true, true, true, true, true, true, true, true, true, true] rfl rfl (any_of HT_.out (by kernel_rfl)) (fun _ _ _ h => h) (Or.inl ⟨by rfl, ?_⟩) ?_ ?_
     rotate_left
     ·intro w'
      go_simp
      with_reducible rfl
     rotate_left
     ·simp only [Act.put, List.setIfInBounds_toArray, List.set_cons_zero, List.set_cons_succ, i64_w, i32_w]
      rfl
     refine done_ (done_of HT_.out (by kernel_rfl)) ?_
     try go_wp2
     go_meet
     case rel => exact ⟨_, (true), (by first | rfl | (simp; done) | (simp [*]; done)), H', ⟨by first | omega | exact Nat.le_refl _⟩, ⟨by (with_reducible repeat (first | refine blk_drewN ?_ _ | refine blk_drew ?_ | refine blk_alloc ?_ _)); exact BK381.out⟩, ⟨by repeat (first | (with_reducible first | exact HB.out | apply below_alloc | apply pw_below_drewN | apply below_drew1 | refine below_set ?_ GE381.out) | exact HB.out)⟩⟩
    ·rw [if_neg c15] at H
     have c15b0 : (t383 != t385) = false := by simpa using c15
     (try (have c15b1 : decide (t383 = t385) = true := by simpa using c15))
     (try (have c15b2 : (t383 == t385) = true := by simpa using c15))
     clear c15; replace H := Option.bind_eq_some_iff.mp H; obtain ⟨t386, A170, H⟩ := H
     replace H : ((spec_IsTool.f t376 t377 t378 t379).bind fun t387 => (laws_FnTools.j0 k l0 t380 t382 t383 (t386 != t387) t376 t377 t378 t379)) = some r := H
     have A17 := Aside0.mk A170; clear A170; replace H := Option.bind_eq_some_iff.mp H; obtain ⟨t387, A180, H⟩ := H
     replace H : (laws_FnTools.j0 k l0 t380 t382 t383 (t386 != t387) t376 t377 t378 t379) = some r := H
     have A18 := Aside0.mk A180; clear A180
     have H' := Aside0.mk H
     clear H
     try go_wp2
     have n0_ := Aside0.mk (blk_drew BK381.out)
     have n1_ := Aside0.mk (below_drew1 HB.out)
     clear BK381; clear HB; have BK381 := n0_; have HB := n1_; clear n0_ n1_
     refine start_ (n := 15) (S := fun w' => w'.cell? ⟨gb381, 0, none⟩ = some (.int .i64 t376) ∧ w'.cell? ⟨gb381, 1, none⟩ = some (.int .i64 t377) ∧ w'.cell? ⟨gb381, 2, none⟩ = some (.int .i64 t378) ∧ w'.cell? ⟨gb381, 3, none⟩ = some (.int .i64 t379)) (ds := []) #[false, false, false, false, false, false, false, false, false, false, false, false, false, false, false] (by kernel_rfl) rfl rfl ⟨(blk_cell BK381.out 0).trans rfl, (blk_cell BK381.out 1).trans rfl, (blk_cell BK381.out 2).trans rfl, (blk_cell BK381.out 3).trans rfl⟩ (fun hHeld => ?_); refine with_tabW laws_FnTools.tab6 laws_FnTools.bits6 (fun HT_ HW_ => ?_)
     generalize w13.drew = w19 at BK381 HB hHeld ⊢
     refine pure_ (i := 0) (N := some 56) (v := ?_) (a' := ?_) #[true, false, false, false, false, false, false, false, false, false, false, false, false, false, false] rfl rfl (any_of HT_.out (by kernel_rfl)) (fun _ _ _ h => h) (Or.inl ⟨by rfl, ?_⟩) ?_ ?_
     rotate_left
     ·intro w'
      go_simp
      with_reducible rfl
     rotate_left
     ·simp only [Act.put, List.setIfInBounds_toArray, List.set_cons_zero, List.set_cons_succ, i64_w, i32_w]
      rfl
     refine pure_ (i := 1) (N := some 57) (v := ?_) (a' := ?_) #[true, true, false, false, false, false, false, false, false, false, false, false, false, false, false] rfl rfl (any_of HT_.out (by kernel_rfl)) (fun _ _ _ h => h) (Or.inl ⟨by rfl, ?_⟩) ?_ ?_
     rotate_left
     ·intro w'
      go_simp
      with_reducible rfl
     rotate_left
     ·simp only [Act.put, List.setIfInBounds_toArray, List.set_cons_zero, List.set_cons_succ, i64_w, i32_w]
      rfl
     refine pure_ (i := 2) (N := some 58) (v := ?_) (a' := ?_) #[true, true, true, false, false, false, false, false, false, false, false, false, false, false, false] rfl rfl (any_of HT_.out (by kernel_rfl)) (fun _ _ _ h => h) (Or.inl ⟨by rfl, ?_⟩) ?_ ?_
     rotate_left
     ·intro w'
      go_simp
      with_reducible rfl
     rotate_left
     ·simp only [Act.put, List.setIfInBounds_toArray, List.set_cons_zero, List.set_cons_succ, i64_w, i32_w]
      rfl
     refine pure_ (i := 3) (N := some 59) (v := ?_) (a' := ?_) #[true, true, true, true, false, false, false, false, false, false, false, false, false, false, false] rfl rfl (any_of HT_.out (by kernel_rfl)) (fun _ _ _ h => h) (Or.inl ⟨by rfl, ?_⟩) ?_ ?_
     rotate_left
     ·intro w'
      go_simp
      with_reducible rfl
     rotate_left
     ·simp only [Act.put, List.setIfInBounds_toArray, List.set_cons_zero, List.set_cons_succ, i64_w, i32_w]
      rfl
     refine pure_ (i := 4) (N := some 60) (v := ?_) (a' := ?_) #[true, true, true, true, true, false, false, false, false, false, false, false, false, false, false] rfl rfl (any_of HT_.out (by kernel_rfl)) (fun _ _ _ h => h) (Or.inl ⟨by rfl, ?_⟩) ?_ ?_
     rotate_left
     ·intro w'
      go_simp
      with_reducible rfl
     rotate_left
     ·simp only [Act.put, List.setIfInBounds_toArray, List.set_cons_zero, List.set_cons_succ, i64_w, i32_w]
      rfl
     refine pure_ (i := 5) (N := some 61) (v := ?_) (a' := ?_) #[true, true, true, true, true, true, false, false, false, false, false, false, false, false, false] rfl rfl (any_of HT_.out (by kernel_rfl)) (fun _ _ _ h => h) (Or.inl ⟨by rfl, ?_⟩) ?_ ?_
     rotate_left
     ·intro w'
      go_simp
      with_reducible rfl
     rotate_left
     ·simp only [Act.put, List.setIfInBounds_toArray, List.set_cons_zero, List.set_cons_succ, i64_w, i32_w]
      rfl
     refine pure_ (i := 6) (N := some 62) (v := ?_) (a' := ?_) #[true, true, true, true, true, true, true, false, false, false, false, false, false, false, false] rfl rfl (any_of HT_.out (by kernel_rfl)) (fun _ _ _ h => h) (Or.inl ⟨by rfl, ?_⟩) ?_ ?_
     rotate_left
     ·intro w'
      go_simp
      with_reducible rfl
     rotate_left
     ·simp only [Act.put, List.setIfInBounds_toArray, List.set_cons_zero, List.set_cons_succ, i64_w, i32_w]
      rfl
     refine pure_ (i := 7) (N := some 63) (v := ?_) (a' := ?_) #[true, true, true, true, true, true, true, true, false, false, false, false, false, false, false] rfl rfl (any_of HT_.out (by kernel_rfl)) (fun _ _ _ h => h) (Or.inl ⟨by rfl, ?_⟩) ?_ ?_
     rotate_left
     ·intro w'
      go_simp
      with_reducible rfl
     rotate_left
     ·simp only [Act.put, List.setIfInBounds_toArray, List.set_cons_zero, List.set_cons_succ, i64_w, i32_w]
      rfl
     refine pure_ (i := 8) (N := some 64) (v := ?_) (a' := ?_) #[true, true, true, true, true, true, true, true, true, false, false, false, false, false, false] rfl rfl (any_of HT_.out (by kernel_rfl)) (fun _ _ _ h => h) (Or.inl ⟨by rfl, ?_⟩) ?_ ?_
     rotate_left
     ·intro w'
      go_simp
      with_reducible rfl
     rotate_left
     ·simp only [Act.put, List.setIfInBounds_toArray, List.set_cons_zero, List.set_cons_succ, i64_w, i32_w]
      rfl
     refine take_ (i := 9) (N := some 65) (v := ?_) (a' := ?_) #[true, true, true, true, true, true, true, true, true, true, false, false, false, false, false] rfl rfl (take_ofW HT_.out HW_.out (by kernel_rfl)) (fun _ _ _ h => h) (Or.inl ⟨by rfl, ?_⟩) hHeld ?_ ?_
     rotate_left
     ·rintro w' ⟨s0, s1, s2, s3⟩
      go_simp
      with_reducible rfl
     rotate_left
     ·simp only [Act.put, List.setIfInBounds_toArray, List.set_cons_zero, List.set_cons_succ, i64_w, i32_w]
      rfl
     refine take_ (i := 11) (N := some 67) (v := ?_) (a' := ?_) #[true, true, true, true, true, true, true, true, true, true, false, true, false, false, false] rfl rfl (take_ofW HT_.out HW_.out (by kernel_rfl)) (fun _ _ _ h => h) (Or.inl ⟨by rfl, ?_⟩) hHeld ?_ ?_
     rotate_left
     ·rintro w' ⟨s0, s1, s2, s3⟩
      go_simp
      with_reducible rfl
     rotate_left
     ·simp only [Act.put, List.setIfInBounds_toArray, List.set_cons_zero, List.set_cons_succ, i64_w, i32_w]
      rfl
     refine one_ (i := 10) (N := some 66) #[true, true, true, true, true, true, true, true, true, true, true, true, false, false, false] rfl rfl (one_of HT_.out (by kernel_rfl)) (by decide) (fun K hK => ?_)
     refine goes_ Try.func65 (by kernel_rfl) rfl #[.agg #[.int .i64 t376, .int .i64 t377, .int .i64 t378, .int .i64 t379]] (by rfl) rfl rfl gl_ ?_
     with_reducible refine (impl_IsTool.calls k t376 t377 t378 t379 t386 _ A17.out).mono ?_
     rintro e w20 ⟨rfl, hb⟩
     refine ⟨_, rfl, ?_⟩
     have n0_ := Aside0.mk (blk_below (bk_ BK381) hb)
     have n1_ := Aside0.mk (below_step bx_ hb)
     clear BK381; clear HB; have BK381 := n0_; have HB := n1_; clear n0_ n1_; (try clear hb)
     
     (try clear hk)
     
     refine hK.out _ _ ⟨(blk_cell BK381.out 0).trans rfl, (blk_cell BK381.out 1).trans rfl, (blk_cell BK381.out 2).trans rfl, (blk_cell BK381.out 3).trans rfl⟩ (fun hHeld => ?_)
     clear hK K
     refine norm_ (a' := ?_) ?_ ?_
     rotate_left
     ·show Act.put _ (some 66) _ = _
      simp only [Act.put, List.setIfInBounds_toArray, List.set_cons_zero, List.set_cons_succ, i64_w, i32_w]
      rfl
     refine one_ (i := 12) (N := some 68) #[true, true, true, true, true, true, true, true, true, true, true, true, true, false, false] rfl rfl (one_of HT_.out (by kernel_rfl)) (by decide) (fun K hK => ?_)
     refine goes_ Try.func66 (by kernel_rfl) rfl #[.agg #[.int .i64 t376, .int .i64 t377, .int .i64 t378, .int .i64 t379]] (by rfl) rfl rfl gl_ ?_
     with_reducible refine (spec_IsTool.calls t376 t377 t378 t379 t387 _ A18.out).mono ?_
     rintro e w21 ⟨rfl, hb⟩
     refine ⟨_, rfl, ?_⟩
     have n0_ := Aside0.mk (blk_below (bk_ BK381) hb)
     have n1_ := Aside0.mk (below_step bx_ hb)
     clear BK381; clear HB; have BK381 := n0_; have HB := n1_; clear n0_ n1_; (try clear hb)
     
     (try clear hk)
     
     refine hK.out _ _ ⟨(blk_cell BK381.out 0).trans rfl, (blk_cell BK381.out 1).trans rfl, (blk_cell BK381.out 2).trans rfl, (blk_cell BK381.out 3).trans rfl⟩ (fun hHeld => ?_)
     clear hK K
     refine norm_ (a' := ?_) ?_ ?_
     rotate_left
     ·show Act.put _ (some 68) _ = _
      simp only [Act.put, List.setIfInBounds_toArray, List.set_cons_zero, List.set_cons_succ, i64_w, i32_w]
      rfl
     refine pure_ (i := 13) (N := some 69) (v := ?_) (a' := ?_) #[true, true, true, true, true, true, true, true, true, true, true, true, true, true, false] rfl rfl (any_of HT_.out (by kernel_rfl)) (fun _ _ _ h => h) (Or.inl ⟨by rfl, ?_⟩) ?_ ?_
     rotate_left
     ·intro w'
      go_simp
      with_reducible rfl
     rotate_left
     ·simp only [Act.put, List.setIfInBounds_toArray, List.set_cons_zero, List.set_cons_succ, i64_w, i32_w]
      rfl
     refine pure_ (i := 14) (N := some 70) (v := ?_) (a' := ?_) #[true, true, true, true, true, true, true, true, true, true, true, true, true, true, true] rfl rfl (any_of HT_.out (by kernel_rfl)) (fun _ _ _ h => h) (Or.inl ⟨by rfl, ?_⟩) ?_ ?_
     rotate_left
     ·intro w'
      go_simp
      with_reducible rfl
     rotate_left
     ·simp only [Act.put, List.setIfInBounds_toArray, List.set_cons_zero, List.set_cons_succ, i64_w, i32_w]
      rfl
     refine done_ (done_of HT_.out (by kernel_rfl)) ?_
     try go_wp2
     go_meet
     case rel => exact ⟨_, ((t386 != t387)), (by first | rfl | (simp; done) | (simp [*]; done)), H', ⟨by first | omega | exact Nat.le_refl _⟩, ⟨by (with_reducible repeat (first | refine blk_drewN ?_ _ | refine blk_drew ?_ | refine blk_alloc ?_ _)); exact BK381.out⟩, ⟨by repeat (first | (with_reducible first | exact HB.out | apply below_alloc | apply pw_below_drewN | apply below_drew1 | refine below_set ?_ GE381.out) | exact HB.out)⟩⟩
   ·rw [if_neg c14] at H
    have c14b0 : (t382 == t384) = false := beq_eq_false_iff_ne.mpr c14
    have c14b1 : (t382 != t384) = true := bne_iff_ne.mpr c14
    (first | rw [c14b0] | (simp only [i64_w, i32_w]; rw [c14b0]) | skip)
    have H' := Aside0.mk H
    clear H
    try go_wp2
    have n0_ := Aside0.mk (blk_drew BK381.out)
    have n1_ := Aside0.mk (below_drew1 HB.out)
    clear BK381; clear HB; have BK381 := n0_; have HB := n1_; clear n0_ n1_
    refine start_ (n := 15) (S := fun w' => True) (ds := []) #[false, false, false, false, false, false, false, false, false, false, false, false, false, false, false] (by kernel_rfl) rfl rfl trivial (fun hHeld => ?_); refine with_tabW laws_FnTools.tab6 laws_FnTools.bits6 (fun HT_ HW_ => ?_)
    generalize w13.drew = w22 at BK381 HB hHeld ⊢
    refine pure_ (i := 0) (N := some 56) (v := ?_) (a' := ?_) #[true, false, false, false, false, false, false, false, false, false, false, false, false, false, false] rfl rfl (any_of HT_.out (by kernel_rfl)) (fun _ _ _ h => h) (Or.inl ⟨by rfl, ?_⟩) ?_ ?_
    rotate_left
    ·intro w'
     go_simp
     with_reducible rfl
    rotate_left
    ·simp only [Act.put, List.setIfInBounds_toArray, List.set_cons_zero, List.set_cons_succ, i64_w, i32_w]
     rfl
    refine pure_ (i := 1) (N := some 57) (v := ?_) (a' := ?_) #[true, true, false, false, false, false, false, false, false, false, false, false, false, false, false] rfl rfl (any_of HT_.out (by kernel_rfl)) (fun _ _ _ h => h) (Or.inl ⟨by rfl, ?_⟩) ?_ ?_
    rotate_left
    ·intro w'
     go_simp
     with_reducible rfl
    rotate_left
    ·simp only [Act.put, List.setIfInBounds_toArray, List.set_cons_zero, List.set_cons_succ, i64_w, i32_w]
     rfl
    refine pure_ (i := 2) (N := some 58) (v := ?_) (a' := ?_) #[true, true, true, false, false, false, false, false, false, false, false, false, false, false, false] rfl rfl (any_of HT_.out (by kernel_rfl)) (fun _ _ _ h => h) (Or.inl ⟨by rfl, ?_⟩) ?_ ?_
    rotate_left
    ·intro w'
     go_simp
     with_reducible rfl
    rotate_left
    ·simp only [Act.put, List.setIfInBounds_toArray, List.set_cons_zero, List.set_cons_succ, i64_w, i32_w]
     rfl
    refine pure_ (i := 3) (N := some 59) (v := ?_) (a' := ?_) #[true, true, true, true, false, false, false, false, false, false, false, false, false, false, false] rfl rfl (any_of HT_.out (by kernel_rfl)) (fun _ _ _ h => h) (Or.inl ⟨by rfl, ?_⟩) ?_ ?_
    rotate_left
    ·intro w'
     go_simp
     with_reducible rfl
    rotate_left
    ·simp only [Act.put, List.setIfInBounds_toArray, List.set_cons_zero, List.set_cons_succ, i64_w, i32_w]
     rfl
    refine pure_ (i := 4) (N := some 60) (v := undef) (a' := ?_) #[true, true, true, true, true, false, false, false, false, false, false, false, false, false, false] rfl rfl (any_of HT_.out (by kernel_rfl)) (fun _ _ _ h => h) (Or.inr ⟨by rfl, rfl⟩) ?_ ?_
    rotate_left
    ·simp only [Act.put, List.setIfInBounds_toArray, List.set_cons_zero, List.set_cons_succ, i64_w, i32_w]
     rfl
    refine pure_ (i := 5) (N := some 61) (v := undef) (a' := ?_) #[true, true, true, true, true, true, false, false, false, false, false, false, false, false, false] rfl rfl (any_of HT_.out (by kernel_rfl)) (fun _ _ _ h => h) (Or.inr ⟨by rfl, rfl⟩) ?_ ?_
    rotate_left
    ·simp only [Act.put, List.setIfInBounds_toArray, List.set_cons_zero, List.set_cons_succ, i64_w, i32_w]
     rfl
    refine pure_ (i := 6) (N := some 62) (v := undef) (a' := ?_) #[true, true, true, true, true, true, true, false, false, false, false, false, false, false, false] rfl rfl (any_of HT_.out (by kernel_rfl)) (fun _ _ _ h => h) (Or.inr ⟨by rfl, rfl⟩) ?_ ?_
    rotate_left
    ·simp only [Act.put, List.setIfInBounds_toArray, List.set_cons_zero, List.set_cons_succ, i64_w, i32_w]
     rfl
    refine pure_ (i := 7) (N := some 63) (v := ?_) (a' := ?_) #[true, true, true, true, true, true, true, true, false, false, false, false, false, false, false] rfl rfl (any_of HT_.out (by kernel_rfl)) (fun _ _ _ h => h) (Or.inl ⟨by rfl, ?_⟩) ?_ ?_
    rotate_left
    ·intro w'
     go_simp
     with_reducible rfl
    rotate_left
    ·simp only [Act.put, List.setIfInBounds_toArray, List.set_cons_zero, List.set_cons_succ, i64_w, i32_w]
     rfl
    refine pure_ (i := 8) (N := some 64) (v := ?_) (a' := ?_) #[true, true, true, true, true, true, true, true, true, false, false, false, false, false, false] rfl rfl (any_of HT_.out (by kernel_rfl)) (fun _ _ _ h => h) (Or.inl ⟨by rfl, ?_⟩) ?_ ?_
    rotate_left
    ·intro w'
     go_simp
     with_reducible rfl
    rotate_left
    ·simp only [Act.put, List.setIfInBounds_toArray, List.set_cons_zero, List.set_cons_succ, i64_w, i32_w]
     rfl
    refine pure_ (i := 9) (N := some 65) (v := undef) (a' := ?_) #[true, true, true, true, true, true, true, true, true, true, false, false, false, false, false] rfl rfl (any_of HT_.out (by kernel_rfl)) (fun _ _ _ h => h) (Or.inr ⟨by rfl, rfl⟩) ?_ ?_
    rotate_left
    ·simp only [Act.put, List.setIfInBounds_toArray, List.set_cons_zero, List.set_cons_succ, i64_w, i32_w]
     rfl
    refine pure_ (i := 10) (N := some 66) (v := undef) (a' := ?_) #[true, true, true, true, true, true, true, true, true, true, true, false, false, false, false] rfl rfl (any_of HT_.out (by kernel_rfl)) (fun _ _ _ h => h) (Or.inr ⟨by rfl, rfl⟩) ?_ ?_
    rotate_left
    ·simp only [Act.put, List.setIfInBounds_toArray, List.set_cons_zero, List.set_cons_succ, i64_w, i32_w]
     rfl
    refine pure_ (i := 11) (N := some 67) (v := undef) (a' := ?_) #[true, true, true, true, true, true, true, true, true, true, true, true, false, false, false] rfl rfl (any_of HT_.out (by kernel_rfl)) (fun _ _ _ h => h) (Or.inr ⟨by rfl, rfl⟩) ?_ ?_
    rotate_left
    ·simp only [Act.put, List.setIfInBounds_toArray, List.set_cons_zero, List.set_cons_succ, i64_w, i32_w]
     rfl
    refine pure_ (i := 12) (N := some 68) (v := undef) (a' := ?_) #[true, true, true, true, true, true, true, true, true, true, true, true, true, false, false] rfl rfl (any_of HT_.out (by kernel_rfl)) (fun _ _ _ h => h) (Or.inr ⟨by rfl, rfl⟩) ?_ ?_
    rotate_left
    ·simp only [Act.put, List.setIfInBounds_toArray, List.set_cons_zero, List.set_cons_succ, i64_w, i32_w]
     rfl
    refine pure_ (i := 13) (N := some 69) (v := undef) (a' := ?_) #[true, true, true, true, true, true, true, true, true, true, true, true, true, true, false] rfl rfl (any_of HT_.out (by kernel_rfl)) (fun _ _ _ h => h) (Or.inr ⟨by rfl, rfl⟩) ?_ ?_
    rotate_left
    ·simp only [Act.put, List.setIfInBounds_toArray, List.set_cons_zero, List.set_cons_succ, i64_w, i32_w]
     rfl
    refine pure_ (i := 14) (N := some 70) (v := ?_) (a' := ?_) #[true, true, true, true, true, true, true, true, true, true, true, true, true, true, true] rfl rfl (any_of HT_.out (by kernel_rfl)) (fun _ _ _ h => h) (Or.inl ⟨by rfl, ?_⟩) ?_ ?_
    rotate_left
    ·intro w'
     go_simp
     with_reducible rfl
    rotate_left
    ·simp only [Act.put, List.setIfInBounds_toArray, List.set_cons_zero, List.set_cons_succ, i64_w, i32_w]
     rfl
    refine done_ (done_of HT_.out (by kernel_rfl)) ?_
    try go_wp2
    go_meet
    case rel => exact ⟨_, (true), (by first | rfl | (simp; done) | (simp [*]; done)), H', ⟨by first | omega | exact Nat.le_refl _⟩, ⟨by (with_reducible repeat (first | refine blk_drewN ?_ _ | refine blk_drew ?_ | refine blk_alloc ?_ _)); exact BK381.out⟩, ⟨by repeat (first | (with_reducible first | exact HB.out | apply below_alloc | apply pw_below_drewN | apply below_drew1 | refine below_set ?_ GE381.out) | exact HB.out)⟩⟩
  case rest => as_aux_lemma =>
   clear HC7; (try clear c3); (try clear c14); (try clear c14b0); (try clear c14b1); (try clear c15); (try clear c15b0); (try clear c15b1); (try clear c15b2); (try clear z10_0); (try clear z10_1); (try clear z10_2); (try clear z10_3); (try clear z12_0); (try clear z12_1); (try clear z12_2); (try clear z12_3); (try clear y10_0); (try clear y10_1); (try clear y10_2); (try clear y10_3); (try clear y12_0); (try clear y12_1); (try clear y12_2); (try clear y12_3); obtain ⟨kq, x70_6, rfl, HA, HJ6, BK381, HB⟩ := hcut
   cases kq with
   | zero => exact absurd HA.out (by simp [laws_FnTools.j0])
   | succ kj6 =>
    have H := HA.out; clear HA
    simp only [laws_FnTools.j0] at H
    by_cases c23 : x70_6 = true
    ·subst c23
     have H1 : (none) = some r := by rw [if_pos rfl] at H; exact H
     clear H; have H := H1; clear H1
     exact absurd H (by simp)
    ·replace c23 := Bool.eq_false_iff.mpr c23
     subst c23
     have H1 : (if t383 = true then ((impl_ReadBack.f kj6 t376 t377 t378 t379 t382).bind fun bt388 => ((impl_CorrectReading.f kj6 t376 t377 t378 t379 bt388.1).bind fun bt390 => (if bt388.2 = true then (if bt390.2 = true then (if bt390.1 = t382 then (if bt388.1 > t380 then (none) else (laws_FnTools.j1 kj6 l0)) else (none)) else (none)) else (none)))) else (laws_FnTools.j1 kj6 l0)) = some r := by rw [if_neg (show ¬ (false = true) by decide)] at H; exact H
     clear H; have H := H1; clear H1; have HC24 := Aside0.mk H; clear H
     go_upto_if 71 with (fail)
     go_cut [] (fun wc => ∃ (kq : Nat), Aside0 (laws_FnTools.j1 kq l0 = some r) ∧ Aside0 (kq ≤ kj6) ∧ Aside0 (wc.heap[gb381]? = some (.cells #[.int .i64 t376, .int .i64 t377, .int .i64 t378, .int .i64 t379] 44 (0, 0))) ∧ Aside0 (Below w.heap.size w wc))
     case first => as_aux_lemma =>
      have H := HC24.out; clear HC24
      by_cases c25 : t383 = true
      ·subst c25
       have H1 : ((impl_ReadBack.f kj6 t376 t377 t378 t379 t382).bind fun bt388 => ((impl_CorrectReading.f kj6 t376 t377 t378 t379 bt388.1).bind fun bt390 => (if bt388.2 = true then (if bt390.2 = true then (if bt390.1 = t382 then (if bt388.1 > t380 then (none) else (laws_FnTools.j1 kj6 l0)) else (none)) else (none)) else (none)))) = some r := by rw [if_pos rfl] at H; exact H
       clear H; have H := H1; clear H1; replace H := Option.bind_eq_some_iff.mp H; obtain ⟨⟨t388, t389⟩, A260, H⟩ := H
       replace H : ((impl_CorrectReading.f kj6 t376 t377 t378 t379 t388).bind fun bt390 => (if t389 = true then (if bt390.2 = true then (if bt390.1 = t382 then (if t388 > t380 then (none) else (laws_FnTools.j1 kj6 l0)) else (none)) else (none)) else (none))) = some r := H
       have A26 := Aside0.mk A260; clear A260; replace H := Option.bind_eq_some_iff.mp H; obtain ⟨⟨t390, t391⟩, A270, H⟩ := H
       replace H : (if t389 = true then (if t391 = true then (if t390 = t382 then (if t388 > t380 then (none) else (laws_FnTools.j1 kj6 l0)) else (none)) else (none)) else (none)) = some r := H
       have A27 := Aside0.mk A270; clear A270
       by_cases c28 : t389 = true
       ·subst c28
        have H1 : (if t391 = true then (if t390 = t382 then (if t388 > t380 then (none) else (laws_FnTools.j1 kj6 l0)) else (none)) else (none)) = some r := by rw [if_pos rfl] at H; exact H
        clear H; have H := H1; clear H1
        by_cases c29 : t391 = true
        ·subst c29
         have H1 : (if t390 = t382 then (if t388 > t380 then (none) else (laws_FnTools.j1 kj6 l0)) else (none)) = some r := by rw [if_pos rfl] at H; exact H
         clear H; have H := H1; clear H1
         by_cases c30 : t390 = t382
         ·rw [if_pos c30] at H
          have c30b0 : (t390 == t382) = true := beq_iff_eq.mpr c30
          have c30b1 : (t390 != t382) = false := bne_eq_false_iff_eq.mpr c30
          clear c30
          (first | rw [c30b0] | (simp only [i64_w, i32_w]; rw [c30b0]) | skip)
          by_cases c31 : t388 > t380
          ·rw [if_pos c31] at H
           exact absurd H (by simp)
          ·rw [if_neg c31] at H
           have c31b0 : decide (t380 < t388) = false := decide_eq_false c31
           clear c31
           have H' := Aside0.mk H
           clear H
           have z32_0 : wc.cell? ⟨gb381, 0, none⟩ = some (.int .i64 t376) := (blk_cell BK381.out 0).trans rfl
           have z32_1 : wc.cell? ⟨gb381, 1, none⟩ = some (.int .i64 t377) := (blk_cell BK381.out 1).trans rfl
           have z32_2 : wc.cell? ⟨gb381, 2, none⟩ = some (.int .i64 t378) := (blk_cell BK381.out 2).trans rfl
           have z32_3 : wc.cell? ⟨gb381, 3, none⟩ = some (.int .i64 t379) := (blk_cell BK381.out 3).trans rfl
           have y32_0 := blk_frozen BK381.out 0; have y32_1 := blk_frozen BK381.out 1; have y32_2 := blk_frozen BK381.out 2; have y32_3 := blk_frozen BK381.out 3
           go_wp2_with (first | ((with_reducible refine gate_callee (f := 67) rfl ?_); refine goesL_ (some 75) rfl rfl Try.func67 (by kernel_rfl) rfl #[.agg #[.int .i64 t376, .int .i64 t377, .int .i64 t378, .int .i64 t379], .int .i64 t382] rfl gl_ ?_; (with_reducible refine (impl_ReadBack.calls kj6 t376 t377 t378 t379 t382 t388 true _ A26.out).mono ?_); rintro e w33 ⟨rfl, hb⟩; refine ⟨_, rfl, ?_⟩; have n0_ := Aside0.mk (blk_below (bk_ BK381) hb); have n1_ := Aside0.mk (below_step bx_ hb); clear BK381; clear HB; have BK381 := n0_; have HB := n1_; clear n0_ n1_; (try clear hb); (try clear hk); have z34_0 : w33.cell? ⟨gb381, 0, none⟩ = some (.int .i64 t376) := (blk_cell BK381.out 0).trans rfl; have z34_1 : w33.cell? ⟨gb381, 1, none⟩ = some (.int .i64 t377) := (blk_cell BK381.out 1).trans rfl; have z34_2 : w33.cell? ⟨gb381, 2, none⟩ = some (.int .i64 t378) := (blk_cell BK381.out 2).trans rfl; have z34_3 : w33.cell? ⟨gb381, 3, none⟩ = some (.int .i64 t379) := (blk_cell BK381.out 3).trans rfl; have y34_0 := blk_frozen BK381.out 0; have y34_1 := blk_frozen BK381.out 1; have y34_2 := blk_frozen BK381.out 2; have y34_3 := blk_frozen BK381.out 3) | ((with_reducible refine gate_callee (f := 63) rfl ?_); refine goesL_ (some 81) rfl rfl Try.func63 (by kernel_rfl) rfl #[.agg #[.int .i64 t376, .int .i64 t377, .int .i64 t378, .int .i64 t379], .int .i64 t388] rfl gl_ ?_; (with_reducible refine (impl_CorrectReading.calls kj6 t376 t377 t378 t379 t388 t390 true _ A27.out).mono ?_); rintro e w35 ⟨rfl, hb⟩; refine ⟨_, rfl, ?_⟩; have n0_ := Aside0.mk (blk_below (bk_ BK381) hb); have n1_ := Aside0.mk (below_step bx_ hb); clear BK381; clear HB; have BK381 := n0_; have HB := n1_; clear n0_ n1_; (try clear hb); (try clear hk)))
           go_meet
           case rel => exact ⟨_, H', ⟨by have := HJ6.out; first | omega | exact Nat.le_refl _⟩, ⟨by (with_reducible repeat (first | refine blk_drewN ?_ _ | refine blk_drew ?_ | refine blk_alloc ?_ _)); exact BK381.out⟩, ⟨by repeat (first | (with_reducible first | exact HB.out | apply below_alloc | apply pw_below_drewN | apply below_drew1 | refine below_set ?_ GE381.out) | exact HB.out)⟩⟩
         ·rw [if_neg c30] at H
          exact absurd H (by simp)
        ·replace c29 := Bool.eq_false_iff.mpr c29
         subst c29
         have H1 : (none) = some r := by rw [if_neg (show ¬ (false = true) by decide)] at H; exact H
         clear H; have H := H1; clear H1
         exact absurd H (by simp)
       ·replace c28 := Bool.eq_false_iff.mpr c28
        subst c28
        have H1 : (none) = some r := by rw [if_neg (show ¬ (false = true) by decide)] at H; exact H
        clear H; have H := H1; clear H1
        exact absurd H (by simp)
      ·replace c25 := Bool.eq_false_iff.mpr c25
       subst c25
       have H1 : (laws_FnTools.j1 kj6 l0) = some r := by rw [if_neg (show ¬ (false = true) by decide)] at H; exact H
       clear H; have H := H1; clear H1
       have H' := Aside0.mk H
       clear H
       go_wp2
       go_meet
       case rel => exact ⟨_, H', ⟨by have := HJ6.out; first | omega | exact Nat.le_refl _⟩, ⟨by (with_reducible repeat (first | refine blk_drewN ?_ _ | refine blk_drew ?_ | refine blk_alloc ?_ _)); exact BK381.out⟩, ⟨by repeat (first | (with_reducible first | exact HB.out | apply below_alloc | apply pw_below_drewN | apply below_drew1 | refine below_set ?_ GE381.out) | exact HB.out)⟩⟩
     case rest => as_aux_lemma =>
      clear HC24; (try clear c3); (try clear c14); (try clear c14b0); (try clear c14b1); (try clear c15); (try clear c15b0); (try clear c15b1); (try clear c15b2); (try clear c23); (try clear c25); (try clear c28); (try clear c29); (try clear c30); (try clear c30b0); (try clear c30b1); (try clear c31); (try clear c31b0); (try clear z10_0); (try clear z10_1); (try clear z10_2); (try clear z10_3); (try clear z12_0); (try clear z12_1); (try clear z12_2); (try clear z12_3); (try clear z32_0); (try clear z32_1); (try clear z32_2); (try clear z32_3); (try clear z34_0); (try clear z34_1); (try clear z34_2); (try clear z34_3); (try clear y10_0); (try clear y10_1); (try clear y10_2); (try clear y10_3); (try clear y12_0); (try clear y12_1); (try clear y12_2); (try clear y12_3); (try clear y32_0); (try clear y32_1); (try clear y32_2); (try clear y32_3); (try clear y34_0); (try clear y34_1); (try clear y34_2); (try clear y34_3); obtain ⟨kq, HA, HJ23, BK381, HB⟩ := hcut
      cases kq with
      | zero => exact absurd HA.out (by simp [laws_FnTools.j1])
      | succ kj23 =>
       have H := HA.out; clear HA
       simp only [laws_FnTools.j1] at H
       replace H := Option.bind_eq_some_iff.mp H; obtain ⟨⟨t392, t393, t394, t395, t396⟩, A360, H⟩ := H
       replace H : ((impl_FitZero.f kj23 t392 t393 t394 t395 t396).bind fun bt400 => ((spec_FitZero.f kj23 t392 t393 t394 t395 t396).bind fun bt406 => (if (!(bt400.1 == bt406.1) || (!(bt400.2.1 == bt406.2.1) || (!(bt400.2.2.1 == bt406.2.2.1) || (!(bt400.2.2.2.1 == bt406.2.2.2.1))))) = true then (laws_FnTools.j2 kj23 l0 t396 bt400.2.2.2.2 true t392 t393 t394 t395 bt400.1 bt400.2.1 bt400.2.2.1 bt400.2.2.2.1) else (laws_FnTools.j2 kj23 l0 t396 bt400.2.2.2.2 (bt400.2.2.2.2 != bt406.2.2.2.2) t392 t393 t394 t395 bt400.1 bt400.2.1 bt400.2.2.1 bt400.2.2.2.1)))) = some r := H
       have A36 := Aside0.mk A360; clear A360; replace H := Option.bind_eq_some_iff.mp H; obtain ⟨⟨t400, t401, t402, t403, t404⟩, A370, H⟩ := H
       replace H : ((spec_FitZero.f kj23 t392 t393 t394 t395 t396).bind fun bt406 => (if (!(t400 == bt406.1) || (!(t401 == bt406.2.1) || (!(t402 == bt406.2.2.1) || (!(t403 == bt406.2.2.2.1))))) = true then (laws_FnTools.j2 kj23 l0 t396 t404 true t392 t393 t394 t395 t400 t401 t402 t403) else (laws_FnTools.j2 kj23 l0 t396 t404 (t404 != bt406.2.2.2.2) t392 t393 t394 t395 t400 t401 t402 t403))) = some r := H
       have A37 := Aside0.mk A370; clear A370; replace H := Option.bind_eq_some_iff.mp H; obtain ⟨⟨t406, t407, t408, t409, t410⟩, A380, H⟩ := H
       replace H : (if (!(t400 == t406) || (!(t401 == t407) || (!(t402 == t408) || (!(t403 == t409))))) = true then (laws_FnTools.j2 kj23 l0 t396 t404 true t392 t393 t394 t395 t400 t401 t402 t403) else (laws_FnTools.j2 kj23 l0 t396 t404 (t404 != t410) t392 t393 t394 t395 t400 t401 t402 t403)) = some r := H
       have A38 := Aside0.mk A380; clear A380; have HC39 := Aside0.mk H; clear H
       go_upto_region 16 with (first | ((with_reducible refine gate_callee (f := 68) rfl ?_); refine goesL_ (some 102) rfl rfl Try.func68 (by kernel_rfl) rfl #[.slice A0 l0.length c0] rfl gl_ ?_; (with_reducible refine (spec_DrawFitZero.calls kj23 _ _ l0 t392 t393 t394 t395 t396 _ ?side1 ?side2 A36.out).mono ?_); (case side1 => repeat (first | exact (Kd.C_below HR0.out HB.out) | (with_reducible refine Kd.C_alloc ?_ _) | (with_reducible refine Kd.C_drewN ?_ _) | (with_reducible refine Kd.C_drew ?_))); (case side2 => exact HC0.out); rintro e w40 ⟨v397, rfl, ho0, hb⟩; refine ⟨_, rfl, ?_⟩; have n0_ := Aside0.mk (Kd.R_lower ho0 (below_size bx_)); have n1_ := Aside0.mk (blk_below (bk_ BK381) hb); have n2_ := Aside0.mk (below_step bx_ hb); clear BK381; clear HB; have HO398 := n0_; have BK381 := n1_; have HB := n2_; clear n0_ n1_ n2_; (try clear hb); (try clear hk); (try clear ho0)) | ((with_reducible refine gate_dst (N := 13) rfl ?_); refine box_event ?hg (N := 13) ?hd (cs := #[.int .i64 0, .int .i64 0, .int .i64 0, .int .i64 0]) (t := 44) ?hr ?_; (case hd => rfl); (case hg => rfl); (case hr => first | (go_simp; done) | (go_simp; rfl)); intro gb399 hg w41 hbox hb; have n0_ := Aside0.mk (Kd.R_below (kr_ HO398) hb); have n1_ := Aside0.mk (blk_below (bk_ BK381) hb); have n2_ := Aside0.mk (below_step bx_ hb); have n3_ := Aside0.mk (hbox); have n4_ := Aside0.mk ((by rw [hg]; exact (below_size bx_) : w.heap.size ≤ gb399)); have n5_ := Aside0.mk ((by rw [hg]; exact (below_size bx_) : w.heap.size ≤ gb399)); have n6_ := Aside0.mk ((by rw [hg]; exact Nat.ne_of_lt (blk_lt (g := gb381) (o := .cells #[.int .i64 t376, .int .i64 t377, .int .i64 t378, .int .i64 t379] 44 (0, 0)) (by (with_reducible repeat (first | refine blk_drewN ?_ _ | refine blk_drew ?_ | refine blk_alloc ?_ _)); exact BK381.out)) : gb381 ≠ gb399)); have n7_ := Aside0.mk ((by rw [hg]; exact Nat.ne_of_gt (blk_lt (g := gb381) (o := .cells #[.int .i64 t376, .int .i64 t377, .int .i64 t378, .int .i64 t379] 44 (0, 0)) (by (with_reducible repeat (first | refine blk_drewN ?_ _ | refine blk_drew ?_ | refine blk_alloc ?_ _)); exact BK381.out)) : gb399 ≠ gb381)); clear HO398; clear BK381; clear HB; have HO398 := n0_; have BK381 := n1_; have HB := n2_; have BK399 := n3_; have GW399 := n4_; have GE399 := n5_; have NB381_399 := n6_; have NB399_381 := n7_; clear n0_ n1_ n2_ n3_ n4_ n5_ n6_ n7_; clear hb hbox hg; have hnb42 := NB399_381.out; have hnc42 := NB381_399.out; have z43_0 : w41.cell? ⟨gb399, 0, none⟩ = some (.int .i64 0) := (blk_cell BK399.out 0).trans rfl; have z43_1 : w41.cell? ⟨gb399, 1, none⟩ = some (.int .i64 0) := (blk_cell BK399.out 1).trans rfl; have z43_2 : w41.cell? ⟨gb399, 2, none⟩ = some (.int .i64 0) := (blk_cell BK399.out 2).trans rfl; have z43_3 : w41.cell? ⟨gb399, 3, none⟩ = some (.int .i64 0) := (blk_cell BK399.out 3).trans rfl; have y43_0 := blk_frozen BK399.out 0; have y43_1 := blk_frozen BK399.out 1; have y43_2 := blk_frozen BK399.out 2; have y43_3 := blk_frozen BK399.out 3; obtain ⟨Ao44, co44, eo44⟩ := Kd.R_slice HO398.out; subst eo44) | ((with_reducible refine gate_callee (f := 52) rfl ?_); refine goesL_ (some 108) rfl rfl Try.func52 (by kernel_rfl) rfl #[.agg #[.int .i64 t392, .int .i64 t393, .int .i64 t394, .int .i64 t395], .slice Ao44 t396.length co44] rfl gl_ ?_; (with_reducible refine (impl_FitZero.calls kj23 t392 t393 t394 t395 _ _ t396 t400 t401 t402 t403 t404 _ ?side1 ?side2 A37.out).mono ?_); (case side1 => refine (Kd.R_reads' (e := 46) (base := w.heap.size) (ok := fun k_ => True) (n := t396.length) (c := co44) ?_).2.2; exact (by (with_reducible repeat (first | apply Kd.R_alloc | apply Kd.R_drewN | apply Kd.R_drew)); exact (Kd.R_mono (Kd.R_far (p := ⟨gb399, 3, none⟩) (Kd.R_far (p := ⟨gb399, 2, none⟩) (Kd.R_far (p := ⟨gb399, 1, none⟩) (Kd.R_far (p := ⟨gb399, 0, none⟩) (Kd.R_types HO398.out BK399.out (by decide)) (fun _ hk => hk.2) (.int .i64 t392)) (fun _ hk => hk.2) (.int .i64 t393)) (fun _ hk => hk.2) (.int .i64 t394)) (fun _ hk => hk.2) (.int .i64 t395)) (fun _ h_ => h_.1)))); (case side2 => exact (Kd.R_reads' HO398.out).2.1); rintro e w45 ⟨rfl, hb⟩; refine ⟨_, rfl, ?_⟩; have n0_ := Aside0.mk (Kd.R_below (by (with_reducible repeat (first | apply Kd.R_alloc | apply Kd.R_drewN | apply Kd.R_drew)); exact (Kd.R_mono (Kd.R_far (p := ⟨gb399, 3, none⟩) (Kd.R_far (p := ⟨gb399, 2, none⟩) (Kd.R_far (p := ⟨gb399, 1, none⟩) (Kd.R_far (p := ⟨gb399, 0, none⟩) (Kd.R_types HO398.out BK399.out (by decide)) (fun _ hk => hk.2) (.int .i64 t392)) (fun _ hk => hk.2) (.int .i64 t393)) (fun _ hk => hk.2) (.int .i64 t394)) (fun _ hk => hk.2) (.int .i64 t395)) (fun _ h_ => h_.1))) hb); have n1_ := Aside0.mk (blk_below (g := gb381) (o := .cells #[.int .i64 t376, .int .i64 t377, .int .i64 t378, .int .i64 t379] 44 (0, 0)) (by (with_reducible repeat (first | refine blk_drewN ?_ _ | refine blk_drew ?_ | refine blk_alloc ?_ _)); refine blk_far ?_ NB381_399.out _; (with_reducible repeat (first | refine blk_drewN ?_ _ | refine blk_drew ?_ | refine blk_alloc ?_ _)); refine blk_far ?_ NB381_399.out _; (with_reducible repeat (first | refine blk_drewN ?_ _ | refine blk_drew ?_ | refine blk_alloc ?_ _)); refine blk_far ?_ NB381_399.out _; (with_reducible repeat (first | refine blk_drewN ?_ _ | refine blk_drew ?_ | refine blk_alloc ?_ _)); refine blk_far ?_ NB381_399.out _; (with_reducible repeat (first | refine blk_drewN ?_ _ | refine blk_drew ?_ | refine blk_alloc ?_ _)); exact BK381.out) hb); have n2_ := Aside0.mk (blk_below (g := gb399) (o := .cells #[.int .i64 t392, .int .i64 t393, .int .i64 t394, .int .i64 t395] 44 (0, 0)) (by (with_reducible repeat (first | refine blk_drewN ?_ _ | refine blk_drew ?_ | refine blk_alloc ?_ _)); refine blk_put (cs := #[.int .i64 t392, .int .i64 t393, .int .i64 t394, .int .i64 0]) ?_ 3 _ rfl; (with_reducible repeat (first | refine blk_drewN ?_ _ | refine blk_drew ?_ | refine blk_alloc ?_ _)); refine blk_put (cs := #[.int .i64 t392, .int .i64 t393, .int .i64 0, .int .i64 0]) ?_ 2 _ rfl; (with_reducible repeat (first | refine blk_drewN ?_ _ | refine blk_drew ?_ | refine blk_alloc ?_ _)); refine blk_put (cs := #[.int .i64 t392, .int .i64 0, .int .i64 0, .int .i64 0]) ?_ 1 _ rfl; (with_reducible repeat (first | refine blk_drewN ?_ _ | refine blk_drew ?_ | refine blk_alloc ?_ _)); refine blk_put (cs := #[.int .i64 0, .int .i64 0, .int .i64 0, .int .i64 0]) ?_ 0 _ rfl; (with_reducible repeat (first | refine blk_drewN ?_ _ | refine blk_drew ?_ | refine blk_alloc ?_ _)); exact BK399.out) hb); have n3_ := Aside0.mk (below_step bx_ hb); clear HO398; clear BK381; clear BK399; clear HB; have HO398 := n0_; have BK381 := n1_; have BK399 := n2_; have HB := n3_; clear n0_ n1_ n2_ n3_; (try clear hb); (try clear hk)) | ((with_reducible refine gate_dst (N := 15) rfl ?_); refine box_event ?hg (N := 15) ?hd (cs := #[.int .i64 0, .int .i64 0, .int .i64 0, .int .i64 0]) (t := 44) ?hr ?_; (case hd => rfl); (case hg => rfl); (case hr => first | (go_simp; done) | (go_simp; rfl)); intro gb405 hg w46 hbox hb; have n0_ := Aside0.mk (Kd.R_below (kr_ HO398) hb); have n1_ := Aside0.mk (blk_below (bk_ BK381) hb); have n2_ := Aside0.mk (blk_below (bk_ BK399) hb); have n3_ := Aside0.mk (below_step bx_ hb); have n4_ := Aside0.mk (hbox); have n5_ := Aside0.mk ((by rw [hg]; exact (below_size bx_) : w.heap.size ≤ gb405)); have n6_ := Aside0.mk ((by rw [hg]; exact (below_size bx_) : w.heap.size ≤ gb405)); have n7_ := Aside0.mk ((by rw [hg]; exact Nat.ne_of_lt (blk_lt (g := gb381) (o := .cells #[.int .i64 t376, .int .i64 t377, .int .i64 t378, .int .i64 t379] 44 (0, 0)) (by (with_reducible repeat (first | refine blk_drewN ?_ _ | refine blk_drew ?_ | refine blk_alloc ?_ _)); exact BK381.out)) : gb381 ≠ gb405)); have n8_ := Aside0.mk ((by rw [hg]; exact Nat.ne_of_gt (blk_lt (g := gb381) (o := .cells #[.int .i64 t376, .int .i64 t377, .int .i64 t378, .int .i64 t379] 44 (0, 0)) (by (with_reducible repeat (first | refine blk_drewN ?_ _ | refine blk_drew ?_ | refine blk_alloc ?_ _)); exact BK381.out)) : gb405 ≠ gb381)); have n9_ := Aside0.mk ((by rw [hg]; exact Nat.ne_of_lt (blk_lt (g := gb399) (o := .cells #[.int .i64 t392, .int .i64 t393, .int .i64 t394, .int .i64 t395] 44 (0, 0)) (by (with_reducible repeat (first | refine blk_drewN ?_ _ | refine blk_drew ?_ | refine blk_alloc ?_ _)); exact BK399.out)) : gb399 ≠ gb405)); have n10_ := Aside0.mk ((by rw [hg]; exact Nat.ne_of_gt (blk_lt (g := gb399) (o := .cells #[.int .i64 t392, .int .i64 t393, .int .i64 t394, .int .i64 t395] 44 (0, 0)) (by (with_reducible repeat (first | refine blk_drewN ?_ _ | refine blk_drew ?_ | refine blk_alloc ?_ _)); exact BK399.out)) : gb405 ≠ gb399)); clear HO398; clear BK381; clear BK399; clear HB; have HO398 := n0_; have BK381 := n1_; have BK399 := n2_; have HB := n3_; have BK405 := n4_; have GW405 := n5_; have GE405 := n6_; have NB381_405 := n7_; have NB405_381 := n8_; have NB399_405 := n9_; have NB405_399 := n10_; clear n0_ n1_ n2_ n3_ n4_ n5_ n6_ n7_ n8_ n9_ n10_; clear hb hbox hg; have hnb47 := NB405_381.out; have hnc47 := NB381_405.out; have hnb48 := NB405_399.out; have hnc48 := NB399_405.out; have z49_0 : w46.cell? ⟨gb405, 0, none⟩ = some (.int .i64 0) := (blk_cell BK405.out 0).trans rfl; have z49_1 : w46.cell? ⟨gb405, 1, none⟩ = some (.int .i64 0) := (blk_cell BK405.out 1).trans rfl; have z49_2 : w46.cell? ⟨gb405, 2, none⟩ = some (.int .i64 0) := (blk_cell BK405.out 2).trans rfl; have z49_3 : w46.cell? ⟨gb405, 3, none⟩ = some (.int .i64 0) := (blk_cell BK405.out 3).trans rfl; have y49_0 := blk_frozen BK405.out 0; have y49_1 := blk_frozen BK405.out 1; have y49_2 := blk_frozen BK405.out 2; have y49_3 := blk_frozen BK405.out 3; have z50_0 : w46.cell? ⟨gb399, 0, none⟩ = some (.int .i64 t392) := (blk_cell BK399.out 0).trans rfl; have z50_1 : w46.cell? ⟨gb399, 1, none⟩ = some (.int .i64 t393) := (blk_cell BK399.out 1).trans rfl; have z50_2 : w46.cell? ⟨gb399, 2, none⟩ = some (.int .i64 t394) := (blk_cell BK399.out 2).trans rfl; have z50_3 : w46.cell? ⟨gb399, 3, none⟩ = some (.int .i64 t395) := (blk_cell BK399.out 3).trans rfl; have y50_0 := blk_frozen BK399.out 0; have y50_1 := blk_frozen BK399.out 1; have y50_2 := blk_frozen BK399.out 2; have y50_3 := blk_frozen BK399.out 3) | ((with_reducible refine gate_callee (f := 51) rfl ?_); refine goesL_ (some 114) rfl rfl Try.func51 (by kernel_rfl) rfl #[.agg #[.int .i64 t392, .int .i64 t393, .int .i64 t394, .int .i64 t395], .slice Ao44 t396.length co44] rfl gl_ ?_; (with_reducible refine (spec_FitZero.calls kj23 t392 t393 t394 t395 _ _ t396 t406 t407 t408 t409 t410 _ ?side1 ?side2 A38.out).mono ?_); (case side1 => refine (Kd.R_reads' (e := 46) (base := w.heap.size) (ok := fun k_ => True) (n := t396.length) (c := co44) ?_).2.2; exact (by (with_reducible repeat (first | apply Kd.R_alloc | apply Kd.R_drewN | apply Kd.R_drew)); exact (Kd.R_mono (Kd.R_far (p := ⟨gb405, 3, none⟩) (Kd.R_far (p := ⟨gb405, 2, none⟩) (Kd.R_far (p := ⟨gb405, 1, none⟩) (Kd.R_far (p := ⟨gb405, 0, none⟩) (Kd.R_types HO398.out BK405.out (by decide)) (fun _ hk => hk.2) (.int .i64 t400)) (fun _ hk => hk.2) (.int .i64 t401)) (fun _ hk => hk.2) (.int .i64 t402)) (fun _ hk => hk.2) (.int .i64 t403)) (fun _ h_ => h_.1)))); (case side2 => exact (Kd.R_reads' HO398.out).2.1); rintro e w51 ⟨rfl, hb⟩; refine ⟨_, rfl, ?_⟩; have n0_ := Aside0.mk (Kd.R_below (by (with_reducible repeat (first | apply Kd.R_alloc | apply Kd.R_drewN | apply Kd.R_drew)); exact (Kd.R_mono (Kd.R_far (p := ⟨gb405, 3, none⟩) (Kd.R_far (p := ⟨gb405, 2, none⟩) (Kd.R_far (p := ⟨gb405, 1, none⟩) (Kd.R_far (p := ⟨gb405, 0, none⟩) (Kd.R_types HO398.out BK405.out (by decide)) (fun _ hk => hk.2) (.int .i64 t400)) (fun _ hk => hk.2) (.int .i64 t401)) (fun _ hk => hk.2) (.int .i64 t402)) (fun _ hk => hk.2) (.int .i64 t403)) (fun _ h_ => h_.1))) hb); have n1_ := Aside0.mk (blk_below (g := gb381) (o := .cells #[.int .i64 t376, .int .i64 t377, .int .i64 t378, .int .i64 t379] 44 (0, 0)) (by (with_reducible repeat (first | refine blk_drewN ?_ _ | refine blk_drew ?_ | refine blk_alloc ?_ _)); refine blk_far ?_ NB381_405.out _; (with_reducible repeat (first | refine blk_drewN ?_ _ | refine blk_drew ?_ | refine blk_alloc ?_ _)); refine blk_far ?_ NB381_405.out _; (with_reducible repeat (first | refine blk_drewN ?_ _ | refine blk_drew ?_ | refine blk_alloc ?_ _)); refine blk_far ?_ NB381_405.out _; (with_reducible repeat (first | refine blk_drewN ?_ _ | refine blk_drew ?_ | refine blk_alloc ?_ _)); refine blk_far ?_ NB381_405.out _; (with_reducible repeat (first | refine blk_drewN ?_ _ | refine blk_drew ?_ | refine blk_alloc ?_ _)); exact BK381.out) hb); have n2_ := Aside0.mk (blk_below (g := gb399) (o := .cells #[.int .i64 t392, .int .i64 t393, .int .i64 t394, .int .i64 t395] 44 (0, 0)) (by (with_reducible repeat (first | refine blk_drewN ?_ _ | refine blk_drew ?_ | refine blk_alloc ?_ _)); refine blk_far ?_ NB399_405.out _; (with_reducible repeat (first | refine blk_drewN ?_ _ | refine blk_drew ?_ | refine blk_alloc ?_ _)); refine blk_far ?_ NB399_405.out _; (with_reducible repeat (first | refine blk_drewN ?_ _ | refine blk_drew ?_ | refine blk_alloc ?_ _)); refine blk_far ?_ NB399_405.out _; (with_reducible repeat (first | refine blk_drewN ?_ _ | refine blk_drew ?_ | refine blk_alloc ?_ _)); refine blk_far ?_ NB399_405.out _; (with_reducible repeat (first | refine blk_drewN ?_ _ | refine blk_drew ?_ | refine blk_alloc ?_ _)); exact BK399.out) hb); have n3_ := Aside0.mk (blk_below (g := gb405) (o := .cells #[.int .i64 t400, .int .i64 t401, .int .i64 t402, .int .i64 t403] 44 (0, 0)) (by (with_reducible repeat (first | refine blk_drewN ?_ _ | refine blk_drew ?_ | refine blk_alloc ?_ _)); refine blk_put (cs := #[.int .i64 t400, .int .i64 t401, .int .i64 t402, .int .i64 0]) ?_ 3 _ rfl; (with_reducible repeat (first | refine blk_drewN ?_ _ | refine blk_drew ?_ | refine blk_alloc ?_ _)); refine blk_put (cs := #[.int .i64 t400, .int .i64 t401, .int .i64 0, .int .i64 0]) ?_ 2 _ rfl; (with_reducible repeat (first | refine blk_drewN ?_ _ | refine blk_drew ?_ | refine blk_alloc ?_ _)); refine blk_put (cs := #[.int .i64 t400, .int .i64 0, .int .i64 0, .int .i64 0]) ?_ 1 _ rfl; (with_reducible repeat (first | refine blk_drewN ?_ _ | refine blk_drew ?_ | refine blk_alloc ?_ _)); refine blk_put (cs := #[.int .i64 0, .int .i64 0, .int .i64 0, .int .i64 0]) ?_ 0 _ rfl; (with_reducible repeat (first | refine blk_drewN ?_ _ | refine blk_drew ?_ | refine blk_alloc ?_ _)); exact BK405.out) hb); have n4_ := Aside0.mk (below_step bx_ hb); clear HO398; clear BK381; clear BK399; clear BK405; clear HB; have HO398 := n0_; have BK381 := n1_; have BK399 := n2_; have BK405 := n3_; have HB := n4_; clear n0_ n1_ n2_ n3_ n4_; (try clear hb); (try clear hk)) | ((with_reducible refine gate_dst (N := 17) rfl ?_); refine box_event ?hg (N := 17) ?hd (cs := #[.int .i64 0, .int .i64 0, .int .i64 0, .int .i64 0]) (t := 44) ?hr ?_; (case hd => rfl); (case hg => rfl); (case hr => first | (go_simp; done) | (go_simp; rfl)); intro gb411 hg w52 hbox hb; have n0_ := Aside0.mk (Kd.R_below (kr_ HO398) hb); have n1_ := Aside0.mk (blk_below (bk_ BK381) hb); have n2_ := Aside0.mk (blk_below (bk_ BK399) hb); have n3_ := Aside0.mk (blk_below (bk_ BK405) hb); have n4_ := Aside0.mk (below_step bx_ hb); have n5_ := Aside0.mk (hbox); have n6_ := Aside0.mk ((by rw [hg]; exact (below_size bx_) : w.heap.size ≤ gb411)); have n7_ := Aside0.mk ((by rw [hg]; exact (below_size bx_) : w.heap.size ≤ gb411)); have n8_ := Aside0.mk ((by rw [hg]; exact Nat.ne_of_lt (blk_lt (g := gb381) (o := .cells #[.int .i64 t376, .int .i64 t377, .int .i64 t378, .int .i64 t379] 44 (0, 0)) (by (with_reducible repeat (first | refine blk_drewN ?_ _ | refine blk_drew ?_ | refine blk_alloc ?_ _)); exact BK381.out)) : gb381 ≠ gb411)); have n9_ := Aside0.mk ((by rw [hg]; exact Nat.ne_of_gt (blk_lt (g := gb381) (o := .cells #[.int .i64 t376, .int .i64 t377, .int .i64 t378, .int .i64 t379] 44 (0, 0)) (by (with_reducible repeat (first | refine blk_drewN ?_ _ | refine blk_drew ?_ | refine blk_alloc ?_ _)); exact BK381.out)) : gb411 ≠ gb381)); have n10_ := Aside0.mk ((by rw [hg]; exact Nat.ne_of_lt (blk_lt (g := gb399) (o := .cells #[.int .i64 t392, .int .i64 t393, .int .i64 t394, .int .i64 t395] 44 (0, 0)) (by (with_reducible repeat (first | refine blk_drewN ?_ _ | refine blk_drew ?_ | refine blk_alloc ?_ _)); exact BK399.out)) : gb399 ≠ gb411)); have n11_ := Aside0.mk ((by rw [hg]; exact Nat.ne_of_gt (blk_lt (g := gb399) (o := .cells #[.int .i64 t392, .int .i64 t393, .int .i64 t394, .int .i64 t395] 44 (0, 0)) (by (with_reducible repeat (first | refine blk_drewN ?_ _ | refine blk_drew ?_ | refine blk_alloc ?_ _)); exact BK399.out)) : gb411 ≠ gb399)); have n12_ := Aside0.mk ((by rw [hg]; exact Nat.ne_of_lt (blk_lt (g := gb405) (o := .cells #[.int .i64 t400, .int .i64 t401, .int .i64 t402, .int .i64 t403] 44 (0, 0)) (by (with_reducible repeat (first | refine blk_drewN ?_ _ | refine blk_drew ?_ | refine blk_alloc ?_ _)); exact BK405.out)) : gb405 ≠ gb411)); have n13_ := Aside0.mk ((by rw [hg]; exact Nat.ne_of_gt (blk_lt (g := gb405) (o := .cells #[.int .i64 t400, .int .i64 t401, .int .i64 t402, .int .i64 t403] 44 (0, 0)) (by (with_reducible repeat (first | refine blk_drewN ?_ _ | refine blk_drew ?_ | refine blk_alloc ?_ _)); exact BK405.out)) : gb411 ≠ gb405)); clear HO398; clear BK381; clear BK399; clear BK405; clear HB; have HO398 := n0_; have BK381 := n1_; have BK399 := n2_; have BK405 := n3_; have HB := n4_; have BK411 := n5_; have GW411 := n6_; have GE411 := n7_; have NB381_411 := n8_; have NB411_381 := n9_; have NB399_411 := n10_; have NB411_399 := n11_; have NB405_411 := n12_; have NB411_405 := n13_; clear n0_ n1_ n2_ n3_ n4_ n5_ n6_ n7_ n8_ n9_ n10_ n11_ n12_ n13_; clear hb hbox hg; have hnb53 := NB411_381.out; have hnc53 := NB381_411.out; have hnb54 := NB411_399.out; have hnc54 := NB399_411.out; have hnb55 := NB411_405.out; have hnc55 := NB405_411.out; have z56_0 : w52.cell? ⟨gb411, 0, none⟩ = some (.int .i64 0) := (blk_cell BK411.out 0).trans rfl; have z56_1 : w52.cell? ⟨gb411, 1, none⟩ = some (.int .i64 0) := (blk_cell BK411.out 1).trans rfl; have z56_2 : w52.cell? ⟨gb411, 2, none⟩ = some (.int .i64 0) := (blk_cell BK411.out 2).trans rfl; have z56_3 : w52.cell? ⟨gb411, 3, none⟩ = some (.int .i64 0) := (blk_cell BK411.out 3).trans rfl; have y56_0 := blk_frozen BK411.out 0; have y56_1 := blk_frozen BK411.out 1; have y56_2 := blk_frozen BK411.out 2; have y56_3 := blk_frozen BK411.out 3))
       (try simp only [Act.put, List.setIfInBounds_toArray, List.set_cons_zero, List.set_cons_succ])
       go_cut [124] (fun v124 wc => ∃ (kq : Nat) (x124_38 : Bool), v124 = .bool x124_38 ∧ Aside0 (laws_FnTools.j2 kq l0 t396 t404 x124_38 t392 t393 t394 t395 t400 t401 t402 t403 = some r) ∧ Aside0 (kq ≤ kj23) ∧ Aside0 (Kd.R k46 46 wc w.heap.size (fun _ => True) (.slice Ao44 t396.length co44) t396) ∧ Aside0 (wc.heap[gb381]? = some (.cells #[.int .i64 t376, .int .i64 t377, .int .i64 t378, .int .i64 t379] 44 (0, 0))) ∧ Aside0 (wc.heap[gb399]? = some (.cells #[.int .i64 t392, .int .i64 t393, .int .i64 t394, .int .i64 t395] 44 (0, 0))) ∧ Aside0 (wc.heap[gb405]? = some (.cells #[.int .i64 t400, .int .i64 t401, .int .i64 t402, .int .i64 t403] 44 (0, 0))) ∧ Aside0 (wc.heap[gb411]? = some (.cells #[.int .i64 t406, .int .i64 t407, .int .i64 t408, .int .i64 t409] 44 (0, 0))) ∧ Aside0 (Below w.heap.size w wc))
       case first => as_aux_lemma =>
        have H := HC39.out; clear HC39
        by_cases c57 : (!(t400 == t406) || (!(t401 == t407) || (!(t402 == t408) || (!(t403 == t409))))) = true
        ·rw [if_pos c57] at H
         have c57b0 : (!(t400 == t406) || (!(t401 == t407) || (!(t402 == t408) || (!(t403 == t409))))) = true := c57
         clear c57
         (first | rw [c57b0] | (simp only [i64_w, i32_w]; rw [c57b0]) | skip)
         have H' := Aside0.mk H
         clear H; have hnb58 := NB405_381.out; have hnc58 := NB381_405.out; have hnb59 := NB405_399.out; have hnc59 := NB399_405.out; have hnb60 := NB405_411.out; have hnc60 := NB411_405.out
         have z61_0 : w52.cell? ⟨gb405, 0, none⟩ = some (.int .i64 t400) := (blk_cell BK405.out 0).trans rfl
         have z61_1 : w52.cell? ⟨gb405, 1, none⟩ = some (.int .i64 t401) := (blk_cell BK405.out 1).trans rfl
         have z61_2 : w52.cell? ⟨gb405, 2, none⟩ = some (.int .i64 t402) := (blk_cell BK405.out 2).trans rfl
         have z61_3 : w52.cell? ⟨gb405, 3, none⟩ = some (.int .i64 t403) := (blk_cell BK405.out 3).trans rfl
         have y61_0 := blk_frozen BK405.out 0; have y61_1 := blk_frozen BK405.out 1; have y61_2 := blk_frozen BK405.out 2; have y61_3 := blk_frozen BK405.out 3; have hnb62 := NB411_381.out; have hnc62 := NB381_411.out; have hnb63 := NB411_399.out; have hnc63 := NB399_411.out
         have z64_0 : w52.cell? ⟨gb411, 0, none⟩ = some (.int .i64 0) := (blk_cell BK411.out 0).trans rfl
         have z64_1 : w52.cell? ⟨gb411, 1, none⟩ = some (.int .i64 0) := (blk_cell BK411.out 1).trans rfl
         have z64_2 : w52.cell? ⟨gb411, 2, none⟩ = some (.int .i64 0) := (blk_cell BK411.out 2).trans rfl
         have z64_3 : w52.cell? ⟨gb411, 3, none⟩ = some (.int .i64 0) := (blk_cell BK411.out 3).trans rfl
         have y64_0 := blk_frozen BK411.out 0; have y64_1 := blk_frozen BK411.out 1; have y64_2 := blk_frozen BK411.out 2; have y64_3 := blk_frozen BK411.out 3
         go_wp2
         go_meet
         case rel => exact ⟨_, (true), (by first | rfl | (simp; done) | (simp [*]; done)), H', ⟨by have := HJ6.out; have := HJ23.out; first | omega | exact Nat.le_refl _⟩, ⟨by (with_reducible repeat (first | apply Kd.R_alloc | apply Kd.R_drewN | apply Kd.R_drew)); exact Kd.R_mono (Kd.R_far (p := ⟨gb411, 3, none⟩) (Kd.R_far (p := ⟨gb411, 2, none⟩) (Kd.R_far (p := ⟨gb411, 1, none⟩) (Kd.R_far (p := ⟨gb411, 0, none⟩) (Kd.R_types HO398.out BK411.out (by decide)) (fun _ hk => hk.2) (.int .i64 t406)) (fun _ hk => hk.2) (.int .i64 t407)) (fun _ hk => hk.2) (.int .i64 t408)) (fun _ hk => hk.2) (.int .i64 t409)) (fun _ hk => trivial)⟩, ⟨by (with_reducible repeat (first | refine blk_drewN ?_ _ | refine blk_drew ?_ | refine blk_alloc ?_ _)); refine blk_far ?_ NB381_411.out _; (with_reducible repeat (first | refine blk_drewN ?_ _ | refine blk_drew ?_ | refine blk_alloc ?_ _)); refine blk_far ?_ NB381_411.out _; (with_reducible repeat (first | refine blk_drewN ?_ _ | refine blk_drew ?_ | refine blk_alloc ?_ _)); refine blk_far ?_ NB381_411.out _; (with_reducible repeat (first | refine blk_drewN ?_ _ | refine blk_drew ?_ | refine blk_alloc ?_ _)); refine blk_far ?_ NB381_411.out _; (with_reducible repeat (first | refine blk_drewN ?_ _ | refine blk_drew ?_ | refine blk_alloc ?_ _)); exact BK381.out⟩, ⟨by (with_reducible repeat (first | refine blk_drewN ?_ _ | refine blk_drew ?_ | refine blk_alloc ?_ _)); refine blk_far ?_ NB399_411.out _; (with_reducible repeat (first | refine blk_drewN ?_ _ | refine blk_drew ?_ | refine blk_alloc ?_ _)); refine blk_far ?_ NB399_411.out _; (with_reducible repeat (first | refine blk_drewN ?_ _ | refine blk_drew ?_ | refine blk_alloc ?_ _)); refine blk_far ?_ NB399_411.out _; (with_reducible repeat (first | refine blk_drewN ?_ _ | refine blk_drew ?_ | refine blk_alloc ?_ _)); refine blk_far ?_ NB399_411.out _; (with_reducible repeat (first | refine blk_drewN ?_ _ | refine blk_drew ?_ | refine blk_alloc ?_ _)); exact BK399.out⟩, ⟨by (with_reducible repeat (first | refine blk_drewN ?_ _ | refine blk_drew ?_ | refine blk_alloc ?_ _)); refine blk_far ?_ NB405_411.out _; (with_reducible repeat (first | refine blk_drewN ?_ _ | refine blk_drew ?_ | refine blk_alloc ?_ _)); refine blk_far ?_ NB405_411.out _; (with_reducible repeat (first | refine blk_drewN ?_ _ | refine blk_drew ?_ | refine blk_alloc ?_ _)); refine blk_far ?_ NB405_411.out _; (with_reducible repeat (first | refine blk_drewN ?_ _ | refine blk_drew ?_ | refine blk_alloc ?_ _)); refine blk_far ?_ NB405_411.out _; (with_reducible repeat (first | refine blk_drewN ?_ _ | refine blk_drew ?_ | refine blk_alloc ?_ _)); exact BK405.out⟩, ⟨by (with_reducible repeat (first | refine blk_drewN ?_ _ | refine blk_drew ?_ | refine blk_alloc ?_ _)); refine blk_put (cs := #[.int .i64 t406, .int .i64 t407, .int .i64 t408, .int .i64 0]) ?_ 3 _ rfl; (with_reducible repeat (first | refine blk_drewN ?_ _ | refine blk_drew ?_ | refine blk_alloc ?_ _)); refine blk_put (cs := #[.int .i64 t406, .int .i64 t407, .int .i64 0, .int .i64 0]) ?_ 2 _ rfl; (with_reducible repeat (first | refine blk_drewN ?_ _ | refine blk_drew ?_ | refine blk_alloc ?_ _)); refine blk_put (cs := #[.int .i64 t406, .int .i64 0, .int .i64 0, .int .i64 0]) ?_ 1 _ rfl; (with_reducible repeat (first | refine blk_drewN ?_ _ | refine blk_drew ?_ | refine blk_alloc ?_ _)); refine blk_put (cs := #[.int .i64 0, .int .i64 0, .int .i64 0, .int .i64 0]) ?_ 0 _ rfl; (with_reducible repeat (first | refine blk_drewN ?_ _ | refine blk_drew ?_ | refine blk_alloc ?_ _)); exact BK411.out⟩, ⟨by repeat (first | (with_reducible first | exact HB.out | apply below_alloc | apply pw_below_drewN | apply below_drew1 | refine below_set ?_ GE381.out | refine below_set ?_ GE399.out | refine below_set ?_ GE405.out | refine below_set ?_ GE411.out) | exact HB.out)⟩⟩
        ·rw [if_neg c57] at H
         have c57b0 : (!(t400 == t406) || (!(t401 == t407) || (!(t402 == t408) || (!(t403 == t409))))) = false := by simpa using c57
         clear c57
         (first | rw [c57b0] | (simp only [i64_w, i32_w]; rw [c57b0]) | skip)
         have H' := Aside0.mk H
         clear H; have hnb65 := NB405_381.out; have hnc65 := NB381_405.out; have hnb66 := NB405_399.out; have hnc66 := NB399_405.out; have hnb67 := NB405_411.out; have hnc67 := NB411_405.out
         have z68_0 : w52.cell? ⟨gb405, 0, none⟩ = some (.int .i64 t400) := (blk_cell BK405.out 0).trans rfl
         have z68_1 : w52.cell? ⟨gb405, 1, none⟩ = some (.int .i64 t401) := (blk_cell BK405.out 1).trans rfl
         have z68_2 : w52.cell? ⟨gb405, 2, none⟩ = some (.int .i64 t402) := (blk_cell BK405.out 2).trans rfl
         have z68_3 : w52.cell? ⟨gb405, 3, none⟩ = some (.int .i64 t403) := (blk_cell BK405.out 3).trans rfl
         have y68_0 := blk_frozen BK405.out 0; have y68_1 := blk_frozen BK405.out 1; have y68_2 := blk_frozen BK405.out 2; have y68_3 := blk_frozen BK405.out 3; have hnb69 := NB411_381.out; have hnc69 := NB381_411.out; have hnb70 := NB411_399.out; have hnc70 := NB399_411.out
         have z71_0 : w52.cell? ⟨gb411, 0, none⟩ = some (.int .i64 0) := (blk_cell BK411.out 0).trans rfl
         have z71_1 : w52.cell? ⟨gb411, 1, none⟩ = some (.int .i64 0) := (blk_cell BK411.out 1).trans rfl
         have z71_2 : w52.cell? ⟨gb411, 2, none⟩ = some (.int .i64 0) := (blk_cell BK411.out 2).trans rfl
         have z71_3 : w52.cell? ⟨gb411, 3, none⟩ = some (.int .i64 0) := (blk_cell BK411.out 3).trans rfl
         have y71_0 := blk_frozen BK411.out 0; have y71_1 := blk_frozen BK411.out 1; have y71_2 := blk_frozen BK411.out 2; have y71_3 := blk_frozen BK411.out 3
         go_wp2
         go_meet
         case rel => exact ⟨_, ((t404 != t410)), (by first | rfl | (simp; done) | (simp [*]; done)), H', ⟨by have := HJ6.out; have := HJ23.out; first | omega | exact Nat.le_refl _⟩, ⟨by (with_reducible repeat (first | apply Kd.R_alloc | apply Kd.R_drewN | apply Kd.R_drew)); exact Kd.R_mono (Kd.R_far (p := ⟨gb411, 3, none⟩) (Kd.R_far (p := ⟨gb411, 2, none⟩) (Kd.R_far (p := ⟨gb411, 1, none⟩) (Kd.R_far (p := ⟨gb411, 0, none⟩) (Kd.R_types HO398.out BK411.out (by decide)) (fun _ hk => hk.2) (.int .i64 t406)) (fun _ hk => hk.2) (.int .i64 t407)) (fun _ hk => hk.2) (.int .i64 t408)) (fun _ hk => hk.2) (.int .i64 t409)) (fun _ hk => trivial)⟩, ⟨by (with_reducible repeat (first | refine blk_drewN ?_ _ | refine blk_drew ?_ | refine blk_alloc ?_ _)); refine blk_far ?_ NB381_411.out _; (with_reducible repeat (first | refine blk_drewN ?_ _ | refine blk_drew ?_ | refine blk_alloc ?_ _)); refine blk_far ?_ NB381_411.out _; (with_reducible repeat (first | refine blk_drewN ?_ _ | refine blk_drew ?_ | refine blk_alloc ?_ _)); refine blk_far ?_ NB381_411.out _; (with_reducible repeat (first | refine blk_drewN ?_ _ | refine blk_drew ?_ | refine blk_alloc ?_ _)); refine blk_far ?_ NB381_411.out _; (with_reducible repeat (first | refine blk_drewN ?_ _ | refine blk_drew ?_ | refine blk_alloc ?_ _)); exact BK381.out⟩, ⟨by (with_reducible repeat (first | refine blk_drewN ?_ _ | refine blk_drew ?_ | refine blk_alloc ?_ _)); refine blk_far ?_ NB399_411.out _; (with_reducible repeat (first | refine blk_drewN ?_ _ | refine blk_drew ?_ | refine blk_alloc ?_ _)); refine blk_far ?_ NB399_411.out _; (with_reducible repeat (first | refine blk_drewN ?_ _ | refine blk_drew ?_ | refine blk_alloc ?_ _)); refine blk_far ?_ NB399_411.out _; (with_reducible repeat (first | refine blk_drewN ?_ _ | refine blk_drew ?_ | refine blk_alloc ?_ _)); refine blk_far ?_ NB399_411.out _; (with_reducible repeat (first | refine blk_drewN ?_ _ | refine blk_drew ?_ | refine blk_alloc ?_ _)); exact BK399.out⟩, ⟨by (with_reducible repeat (first | refine blk_drewN ?_ _ | refine blk_drew ?_ | refine blk_alloc ?_ _)); refine blk_far ?_ NB405_411.out _; (with_reducible repeat (first | refine blk_drewN ?_ _ | refine blk_drew ?_ | refine blk_alloc ?_ _)); refine blk_far ?_ NB405_411.out _; (with_reducible repeat (first | refine blk_drewN ?_ _ | refine blk_drew ?_ | refine blk_alloc ?_ _)); refine blk_far ?_ NB405_411.out _; (with_reducible repeat (first | refine blk_drewN ?_ _ | refine blk_drew ?_ | refine blk_alloc ?_ _)); refine blk_far ?_ NB405_411.out _; (with_reducible repeat (first | refine blk_drewN ?_ _ | refine blk_drew ?_ | refine blk_alloc ?_ _)); exact BK405.out⟩, ⟨by (with_reducible repeat (first | refine blk_drewN ?_ _ | refine blk_drew ?_ | refine blk_alloc ?_ _)); refine blk_put (cs := #[.int .i64 t406, .int .i64 t407, .int .i64 t408, .int .i64 0]) ?_ 3 _ rfl; (with_reducible repeat (first | refine blk_drewN ?_ _ | refine blk_drew ?_ | refine blk_alloc ?_ _)); refine blk_put (cs := #[.int .i64 t406, .int .i64 t407, .int .i64 0, .int .i64 0]) ?_ 2 _ rfl; (with_reducible repeat (first | refine blk_drewN ?_ _ | refine blk_drew ?_ | refine blk_alloc ?_ _)); refine blk_put (cs := #[.int .i64 t406, .int .i64 0, .int .i64 0, .int .i64 0]) ?_ 1 _ rfl; (with_reducible repeat (first | refine blk_drewN ?_ _ | refine blk_drew ?_ | refine blk_alloc ?_ _)); refine blk_put (cs := #[.int .i64 0, .int .i64 0, .int .i64 0, .int .i64 0]) ?_ 0 _ rfl; (with_reducible repeat (first | refine blk_drewN ?_ _ | refine blk_drew ?_ | refine blk_alloc ?_ _)); exact BK411.out⟩, ⟨by repeat (first | (with_reducible first | exact HB.out | apply below_alloc | apply pw_below_drewN | apply below_drew1 | refine below_set ?_ GE381.out | refine below_set ?_ GE399.out | refine below_set ?_ GE405.out | refine below_set ?_ GE411.out) | exact HB.out)⟩⟩
       case rest => as_aux_lemma =>
        clear HC39; (try clear c3); (try clear c14); (try clear c14b0); (try clear c14b1); (try clear c15); (try clear c15b0); (try clear c15b1); (try clear c15b2); (try clear c23); (try clear c25); (try clear c28); (try clear c29); (try clear c30); (try clear c30b0); (try clear c30b1); (try clear c31); (try clear c31b0); (try clear c57); (try clear c57b0); (try clear z10_0); (try clear z10_1); (try clear z10_2); (try clear z10_3); (try clear z12_0); (try clear z12_1); (try clear z12_2); (try clear z12_3); (try clear z32_0); (try clear z32_1); (try clear z32_2); (try clear z32_3); (try clear z34_0); (try clear z34_1); (try clear z34_2); (try clear z34_3); (try clear z43_0); (try clear z43_1); (try clear z43_2); (try clear z43_3); (try clear z49_0); (try clear z49_1); (try clear z49_2); (try clear z49_3); (try clear z50_0); (try clear z50_1); (try clear z50_2); (try clear z50_3); (try clear z56_0); (try clear z56_1); (try clear z56_2); (try clear z56_3); (try clear z61_0); (try clear z61_1); (try clear z61_2); (try clear z61_3); (try clear z64_0); (try clear z64_1); (try clear z64_2); (try clear z64_3); (try clear z68_0); (try clear z68_1); (try clear z68_2); (try clear z68_3); (try clear z71_0); (try clear z71_1); (try clear z71_2); (try clear z71_3); (try clear y10_0); (try clear y10_1); (try clear y10_2); (try clear y10_3); (try clear y12_0); (try clear y12_1); (try clear y12_2); (try clear y12_3); (try clear y32_0); (try clear y32_1); (try clear y32_2); (try clear y32_3); (try clear y34_0); (try clear y34_1); (try clear y34_2); (try clear y34_3); (try clear y43_0); (try clear y43_1); (try clear y43_2); (try clear y43_3); (try clear y49_0); (try clear y49_1); (try clear y49_2); (try clear y49_3); (try clear y50_0); (try clear y50_1); (try clear y50_2); (try clear y50_3); (try clear y56_0); (try clear y56_1); (try clear y56_2); (try clear y56_3); (try clear y61_0); (try clear y61_1); (try clear y61_2); (try clear y61_3); (try clear y64_0); (try clear y64_1); (try clear y64_2); (try clear y64_3); (try clear y68_0); (try clear y68_1); (try clear y68_2); (try clear y68_3); (try clear y71_0); (try clear y71_1); (try clear y71_2); (try clear y71_3); obtain ⟨kq, x124_38, rfl, HA, HJ38, HO_14, BK381, BK399, BK405, BK411, HB⟩ := hcut
        cases kq with
        | zero => exact absurd HA.out (by simp [laws_FnTools.j2])
        | succ kj38 =>
         have H := HA.out; clear HA
         simp only [laws_FnTools.j2] at H
         by_cases c72 : x124_38 = true
         ·subst c72
          have H1 : (none) = some r := by rw [if_pos rfl] at H; exact H
          clear H; have H := H1; clear H1
          exact absurd H (by simp)
         ·replace c72 := Bool.eq_false_iff.mpr c72
          subst c72
          have H1 : ((impl_WorstCheck.f kj38 t392 t393 t394 t395 t396).bind fun bt412 => ((spec_WorstCheck.f kj38 t392 t393 t394 t395 t396).bind fun bt415 => (if bt412.1 = bt415.1 then (if bt412.2.1 = bt415.2.1 then (laws_FnTools.j3 kj38 l0 t396 t404 bt412.2.1 bt412.2.2 (bt412.2.2 != bt415.2.2) t392 t393 t394 t395 t400 t401 t402 t403) else (laws_FnTools.j3 kj38 l0 t396 t404 bt412.2.1 bt412.2.2 true t392 t393 t394 t395 t400 t401 t402 t403)) else (laws_FnTools.j3 kj38 l0 t396 t404 bt412.2.1 bt412.2.2 true t392 t393 t394 t395 t400 t401 t402 t403)))) = some r := by rw [if_neg (show ¬ (false = true) by decide)] at H; exact H
          clear H; have H := H1; clear H1; replace H := Option.bind_eq_some_iff.mp H; obtain ⟨⟨t412, t413, t414⟩, A730, H⟩ := H
          replace H : ((spec_WorstCheck.f kj38 t392 t393 t394 t395 t396).bind fun bt415 => (if t412 = bt415.1 then (if t413 = bt415.2.1 then (laws_FnTools.j3 kj38 l0 t396 t404 t413 t414 (t414 != bt415.2.2) t392 t393 t394 t395 t400 t401 t402 t403) else (laws_FnTools.j3 kj38 l0 t396 t404 t413 t414 true t392 t393 t394 t395 t400 t401 t402 t403)) else (laws_FnTools.j3 kj38 l0 t396 t404 t413 t414 true t392 t393 t394 t395 t400 t401 t402 t403))) = some r := H
          have A73 := Aside0.mk A730; clear A730; replace H := Option.bind_eq_some_iff.mp H; obtain ⟨⟨t415, t416, t417⟩, A740, H⟩ := H
          replace H : (if t412 = t415 then (if t413 = t416 then (laws_FnTools.j3 kj38 l0 t396 t404 t413 t414 (t414 != t417) t392 t393 t394 t395 t400 t401 t402 t403) else (laws_FnTools.j3 kj38 l0 t396 t404 t413 t414 true t392 t393 t394 t395 t400 t401 t402 t403)) else (laws_FnTools.j3 kj38 l0 t396 t404 t413 t414 true t392 t393 t394 t395 t400 t401 t402 t403)) = some r := H
          have A74 := Aside0.mk A740; clear A740; have HC75 := Aside0.mk H; clear H; have hnb76 := NB399_381.out; have hnc76 := NB381_399.out; have hnb77 := NB399_405.out; have hnc77 := NB405_399.out; have hnb78 := NB399_411.out; have hnc78 := NB411_399.out
          have z79_0 : wc.cell? ⟨gb399, 0, none⟩ = some (.int .i64 t392) := (blk_cell BK399.out 0).trans rfl
          have z79_1 : wc.cell? ⟨gb399, 1, none⟩ = some (.int .i64 t393) := (blk_cell BK399.out 1).trans rfl
          have z79_2 : wc.cell? ⟨gb399, 2, none⟩ = some (.int .i64 t394) := (blk_cell BK399.out 2).trans rfl
          have z79_3 : wc.cell? ⟨gb399, 3, none⟩ = some (.int .i64 t395) := (blk_cell BK399.out 3).trans rfl
          have y79_0 := blk_frozen BK399.out 0; have y79_1 := blk_frozen BK399.out 1; have y79_2 := blk_frozen BK399.out 2; have y79_3 := blk_frozen BK399.out 3
          go_upto_region 20 with (first | ((with_reducible refine gate_callee (f := 46) rfl ?_); refine goesL_ (some 128) rfl rfl Try.func46 (by kernel_rfl) rfl #[.agg #[.int .i64 t392, .int .i64 t393, .int .i64 t394, .int .i64 t395], .slice Ao44 t396.length co44] rfl gl_ ?_; (with_reducible refine (impl_WorstCheck.calls kj38 t392 t393 t394 t395 _ _ t396 t412 t413 t414 _ ?side1 ?side2 A73.out).mono ?_); (case side1 => repeat (first | exact (Kd.R_reads' HO_14.out).2.2 | (with_reducible refine Kd.C_alloc ?_ _) | (with_reducible refine Kd.C_drewN ?_ _) | (with_reducible refine Kd.C_drew ?_))); (case side2 => exact (Kd.R_reads' HO_14.out).2.1); rintro e w80 ⟨rfl, hb⟩; refine ⟨_, rfl, ?_⟩; have n0_ := Aside0.mk (Kd.R_below (kr_ HO_14) hb); have n1_ := Aside0.mk (blk_below (bk_ BK381) hb); have n2_ := Aside0.mk (blk_below (bk_ BK399) hb); have n3_ := Aside0.mk (blk_below (bk_ BK405) hb); have n4_ := Aside0.mk (blk_below (bk_ BK411) hb); have n5_ := Aside0.mk (below_step bx_ hb); clear HO_14; clear BK381; clear BK399; clear BK405; clear BK411; clear HB; have HO_14 := n0_; have BK381 := n1_; have BK399 := n2_; have BK405 := n3_; have BK411 := n4_; have HB := n5_; clear n0_ n1_ n2_ n3_ n4_ n5_; (try clear hb); (try clear hk); have z81_0 : w80.cell? ⟨gb399, 0, none⟩ = some (.int .i64 t392) := (blk_cell BK399.out 0).trans rfl; have z81_1 : w80.cell? ⟨gb399, 1, none⟩ = some (.int .i64 t393) := (blk_cell BK399.out 1).trans rfl; have z81_2 : w80.cell? ⟨gb399, 2, none⟩ = some (.int .i64 t394) := (blk_cell BK399.out 2).trans rfl; have z81_3 : w80.cell? ⟨gb399, 3, none⟩ = some (.int .i64 t395) := (blk_cell BK399.out 3).trans rfl; have y81_0 := blk_frozen BK399.out 0; have y81_1 := blk_frozen BK399.out 1; have y81_2 := blk_frozen BK399.out 2; have y81_3 := blk_frozen BK399.out 3) | ((with_reducible refine gate_callee (f := 44) rfl ?_); refine goesL_ (some 135) rfl rfl Try.func44 (by kernel_rfl) rfl #[.agg #[.int .i64 t392, .int .i64 t393, .int .i64 t394, .int .i64 t395], .slice Ao44 t396.length co44] rfl gl_ ?_; (with_reducible refine (spec_WorstCheck.calls kj38 t392 t393 t394 t395 _ _ t396 t415 t416 t417 _ ?side1 ?side2 A74.out).mono ?_); (case side1 => repeat (first | exact (Kd.R_reads' HO_14.out).2.2 | (with_reducible refine Kd.C_alloc ?_ _) | (with_reducible refine Kd.C_drewN ?_ _) | (with_reducible refine Kd.C_drew ?_))); (case side2 => exact (Kd.R_reads' HO_14.out).2.1); rintro e w82 ⟨rfl, hb⟩; refine ⟨_, rfl, ?_⟩; have n0_ := Aside0.mk (Kd.R_below (kr_ HO_14) hb); have n1_ := Aside0.mk (blk_below (bk_ BK381) hb); have n2_ := Aside0.mk (blk_below (bk_ BK399) hb); have n3_ := Aside0.mk (blk_below (bk_ BK405) hb); have n4_ := Aside0.mk (blk_below (bk_ BK411) hb); have n5_ := Aside0.mk (below_step bx_ hb); clear HO_14; clear BK381; clear BK399; clear BK405; clear BK411; clear HB; have HO_14 := n0_; have BK381 := n1_; have BK399 := n2_; have BK405 := n3_; have BK411 := n4_; have HB := n5_; clear n0_ n1_ n2_ n3_ n4_ n5_; (try clear hb); (try clear hk)))
          (try simp only [Act.put, List.setIfInBounds_toArray, List.set_cons_zero, List.set_cons_succ])
          go_cut [151] (fun v151 wc => ∃ (kq : Nat) (x151_74 : Bool), v151 = .bool x151_74 ∧ Aside0 (laws_FnTools.j3 kq l0 t396 t404 t413 t414 x151_74 t392 t393 t394 t395 t400 t401 t402 t403 = some r) ∧ Aside0 (kq ≤ kj38) ∧ Aside0 (Kd.R k46 46 wc w.heap.size (fun _ => True) (.slice Ao44 t396.length co44) t396) ∧ Aside0 (wc.heap[gb381]? = some (.cells #[.int .i64 t376, .int .i64 t377, .int .i64 t378, .int .i64 t379] 44 (0, 0))) ∧ Aside0 (wc.heap[gb399]? = some (.cells #[.int .i64 t392, .int .i64 t393, .int .i64 t394, .int .i64 t395] 44 (0, 0))) ∧ Aside0 (wc.heap[gb405]? = some (.cells #[.int .i64 t400, .int .i64 t401, .int .i64 t402, .int .i64 t403] 44 (0, 0))) ∧ Aside0 (wc.heap[gb411]? = some (.cells #[.int .i64 t406, .int .i64 t407, .int .i64 t408, .int .i64 t409] 44 (0, 0))) ∧ Aside0 (Below w.heap.size w wc))
          case first => as_aux_lemma =>
           have H := HC75.out; clear HC75
           by_cases c83 : t412 = t415
           ·rw [if_pos c83] at H
            have c83b0 : (t412 == t415) = true := beq_iff_eq.mpr c83
            have c83b1 : (t412 != t415) = false := bne_eq_false_iff_eq.mpr c83
            clear c83
            (first | rw [c83b0] | (simp only [i64_w, i32_w]; rw [c83b0]) | skip)
            by_cases c84 : t413 = t416
            ·rw [if_pos c84] at H
             have c84b0 : (t413 == t416) = true := beq_iff_eq.mpr c84
             have c84b1 : (t413 != t416) = false := bne_eq_false_iff_eq.mpr c84
             clear c84
             have H' := Aside0.mk H
             clear H
             go_wp2
             go_meet
             case rel => exact ⟨_, ((t414 != t417)), (by first | rfl | (simp; done) | (simp [*]; done)), H', ⟨by have := HJ6.out; have := HJ23.out; have := HJ38.out; first | omega | exact Nat.le_refl _⟩, ⟨by (with_reducible repeat (first | apply Kd.R_alloc | apply Kd.R_drewN | apply Kd.R_drew)); exact HO_14.out⟩, ⟨by (with_reducible repeat (first | refine blk_drewN ?_ _ | refine blk_drew ?_ | refine blk_alloc ?_ _)); exact BK381.out⟩, ⟨by (with_reducible repeat (first | refine blk_drewN ?_ _ | refine blk_drew ?_ | refine blk_alloc ?_ _)); exact BK399.out⟩, ⟨by (with_reducible repeat (first | refine blk_drewN ?_ _ | refine blk_drew ?_ | refine blk_alloc ?_ _)); exact BK405.out⟩, ⟨by (with_reducible repeat (first | refine blk_drewN ?_ _ | refine blk_drew ?_ | refine blk_alloc ?_ _)); exact BK411.out⟩, ⟨by repeat (first | (with_reducible first | exact HB.out | apply below_alloc | apply pw_below_drewN | apply below_drew1 | refine below_set ?_ GE381.out | refine below_set ?_ GE399.out | refine below_set ?_ GE405.out | refine below_set ?_ GE411.out) | exact HB.out)⟩⟩
            ·rw [if_neg c84] at H
             have c84b0 : (t413 == t416) = false := beq_eq_false_iff_ne.mpr c84
             have c84b1 : (t413 != t416) = true := bne_iff_ne.mpr c84
             have H' := Aside0.mk H
             clear H
             go_wp2
             go_meet
             case rel => exact ⟨_, (true), (by first | rfl | (simp; done) | (simp [*]; done)), H', ⟨by have := HJ6.out; have := HJ23.out; have := HJ38.out; first | omega | exact Nat.le_refl _⟩, ⟨by (with_reducible repeat (first | apply Kd.R_alloc | apply Kd.R_drewN | apply Kd.R_drew)); exact HO_14.out⟩, ⟨by (with_reducible repeat (first | refine blk_drewN ?_ _ | refine blk_drew ?_ | refine blk_alloc ?_ _)); exact BK381.out⟩, ⟨by (with_reducible repeat (first | refine blk_drewN ?_ _ | refine blk_drew ?_ | refine blk_alloc ?_ _)); exact BK399.out⟩, ⟨by (with_reducible repeat (first | refine blk_drewN ?_ _ | refine blk_drew ?_ | refine blk_alloc ?_ _)); exact BK405.out⟩, ⟨by (with_reducible repeat (first | refine blk_drewN ?_ _ | refine blk_drew ?_ | refine blk_alloc ?_ _)); exact BK411.out⟩, ⟨by repeat (first | (with_reducible first | exact HB.out | apply below_alloc | apply pw_below_drewN | apply below_drew1 | refine below_set ?_ GE381.out | refine below_set ?_ GE399.out | refine below_set ?_ GE405.out | refine below_set ?_ GE411.out) | exact HB.out)⟩⟩
           ·rw [if_neg c83] at H
            have c83b0 : (t412 == t415) = false := beq_eq_false_iff_ne.mpr c83
            have c83b1 : (t412 != t415) = true := bne_iff_ne.mpr c83
            (first | rw [c83b0] | (simp only [i64_w, i32_w]; rw [c83b0]) | skip)
            have H' := Aside0.mk H
            clear H
            go_wp2
            go_meet
            case rel => exact ⟨_, (true), (by first | rfl | (simp; done) | (simp [*]; done)), H', ⟨by have := HJ6.out; have := HJ23.out; have := HJ38.out; first | omega | exact Nat.le_refl _⟩, ⟨by (with_reducible repeat (first | apply Kd.R_alloc | apply Kd.R_drewN | apply Kd.R_drew)); exact HO_14.out⟩, ⟨by (with_reducible repeat (first | refine blk_drewN ?_ _ | refine blk_drew ?_ | refine blk_alloc ?_ _)); exact BK381.out⟩, ⟨by (with_reducible repeat (first | refine blk_drewN ?_ _ | refine blk_drew ?_ | refine blk_alloc ?_ _)); exact BK399.out⟩, ⟨by (with_reducible repeat (first | refine blk_drewN ?_ _ | refine blk_drew ?_ | refine blk_alloc ?_ _)); exact BK405.out⟩, ⟨by (with_reducible repeat (first | refine blk_drewN ?_ _ | refine blk_drew ?_ | refine blk_alloc ?_ _)); exact BK411.out⟩, ⟨by repeat (first | (with_reducible first | exact HB.out | apply below_alloc | apply pw_below_drewN | apply below_drew1 | refine below_set ?_ GE381.out | refine below_set ?_ GE399.out | refine below_set ?_ GE405.out | refine below_set ?_ GE411.out) | exact HB.out)⟩⟩
          case rest => as_aux_lemma =>
           clear HC75; (try clear c3); (try clear c14); (try clear c14b0); (try clear c14b1); (try clear c15); (try clear c15b0); (try clear c15b1); (try clear c15b2); (try clear c23); (try clear c25); (try clear c28); (try clear c29); (try clear c30); (try clear c30b0); (try clear c30b1); (try clear c31); (try clear c31b0); (try clear c57); (try clear c57b0); (try clear c72); (try clear c83); (try clear c83b0); (try clear c83b1); (try clear c84); (try clear c84b0); (try clear c84b1); (try clear z10_0); (try clear z10_1); (try clear z10_2); (try clear z10_3); (try clear z12_0); (try clear z12_1); (try clear z12_2); (try clear z12_3); (try clear z32_0); (try clear z32_1); (try clear z32_2); (try clear z32_3); (try clear z34_0); (try clear z34_1); (try clear z34_2); (try clear z34_3); (try clear z43_0); (try clear z43_1); (try clear z43_2); (try clear z43_3); (try clear z49_0); (try clear z49_1); (try clear z49_2); (try clear z49_3); (try clear z50_0); (try clear z50_1); (try clear z50_2); (try clear z50_3); (try clear z56_0); (try clear z56_1); (try clear z56_2); (try clear z56_3); (try clear z61_0); (try clear z61_1); (try clear z61_2); (try clear z61_3); (try clear z64_0); (try clear z64_1); (try clear z64_2); (try clear z64_3); (try clear z68_0); (try clear z68_1); (try clear z68_2); (try clear z68_3); (try clear z71_0); (try clear z71_1); (try clear z71_2); (try clear z71_3); (try clear z79_0); (try clear z79_1); (try clear z79_2); (try clear z79_3); (try clear z81_0); (try clear z81_1); (try clear z81_2); (try clear z81_3); (try clear y10_0); (try clear y10_1); (try clear y10_2); (try clear y10_3); (try clear y12_0); (try clear y12_1); (try clear y12_2); (try clear y12_3); (try clear y32_0); (try clear y32_1); (try clear y32_2); (try clear y32_3); (try clear y34_0); (try clear y34_1); (try clear y34_2); (try clear y34_3); (try clear y43_0); (try clear y43_1); (try clear y43_2); (try clear y43_3); (try clear y49_0); (try clear y49_1); (try clear y49_2); (try clear y49_3); (try clear y50_0); (try clear y50_1); (try clear y50_2); (try clear y50_3); (try clear y56_0); (try clear y56_1); (try clear y56_2); (try clear y56_3); (try clear y61_0); (try clear y61_1); (try clear y61_2); (try clear y61_3); (try clear y64_0); (try clear y64_1); (try clear y64_2); (try clear y64_3); (try clear y68_0); (try clear y68_1); (try clear y68_2); (try clear y68_3); (try clear y71_0); (try clear y71_1); (try clear y71_2); (try clear y71_3); (try clear y79_0); (try clear y79_1); (try clear y79_2); (try clear y79_3); (try clear y81_0); (try clear y81_1); (try clear y81_2); (try clear y81_3); obtain ⟨kq, x151_74, rfl, HA, HJ74, HO_14, BK381, BK399, BK405, BK411, HB⟩ := hcut
           cases kq with
           | zero => exact absurd HA.out (by simp [laws_FnTools.j3])
           | succ kj74 =>
            have H := HA.out; clear HA
            simp only [laws_FnTools.j3] at H
            by_cases c85 : x151_74 = true
            ·subst c85
             have H1 : (none) = some r := by rw [if_pos rfl] at H; exact H
             clear H; have H := H1; clear H1
             exact absurd H (by simp)
            ·replace c85 := Bool.eq_false_iff.mpr c85
             subst c85
             have H1 : (if t414 = true then ((impl_WorstCheck.f kj74 t400 t401 t402 t403 t396).bind fun bt418 => (if t404 = true then (if bt418.2.2 = true then (laws_FnTools.j4 kj74 l0 t396 t413 (decide (bt418.2.1 > t413)) t392 t393 t394 t395) else (laws_FnTools.j4 kj74 l0 t396 t413 true t392 t393 t394 t395)) else (laws_FnTools.j4 kj74 l0 t396 t413 true t392 t393 t394 t395))) else ((spec_DrawCheckError.f kj74 l0).bind fun bt436 => ((impl_CheckError.f kj74 bt436.1 bt436.2.1 bt436.2.2.1 bt436.2.2.2.1 bt436.2.2.2.2.1 bt436.2.2.2.2.2).bind fun bt444 => ((spec_CheckError.f kj74 bt436.1 bt436.2.1 bt436.2.2.1 bt436.2.2.2.1 bt436.2.2.2.2.1 bt436.2.2.2.2.2).bind fun bt446 => (if bt444.1 = bt446.1 then (some (bt444.2 == bt446.2)) else (none)))))) = some r := by rw [if_neg (show ¬ (false = true) by decide)] at H; exact H
             clear H; have H := H1; clear H1
             by_cases c86 : t414 = true
             ·subst c86
              have H1 : ((impl_WorstCheck.f kj74 t400 t401 t402 t403 t396).bind fun bt418 => (if t404 = true then (if bt418.2.2 = true then (laws_FnTools.j4 kj74 l0 t396 t413 (decide (bt418.2.1 > t413)) t392 t393 t394 t395) else (laws_FnTools.j4 kj74 l0 t396 t413 true t392 t393 t394 t395)) else (laws_FnTools.j4 kj74 l0 t396 t413 true t392 t393 t394 t395))) = some r := by rw [if_pos rfl] at H; exact H
              clear H; have H := H1; clear H1; replace H := Option.bind_eq_some_iff.mp H; obtain ⟨⟨t418, t419, t420⟩, A870, H⟩ := H
              replace H : (if t404 = true then (if t420 = true then (laws_FnTools.j4 kj74 l0 t396 t413 (decide (t419 > t413)) t392 t393 t394 t395) else (laws_FnTools.j4 kj74 l0 t396 t413 true t392 t393 t394 t395)) else (laws_FnTools.j4 kj74 l0 t396 t413 true t392 t393 t394 t395)) = some r := H
              have A87 := Aside0.mk A870; clear A870; have HC88 := Aside0.mk H; clear H; have hnb89 := NB405_381.out; have hnc89 := NB381_405.out; have hnb90 := NB405_399.out; have hnc90 := NB399_405.out; have hnb91 := NB405_411.out; have hnc91 := NB411_405.out
              have z92_0 : wc.cell? ⟨gb405, 0, none⟩ = some (.int .i64 t400) := (blk_cell BK405.out 0).trans rfl
              have z92_1 : wc.cell? ⟨gb405, 1, none⟩ = some (.int .i64 t401) := (blk_cell BK405.out 1).trans rfl
              have z92_2 : wc.cell? ⟨gb405, 2, none⟩ = some (.int .i64 t402) := (blk_cell BK405.out 2).trans rfl
              have z92_3 : wc.cell? ⟨gb405, 3, none⟩ = some (.int .i64 t403) := (blk_cell BK405.out 3).trans rfl
              have y92_0 := blk_frozen BK405.out 0; have y92_1 := blk_frozen BK405.out 1; have y92_2 := blk_frozen BK405.out 2; have y92_3 := blk_frozen BK405.out 3
              go_upto_region 24 with (first | ((with_reducible refine gate_callee (f := 46) rfl ?_); refine goesL_ (some 156) rfl rfl Try.func46 (by kernel_rfl) rfl #[.agg #[.int .i64 t400, .int .i64 t401, .int .i64 t402, .int .i64 t403], .slice Ao44 t396.length co44] rfl gl_ ?_; (with_reducible refine (impl_WorstCheck.calls kj74 t400 t401 t402 t403 _ _ t396 t418 t419 t420 _ ?side1 ?side2 A87.out).mono ?_); (case side1 => repeat (first | exact (Kd.R_reads' HO_14.out).2.2 | (with_reducible refine Kd.C_alloc ?_ _) | (with_reducible refine Kd.C_drewN ?_ _) | (with_reducible refine Kd.C_drew ?_))); (case side2 => exact (Kd.R_reads' HO_14.out).2.1); rintro e w93 ⟨rfl, hb⟩; refine ⟨_, rfl, ?_⟩; have n0_ := Aside0.mk (Kd.R_below (kr_ HO_14) hb); have n1_ := Aside0.mk (blk_below (bk_ BK381) hb); have n2_ := Aside0.mk (blk_below (bk_ BK399) hb); have n3_ := Aside0.mk (blk_below (bk_ BK405) hb); have n4_ := Aside0.mk (blk_below (bk_ BK411) hb); have n5_ := Aside0.mk (below_step bx_ hb); clear HO_14; clear BK381; clear BK399; clear BK405; clear BK411; clear HB; have HO_14 := n0_; have BK381 := n1_; have BK399 := n2_; have BK405 := n3_; have BK411 := n4_; have HB := n5_; clear n0_ n1_ n2_ n3_ n4_ n5_; (try clear hb); (try clear hk)))
              (try simp only [Act.put, List.setIfInBounds_toArray, List.set_cons_zero, List.set_cons_succ])
              go_cut [170] (fun v170 wc => ∃ (kq : Nat) (x170_87 : Bool), v170 = .bool x170_87 ∧ Aside0 (laws_FnTools.j4 kq l0 t396 t413 x170_87 t392 t393 t394 t395 = some r) ∧ Aside0 (kq ≤ kj74) ∧ Aside0 (Kd.R k46 46 wc w.heap.size (fun _ => True) (.slice Ao44 t396.length co44) t396) ∧ Aside0 (wc.heap[gb381]? = some (.cells #[.int .i64 t376, .int .i64 t377, .int .i64 t378, .int .i64 t379] 44 (0, 0))) ∧ Aside0 (wc.heap[gb399]? = some (.cells #[.int .i64 t392, .int .i64 t393, .int .i64 t394, .int .i64 t395] 44 (0, 0))) ∧ Aside0 (wc.heap[gb405]? = some (.cells #[.int .i64 t400, .int .i64 t401, .int .i64 t402, .int .i64 t403] 44 (0, 0))) ∧ Aside0 (wc.heap[gb411]? = some (.cells #[.int .i64 t406, .int .i64 t407, .int .i64 t408, .int .i64 t409] 44 (0, 0))) ∧ Aside0 (Below w.heap.size w wc))
              case first => as_aux_lemma =>
               have H := HC88.out; clear HC88
               by_cases c94 : t404 = true
               ·subst c94
                have H1 : (if t420 = true then (laws_FnTools.j4 kj74 l0 t396 t413 (decide (t419 > t413)) t392 t393 t394 t395) else (laws_FnTools.j4 kj74 l0 t396 t413 true t392 t393 t394 t395)) = some r := by rw [if_pos rfl] at H; exact H
                clear H; have H := H1; clear H1
                by_cases c95 : t420 = true
                ·subst c95
                 have H1 : (laws_FnTools.j4 kj74 l0 t396 t413 (decide (t419 > t413)) t392 t393 t394 t395) = some r := by rw [if_pos rfl] at H; exact H
                 clear H; have H := H1; clear H1
                 have H' := Aside0.mk H
                 clear H
                 go_wp2
                 go_meet
                 case rel => exact ⟨_, (decide (t419 > t413)), (by first | rfl | (simp; done) | (simp [*]; done)), H', ⟨by have := HJ6.out; have := HJ23.out; have := HJ38.out; have := HJ74.out; first | omega | exact Nat.le_refl _⟩, ⟨by (with_reducible repeat (first | apply Kd.R_alloc | apply Kd.R_drewN | apply Kd.R_drew)); exact HO_14.out⟩, ⟨by (with_reducible repeat (first | refine blk_drewN ?_ _ | refine blk_drew ?_ | refine blk_alloc ?_ _)); exact BK381.out⟩, ⟨by (with_reducible repeat (first | refine blk_drewN ?_ _ | refine blk_drew ?_ | refine blk_alloc ?_ _)); exact BK399.out⟩, ⟨by (with_reducible repeat (first | refine blk_drewN ?_ _ | refine blk_drew ?_ | refine blk_alloc ?_ _)); exact BK405.out⟩, ⟨by (with_reducible repeat (first | refine blk_drewN ?_ _ | refine blk_drew ?_ | refine blk_alloc ?_ _)); exact BK411.out⟩, ⟨by repeat (first | (with_reducible first | exact HB.out | apply below_alloc | apply pw_below_drewN | apply below_drew1 | refine below_set ?_ GE381.out | refine below_set ?_ GE399.out | refine below_set ?_ GE405.out | refine below_set ?_ GE411.out) | exact HB.out)⟩⟩
                ·replace c95 := Bool.eq_false_iff.mpr c95
                 subst c95
                 have H1 : (laws_FnTools.j4 kj74 l0 t396 t413 true t392 t393 t394 t395) = some r := by rw [if_neg (show ¬ (false = true) by decide)] at H; exact H
                 clear H; have H := H1; clear H1
                 have H' := Aside0.mk H
                 clear H
                 go_wp2
                 go_meet
                 case rel => exact ⟨_, (true), (by first | rfl | (simp; done) | (simp [*]; done)), H', ⟨by have := HJ6.out; have := HJ23.out; have := HJ38.out; have := HJ74.out; first | omega | exact Nat.le_refl _⟩, ⟨by (with_reducible repeat (first | apply Kd.R_alloc | apply Kd.R_drewN | apply Kd.R_drew)); exact HO_14.out⟩, ⟨by (with_reducible repeat (first | refine blk_drewN ?_ _ | refine blk_drew ?_ | refine blk_alloc ?_ _)); exact BK381.out⟩, ⟨by (with_reducible repeat (first | refine blk_drewN ?_ _ | refine blk_drew ?_ | refine blk_alloc ?_ _)); exact BK399.out⟩, ⟨by (with_reducible repeat (first | refine blk_drewN ?_ _ | refine blk_drew ?_ | refine blk_alloc ?_ _)); exact BK405.out⟩, ⟨by (with_reducible repeat (first | refine blk_drewN ?_ _ | refine blk_drew ?_ | refine blk_alloc ?_ _)); exact BK411.out⟩, ⟨by repeat (first | (with_reducible first | exact HB.out | apply below_alloc | apply pw_below_drewN | apply below_drew1 | refine below_set ?_ GE381.out | refine below_set ?_ GE399.out | refine below_set ?_ GE405.out | refine below_set ?_ GE411.out) | exact HB.out)⟩⟩
               ·replace c94 := Bool.eq_false_iff.mpr c94
                subst c94
                have H1 : (laws_FnTools.j4 kj74 l0 t396 t413 true t392 t393 t394 t395) = some r := by rw [if_neg (show ¬ (false = true) by decide)] at H; exact H
                clear H; have H := H1; clear H1
                have H' := Aside0.mk H
                clear H
                go_wp2
                go_meet
                case rel => exact ⟨_, (true), (by first | rfl | (simp; done) | (simp [*]; done)), H', ⟨by have := HJ6.out; have := HJ23.out; have := HJ38.out; have := HJ74.out; first | omega | exact Nat.le_refl _⟩, ⟨by (with_reducible repeat (first | apply Kd.R_alloc | apply Kd.R_drewN | apply Kd.R_drew)); exact HO_14.out⟩, ⟨by (with_reducible repeat (first | refine blk_drewN ?_ _ | refine blk_drew ?_ | refine blk_alloc ?_ _)); exact BK381.out⟩, ⟨by (with_reducible repeat (first | refine blk_drewN ?_ _ | refine blk_drew ?_ | refine blk_alloc ?_ _)); exact BK399.out⟩, ⟨by (with_reducible repeat (first | refine blk_drewN ?_ _ | refine blk_drew ?_ | refine blk_alloc ?_ _)); exact BK405.out⟩, ⟨by (with_reducible repeat (first | refine blk_drewN ?_ _ | refine blk_drew ?_ | refine blk_alloc ?_ _)); exact BK411.out⟩, ⟨by repeat (first | (with_reducible first | exact HB.out | apply below_alloc | apply pw_below_drewN | apply below_drew1 | refine below_set ?_ GE381.out | refine below_set ?_ GE399.out | refine below_set ?_ GE405.out | refine below_set ?_ GE411.out) | exact HB.out)⟩⟩
              case rest => as_aux_lemma =>
               clear HC88; (try clear c3); (try clear c14); (try clear c14b0); (try clear c14b1); (try clear c15); (try clear c15b0); (try clear c15b1); (try clear c15b2); (try clear c23); (try clear c25); (try clear c28); (try clear c29); (try clear c30); (try clear c30b0); (try clear c30b1); (try clear c31); (try clear c31b0); (try clear c57); (try clear c57b0); (try clear c72); (try clear c83); (try clear c83b0); (try clear c83b1); (try clear c84); (try clear c84b0); (try clear c84b1); (try clear c85); (try clear c86); (try clear c94); (try clear c95); (try clear z10_0); (try clear z10_1); (try clear z10_2); (try clear z10_3); (try clear z12_0); (try clear z12_1); (try clear z12_2); (try clear z12_3); (try clear z32_0); (try clear z32_1); (try clear z32_2); (try clear z32_3); (try clear z34_0); (try clear z34_1); (try clear z34_2); (try clear z34_3); (try clear z43_0); (try clear z43_1); (try clear z43_2); (try clear z43_3); (try clear z49_0); (try clear z49_1); (try clear z49_2); (try clear z49_3); (try clear z50_0); (try clear z50_1); (try clear z50_2); (try clear z50_3); (try clear z56_0); (try clear z56_1); (try clear z56_2); (try clear z56_3); (try clear z61_0); (try clear z61_1); (try clear z61_2); (try clear z61_3); (try clear z64_0); (try clear z64_1); (try clear z64_2); (try clear z64_3); (try clear z68_0); (try clear z68_1); (try clear z68_2); (try clear z68_3); (try clear z71_0); (try clear z71_1); (try clear z71_2); (try clear z71_3); (try clear z79_0); (try clear z79_1); (try clear z79_2); (try clear z79_3); (try clear z81_0); (try clear z81_1); (try clear z81_2); (try clear z81_3); (try clear z92_0); (try clear z92_1); (try clear z92_2); (try clear z92_3); (try clear y10_0); (try clear y10_1); (try clear y10_2); (try clear y10_3); (try clear y12_0); (try clear y12_1); (try clear y12_2); (try clear y12_3); (try clear y32_0); (try clear y32_1); (try clear y32_2); (try clear y32_3); (try clear y34_0); (try clear y34_1); (try clear y34_2); (try clear y34_3); (try clear y43_0); (try clear y43_1); (try clear y43_2); (try clear y43_3); (try clear y49_0); (try clear y49_1); (try clear y49_2); (try clear y49_3); (try clear y50_0); (try clear y50_1); (try clear y50_2); (try clear y50_3); (try clear y56_0); (try clear y56_1); (try clear y56_2); (try clear y56_3); (try clear y61_0); (try clear y61_1); (try clear y61_2); (try clear y61_3); (try clear y64_0); (try clear y64_1); (try clear y64_2); (try clear y64_3); (try clear y68_0); (try clear y68_1); (try clear y68_2); (try clear y68_3); (try clear y71_0); (try clear y71_1); (try clear y71_2); (try clear y71_3); (try clear y79_0); (try clear y79_1); (try clear y79_2); (try clear y79_3); (try clear y81_0); (try clear y81_1); (try clear y81_2); (try clear y81_3); (try clear y92_0); (try clear y92_1); (try clear y92_2); (try clear y92_3); obtain ⟨kq, x170_87, rfl, HA, HJ87, HO_14, BK381, BK399, BK405, BK411, HB⟩ := hcut
               cases kq with
               | zero => exact absurd HA.out (by simp [laws_FnTools.j4])
               | succ kj87 =>
                have H := HA.out; clear HA
                simp only [laws_FnTools.j4] at H
                by_cases c96 : x170_87 = true
                ·subst c96
                 have H1 : (none) = some r := by rw [if_pos rfl] at H; exact H
                 clear H; have H := H1; clear H1
                 exact absurd H (by simp)
                ·replace c96 := Bool.eq_false_iff.mpr c96
                 subst c96
                 have H1 : (laws_FnTools.l0 kj87 l0 t396 t413 0 t392 t393 t394 t395) = some r := by rw [if_neg (show ¬ (false = true) by decide)] at H; exact H
                 clear H; have H := H1; clear H1
                 have H' := Aside0.mk H
                 clear H
                 go_wp2
                 go_loopg [28] kj87 (fun kq v28 w' => ∃ (x28_6 : Int), v28 = .int .i64 x28_6 ∧ Aside0 (laws_FnTools.l0 kq l0 t396 t413 x28_6 t392 t393 t394 t395 = some r) ∧ Aside0 (kq ≤ kj87) ∧ Aside0 (Kd.R k46 46 w' w.heap.size (fun _ => True) (.slice Ao44 t396.length co44) t396) ∧ Aside0 (w'.heap[gb381]? = some (.cells #[.int .i64 t376, .int .i64 t377, .int .i64 t378, .int .i64 t379] 44 (0, 0))) ∧ Aside0 (w'.heap[gb399]? = some (.cells #[.int .i64 t392, .int .i64 t393, .int .i64 t394, .int .i64 t395] 44 (0, 0))) ∧ Aside0 (w'.heap[gb405]? = some (.cells #[.int .i64 t400, .int .i64 t401, .int .i64 t402, .int .i64 t403] 44 (0, 0))) ∧ Aside0 (w'.heap[gb411]? = some (.cells #[.int .i64 t406, .int .i64 t407, .int .i64 t408, .int .i64 t409] 44 (0, 0))) ∧ Aside0 (Below w.heap.size w w'))
                 case atStart => exact ⟨(0), (by first | rfl | (simp; done) | (simp [*]; done)), H', ⟨Nat.le_refl _⟩, ⟨by (with_reducible repeat (first | apply Kd.R_alloc | apply Kd.R_drewN | apply Kd.R_drew)); exact HO_14.out⟩, ⟨by (with_reducible repeat (first | refine blk_drewN ?_ _ | refine blk_drew ?_ | refine blk_alloc ?_ _)); exact BK381.out⟩, ⟨by (with_reducible repeat (first | refine blk_drewN ?_ _ | refine blk_drew ?_ | refine blk_alloc ?_ _)); exact BK399.out⟩, ⟨by (with_reducible repeat (first | refine blk_drewN ?_ _ | refine blk_drew ?_ | refine blk_alloc ?_ _)); exact BK405.out⟩, ⟨by (with_reducible repeat (first | refine blk_drewN ?_ _ | refine blk_drew ?_ | refine blk_alloc ?_ _)); exact BK411.out⟩, ⟨by repeat (first | (with_reducible first | exact HB.out | apply below_alloc | apply pw_below_drewN | apply below_drew1 | refine below_set ?_ GE381.out | refine below_set ?_ GE399.out | refine below_set ?_ GE405.out | refine below_set ?_ GE411.out) | exact HB.out)⟩⟩
                 case round =>
                  clear H'
                  (try clear c3); (try clear c14); (try clear c14b0); (try clear c14b1); (try clear c15); (try clear c15b0); (try clear c15b1); (try clear c15b2); (try clear c23); (try clear c25); (try clear c28); (try clear c29); (try clear c30); (try clear c30b0); (try clear c30b1); (try clear c31); (try clear c31b0); (try clear c57); (try clear c57b0); (try clear c72); (try clear c83); (try clear c83b0); (try clear c83b1); (try clear c84); (try clear c84b0); (try clear c84b1); (try clear c85); (try clear c86); (try clear c94); (try clear c95); (try clear c96); (try clear z10_0); (try clear z10_1); (try clear z10_2); (try clear z10_3); (try clear z12_0); (try clear z12_1); (try clear z12_2); (try clear z12_3); (try clear z32_0); (try clear z32_1); (try clear z32_2); (try clear z32_3); (try clear z34_0); (try clear z34_1); (try clear z34_2); (try clear z34_3); (try clear z43_0); (try clear z43_1); (try clear z43_2); (try clear z43_3); (try clear z49_0); (try clear z49_1); (try clear z49_2); (try clear z49_3); (try clear z50_0); (try clear z50_1); (try clear z50_2); (try clear z50_3); (try clear z56_0); (try clear z56_1); (try clear z56_2); (try clear z56_3); (try clear z61_0); (try clear z61_1); (try clear z61_2); (try clear z61_3); (try clear z64_0); (try clear z64_1); (try clear z64_2); (try clear z64_3); (try clear z68_0); (try clear z68_1); (try clear z68_2); (try clear z68_3); (try clear z71_0); (try clear z71_1); (try clear z71_2); (try clear z71_3); (try clear z79_0); (try clear z79_1); (try clear z79_2); (try clear z79_3); (try clear z81_0); (try clear z81_1); (try clear z81_2); (try clear z81_3); (try clear z92_0); (try clear z92_1); (try clear z92_2); (try clear z92_3); (try clear y10_0); (try clear y10_1); (try clear y10_2); (try clear y10_3); (try clear y12_0); (try clear y12_1); (try clear y12_2); (try clear y12_3); (try clear y32_0); (try clear y32_1); (try clear y32_2); (try clear y32_3); (try clear y34_0); (try clear y34_1); (try clear y34_2); (try clear y34_3); (try clear y43_0); (try clear y43_1); (try clear y43_2); (try clear y43_3); (try clear y49_0); (try clear y49_1); (try clear y49_2); (try clear y49_3); (try clear y50_0); (try clear y50_1); (try clear y50_2); (try clear y50_3); (try clear y56_0); (try clear y56_1); (try clear y56_2); (try clear y56_3); (try clear y61_0); (try clear y61_1); (try clear y61_2); (try clear y61_3); (try clear y64_0); (try clear y64_1); (try clear y64_2); (try clear y64_3); (try clear y68_0); (try clear y68_1); (try clear y68_2); (try clear y68_3); (try clear y71_0); (try clear y71_1); (try clear y71_2); (try clear y71_3); (try clear y79_0); (try clear y79_1); (try clear y79_2); (try clear y79_3); (try clear y81_0); (try clear y81_1); (try clear y81_2); (try clear y81_3); (try clear y92_0); (try clear y92_1); (try clear y92_2); (try clear y92_3); obtain ⟨x28_6, rfl, HA, HK6, HO_14, BK381, BK399, BK405, BK411, HB⟩ := hrel
                  cases gk with
                  | zero => exact absurd HA.out (by simp [laws_FnTools.l0])
                  | succ k6 =>
                   have H := HA.out; clear HA
                   simp only [laws_FnTools.l0] at H
                   by_cases c97 : x28_6 < (t396.length : Int)
                   ·rw [if_pos c97] at H
                    have c97b0 : decide (x28_6 < (t396.length : Int)) = true := decide_eq_true c97
                    clear c97
                    by_cases c98 : 0 ≤ x28_6
                    ·rw [if_pos c98] at H
                     have c98b0 : decide (0 ≤ x28_6) = true := decide_eq_true c98
                     clear c98; replace H := Option.bind_eq_some_iff.mp H; obtain ⟨⟨t422, t423⟩, A990, H⟩ := H
                     replace H : (if t423 = true then (if t422 > t413 then (none) else (if (wrap64 (-t422)) > t413 then (none) else (laws_FnTools.l0 k6 l0 t396 t413 (wrap64 (x28_6 + 1)) t392 t393 t394 t395))) else (none)) = some r := H
                     have A99 := Aside0.mk A990; clear A990
                     by_cases c100 : t423 = true
                     ·subst c100
                      have H1 : (if t422 > t413 then (none) else (if (wrap64 (-t422)) > t413 then (none) else (laws_FnTools.l0 k6 l0 t396 t413 (wrap64 (x28_6 + 1)) t392 t393 t394 t395))) = some r := by rw [if_pos rfl] at H; exact H
                      clear H; have H := H1; clear H1
                      by_cases c101 : t422 > t413
                      ·rw [if_pos c101] at H
                       exact absurd H (by simp)
                      ·rw [if_neg c101] at H
                       have c101b0 : decide (t413 < t422) = false := decide_eq_false c101
                       clear c101
                       by_cases c102 : (wrap64 (-t422)) > t413
                       ·rw [if_pos c102] at H
                        exact absurd H (by simp)
                       ·rw [if_neg c102] at H
                        have c102b0 : decide (t413 < (wrap64 (-t422))) = false := decide_eq_false c102
                        clear c102
                        have H' := Aside0.mk H
                        clear H
                        try go_wp2
                        have n0_ := Aside0.mk (Kd.R_drew HO_14.out)
                        have n1_ := Aside0.mk (blk_drew BK381.out)
                        have n2_ := Aside0.mk (blk_drew BK399.out)
                        have n3_ := Aside0.mk (blk_drew BK405.out)
                        have n4_ := Aside0.mk (blk_drew BK411.out)
                        have n5_ := Aside0.mk (below_drew1 HB.out)
                        clear HO_14; clear BK381; clear BK399; clear BK405; clear BK411; clear HB; have HO_14 := n0_; have BK381 := n1_; have BK399 := n2_; have BK405 := n3_; have BK411 := n4_; have HB := n5_; clear n0_ n1_ n2_ n3_ n4_ n5_
                        have p421 : 0 ≤ (x28_6 : Int) := of_decide_eq_true (by first | (with_reducible assumption) | assumption)
                        have q421 : x28_6 < (t396.length : Int) := of_decide_eq_true (by first | (with_reducible assumption) | assumption)
                        obtain ⟨ad421, e421, hx421_0, hx421_1⟩ := at_T46 (Kd.R_reads' HO_14.out).2.2 x28_6 p421 q421
                        cases e421
                        replace p421 := eq_true p421
                        replace q421 := eq_true q421
                        refine start_ (n := 11) (S := fun w' => w'.cell? ⟨gb399, 0, none⟩ = some (.int .i64 t392) ∧ w'.cell? ⟨gb399, 1, none⟩ = some (.int .i64 t393) ∧ w'.cell? ⟨gb399, 2, none⟩ = some (.int .i64 t394) ∧ w'.cell? ⟨gb399, 3, none⟩ = some (.int .i64 t395) ∧ w'.cell? (ad421.add ((x28_6).toNat * 2)) = some (.int .i64 ((rd_T46 t396 x28_6).f0)) ∧ w'.cell? ⟨(ad421.add ((x28_6).toNat * 2)).block, (ad421.add ((x28_6).toNat * 2)).off + 1, none⟩ = some (.int .i64 ((rd_T46 t396 x28_6).f1))) (ds := []) #[false, false, false, false, false, false, false, false, false, false, false] (by kernel_rfl) rfl rfl ⟨(blk_cell BK399.out 0).trans rfl, (blk_cell BK399.out 1).trans rfl, (blk_cell BK399.out 2).trans rfl, (blk_cell BK399.out 3).trans rfl, hx421_0, hx421_1⟩ (fun hHeld => ?_); refine with_tabW laws_FnTools.tab29 laws_FnTools.bits29 (fun HT_ HW_ => ?_)
                        generalize wr.drew = w103 at HO_14 BK381 BK399 BK405 BK411 HB hx421_0 hx421_1 hHeld ⊢
                        refine pure_ (i := 1) (N := some 179) (v := ?_) (a' := ?_) #[false, true, false, false, false, false, false, false, false, false, false] rfl rfl (any_of HT_.out (by kernel_rfl)) (fun _ _ _ h => h) (Or.inl ⟨by rfl, ?_⟩) ?_ ?_
                        rotate_left
                        ·intro w'
                         go_simp
                         with_reducible rfl
                        rotate_left
                        ·simp only [Act.put, List.setIfInBounds_toArray, List.set_cons_zero, List.set_cons_succ, i64_w, i32_w]
                         rfl
                        refine pure_ (i := 2) (N := some 180) (v := ?_) (a' := ?_) #[false, true, true, false, false, false, false, false, false, false, false] rfl rfl (any_of HT_.out (by kernel_rfl)) (fun _ _ _ h => h) (Or.inl ⟨by rfl, ?_⟩) ?_ ?_
                        rotate_left
                        ·intro w'
                         go_simp
                         with_reducible rfl
                        rotate_left
                        ·simp only [Act.put, List.setIfInBounds_toArray, List.set_cons_zero, List.set_cons_succ, i64_w, i32_w]
                         rfl
                        refine pure_ (i := 3) (N := some 181) (v := ?_) (a' := ?_) #[false, true, true, true, false, false, false, false, false, false, false] rfl rfl (any_of HT_.out (by kernel_rfl)) (fun _ _ _ h => h) (Or.inl ⟨by rfl, ?_⟩) ?_ ?_
                        rotate_left
                        ·intro w'
                         go_simp
                         with_reducible rfl
                        rotate_left
                        ·simp only [Act.put, List.setIfInBounds_toArray, List.set_cons_zero, List.set_cons_succ, i64_w, i32_w]
                         rfl
                        refine take_ (i := 0) (N := some 178) (v := ?_) (a' := ?_) #[true, true, true, true, false, false, false, false, false, false, false] rfl rfl (take_ofW HT_.out HW_.out (by kernel_rfl)) (fun _ _ _ h => h) (Or.inl ⟨by rfl, ?_⟩) hHeld ?_ ?_
                        rotate_left
                        ·rintro w' ⟨s0, s1, s2, s3, s4, s5⟩
                         go_simp
                         with_reducible rfl
                        rotate_left
                        ·simp only [Act.put, List.setIfInBounds_toArray, List.set_cons_zero, List.set_cons_succ, i64_w, i32_w]
                         rfl
                        refine take_ (i := 4) (N := some 182) (v := ?_) (a' := ?_) #[true, true, true, true, true, false, false, false, false, false, false] rfl rfl (take_ofW HT_.out HW_.out (by kernel_rfl)) (fun _ _ _ h => h) (Or.inl ⟨by rfl, ?_⟩) hHeld ?_ ?_
                        rotate_left
                        ·rintro w' ⟨s0, s1, s2, s3, s4, s5⟩
                         go_simp
                         with_reducible rfl
                        rotate_left
                        ·simp only [Act.put, List.setIfInBounds_toArray, List.set_cons_zero, List.set_cons_succ, i64_w, i32_w]
                         rfl
                        refine one_ (i := 5) (N := some 183) #[true, true, true, true, true, true, false, false, false, false, false] rfl rfl (one_of HT_.out (by kernel_rfl)) (by decide) (fun K hK => ?_)
                        refine goes_ Try.func33 (by kernel_rfl) rfl #[.agg #[.int .i64 t392, .int .i64 t393, .int .i64 t394, .int .i64 t395], .agg #[.int .i64 ((rd_T46 t396 x28_6).f0), .int .i64 ((rd_T46 t396 x28_6).f1)]] (by rfl) rfl rfl gl_ ?_
                        with_reducible refine (impl_CheckError.calls k6 t392 t393 t394 t395 ((rd_T46 t396 x28_6).f0) ((rd_T46 t396 x28_6).f1) t422 true _ A99.out).mono ?_
                        rintro e w104 ⟨rfl, hb⟩
                        have HS4_ := (hb.cell (World.block_lt_of_cell? _ _ (hHeld.2.2.2.2.1))).trans (hHeld.2.2.2.2.1)
                        have HS5_ := (hb.cell (World.block_lt_of_cell? _ _ (hHeld.2.2.2.2.2))).trans (hHeld.2.2.2.2.2)
                        refine ⟨_, rfl, ?_⟩
                        have n0_ := Aside0.mk (Kd.R_below (kr_ HO_14) hb)
                        have n1_ := Aside0.mk (blk_below (bk_ BK381) hb)
                        have n2_ := Aside0.mk (blk_below (bk_ BK399) hb)
                        have n3_ := Aside0.mk (blk_below (bk_ BK405) hb)
                        have n4_ := Aside0.mk (blk_below (bk_ BK411) hb)
                        have n5_ := Aside0.mk (below_step bx_ hb)
                        clear HO_14; clear BK381; clear BK399; clear BK405; clear BK411; clear HB; have HO_14 := n0_; have BK381 := n1_; have BK399 := n2_; have BK405 := n3_; have BK411 := n4_; have HB := n5_; clear n0_ n1_ n2_ n3_ n4_ n5_; (try clear hb)
                        
                        (try clear hk)
                        
                        refine hK.out _ _ ⟨(blk_cell BK399.out 0).trans rfl, (blk_cell BK399.out 1).trans rfl, (blk_cell BK399.out 2).trans rfl, (blk_cell BK399.out 3).trans rfl, HS4_, HS5_⟩ (fun hHeld => ?_)
                        clear hK K
                        refine norm_ (a' := ?_) ?_ ?_
                        rotate_left
                        ·show Act.put _ (some 183) _ = _
                         simp only [Act.put, List.setIfInBounds_toArray, List.set_cons_zero, List.set_cons_succ, i64_w, i32_w]
                         rfl
                        refine pure_ (i := 6) (N := some 177) (v := ?_) (a' := ?_) #[true, true, true, true, true, true, true, false, false, false, false] rfl rfl (any_of HT_.out (by kernel_rfl)) (fun _ _ _ h => h) (Or.inl ⟨by rfl, ?_⟩) ?_ ?_
                        rotate_left
                        ·intro w'
                         go_simp
                         with_reducible rfl
                        rotate_left
                        ·simp only [Act.put, List.setIfInBounds_toArray, List.set_cons_zero, List.set_cons_succ, i64_w, i32_w]
                         rfl
                        refine pure_ (i := 7) (N := some 184) (v := ?_) (a' := ?_) #[true, true, true, true, true, true, true, true, false, false, false] rfl rfl (any_of HT_.out (by kernel_rfl)) (fun _ _ _ h => h) (Or.inl ⟨by rfl, ?_⟩) ?_ ?_
                        rotate_left
                        ·intro w'
                         go_simp
                         with_reducible rfl
                        rotate_left
                        ·simp only [Act.put, List.setIfInBounds_toArray, List.set_cons_zero, List.set_cons_succ, i64_w, i32_w]
                         rfl
                        refine pure_ (i := 8) (N := some 185) (v := ?_) (a' := ?_) #[true, true, true, true, true, true, true, true, true, false, false] rfl rfl (any_of HT_.out (by kernel_rfl)) (fun _ _ _ h => h) (Or.inl ⟨by rfl, ?_⟩) ?_ ?_
                        rotate_left
                        ·intro w'
                         go_simp
                         with_reducible rfl
                        rotate_left
                        ·simp only [Act.put, List.setIfInBounds_toArray, List.set_cons_zero, List.set_cons_succ, i64_w, i32_w]
                         rfl
                        refine pure_ (i := 9) (N := some 29) (v := ?_) (a' := ?_) #[true, true, true, true, true, true, true, true, true, true, false] rfl rfl (any_of HT_.out (by kernel_rfl)) (fun _ _ _ h => h) (Or.inl ⟨by rfl, ?_⟩) ?_ ?_
                        rotate_left
                        ·intro w'
                         go_simp
                         with_reducible rfl
                        rotate_left
                        ·simp only [Act.put, List.setIfInBounds_toArray, List.set_cons_zero, List.set_cons_succ, i64_w, i32_w]
                         rfl
                        refine pure_ (i := 10) (N := some 30) (v := ?_) (a' := ?_) #[true, true, true, true, true, true, true, true, true, true, true] rfl rfl (any_of HT_.out (by kernel_rfl)) (fun _ _ _ h => h) (Or.inl ⟨by rfl, ?_⟩) ?_ ?_
                        rotate_left
                        ·intro w'
                         go_simp
                         with_reducible rfl
                        rotate_left
                        ·simp only [Act.put, List.setIfInBounds_toArray, List.set_cons_zero, List.set_cons_succ, i64_w, i32_w]
                         rfl
                        refine done_ (done_of HT_.out (by kernel_rfl)) ?_
                        try go_wp2
                        go_roundg k6
                        case measure => have := HJ6.out; have := HJ23.out; have := HJ38.out; have := HJ74.out; have := HJ87.out; have := HK6.out; omega
                        case rel => exact ⟨(wrap64 (x28_6 + 1)), (by first | rfl | (simp; done) | (simp [*]; done)), H', ⟨by have := HJ6.out; have := HJ23.out; have := HJ38.out; have := HJ74.out; have := HJ87.out; have := HK6.out; omega⟩, ⟨by (with_reducible repeat (first | apply Kd.R_alloc | apply Kd.R_drewN | apply Kd.R_drew)); exact HO_14.out⟩, ⟨by (with_reducible repeat (first | refine blk_drewN ?_ _ | refine blk_drew ?_ | refine blk_alloc ?_ _)); exact BK381.out⟩, ⟨by (with_reducible repeat (first | refine blk_drewN ?_ _ | refine blk_drew ?_ | refine blk_alloc ?_ _)); exact BK399.out⟩, ⟨by (with_reducible repeat (first | refine blk_drewN ?_ _ | refine blk_drew ?_ | refine blk_alloc ?_ _)); exact BK405.out⟩, ⟨by (with_reducible repeat (first | refine blk_drewN ?_ _ | refine blk_drew ?_ | refine blk_alloc ?_ _)); exact BK411.out⟩, ⟨by repeat (first | (with_reducible first | exact HB.out | apply below_alloc | apply pw_below_drewN | apply below_drew1 | refine below_set ?_ GE381.out | refine below_set ?_ GE399.out | refine below_set ?_ GE405.out | refine below_set ?_ GE411.out) | exact HB.out)⟩⟩
                     ·replace c100 := Bool.eq_false_iff.mpr c100
                      subst c100
                      have H1 : (none) = some r := by rw [if_neg (show ¬ (false = true) by decide)] at H; exact H
                      clear H; have H := H1; clear H1
                      exact absurd H (by simp)
                    ·rw [if_neg c98] at H
                     exact absurd H (by simp)
                   ·rw [if_neg c97] at H
                    have c97b0 : decide (x28_6 < (t396.length : Int)) = false := decide_eq_false c97
                    clear c97; replace H := Option.bind_eq_some_iff.mp H; obtain ⟨⟨t424, t425, t426, t427, t428, t429⟩, A1050, H⟩ := H
                    replace H : ((impl_CheckError.f k6 t424 t425 t426 t427 t428 t429).bind fun bt432 => ((spec_CheckError.f k6 t424 t425 t426 t427 t428 t429).bind fun bt434 => (if bt432.1 = bt434.1 then (some (bt432.2 == bt434.2)) else (none)))) = some r := H
                    have A105 := Aside0.mk A1050; clear A1050; replace H := Option.bind_eq_some_iff.mp H; obtain ⟨⟨t432, t433⟩, A1060, H⟩ := H
                    replace H : ((spec_CheckError.f k6 t424 t425 t426 t427 t428 t429).bind fun bt434 => (if t432 = bt434.1 then (some (t433 == bt434.2)) else (none))) = some r := H
                    have A106 := Aside0.mk A1060; clear A1060; replace H := Option.bind_eq_some_iff.mp H; obtain ⟨⟨t434, t435⟩, A1070, H⟩ := H
                    replace H : (if t432 = t434 then (some (t433 == t435)) else (none)) = some r := H
                    have A107 := Aside0.mk A1070; clear A1070
                    by_cases c108 : t432 = t434
                    ·rw [if_pos c108] at H
                     have c108b0 : (t432 == t434) = true := beq_iff_eq.mpr c108
                     have c108b1 : (t432 != t434) = false := bne_eq_false_iff_eq.mpr c108
                     clear c108
                     obtain rfl := Option.some.inj H
                     go_upto_region 32 with fail
                     exact laws_FnTools.tail_wp k6 A0 c0 l0 t424 t425 t426 t427 t428 t429 t432 t434 t433 t435 w HR0 HC0 HB A105 A106 A107 c108b0 (by rfl) (by rfl) (by assumption)
                    ·rw [if_neg c108] at H
                     exact absurd H (by simp)
             ·replace c86 := Bool.eq_false_iff.mpr c86
              subst c86
              have H1 : ((spec_DrawCheckError.f kj74 l0).bind fun bt436 => ((impl_CheckError.f kj74 bt436.1 bt436.2.1 bt436.2.2.1 bt436.2.2.2.1 bt436.2.2.2.2.1 bt436.2.2.2.2.2).bind fun bt444 => ((spec_CheckError.f kj74 bt436.1 bt436.2.1 bt436.2.2.1 bt436.2.2.2.1 bt436.2.2.2.2.1 bt436.2.2.2.2.2).bind fun bt446 => (if bt444.1 = bt446.1 then (some (bt444.2 == bt446.2)) else (none))))) = some r := by rw [if_neg (show ¬ (false = true) by decide)] at H; exact H
              clear H; have H := H1; clear H1; replace H := Option.bind_eq_some_iff.mp H; obtain ⟨⟨t436, t437, t438, t439, t440, t441⟩, A1270, H⟩ := H
              replace H : ((impl_CheckError.f kj74 t436 t437 t438 t439 t440 t441).bind fun bt444 => ((spec_CheckError.f kj74 t436 t437 t438 t439 t440 t441).bind fun bt446 => (if bt444.1 = bt446.1 then (some (bt444.2 == bt446.2)) else (none)))) = some r := H
              have A127 := Aside0.mk A1270; clear A1270; replace H := Option.bind_eq_some_iff.mp H; obtain ⟨⟨t444, t445⟩, A1280, H⟩ := H
              replace H : ((spec_CheckError.f kj74 t436 t437 t438 t439 t440 t441).bind fun bt446 => (if t444 = bt446.1 then (some (t445 == bt446.2)) else (none))) = some r := H
              have A128 := Aside0.mk A1280; clear A1280; replace H := Option.bind_eq_some_iff.mp H; obtain ⟨⟨t446, t447⟩, A1290, H⟩ := H
              replace H : (if t444 = t446 then (some (t445 == t447)) else (none)) = some r := H
              have A129 := Aside0.mk A1290; clear A1290
              by_cases c130 : t444 = t446
              ·rw [if_pos c130] at H
               have c130b0 : (t444 == t446) = true := beq_iff_eq.mpr c130
               have c130b1 : (t444 != t446) = false := bne_eq_false_iff_eq.mpr c130
               clear c130
               obtain rfl := Option.some.inj H
               go_upto_region 32 with fail
               exact laws_FnTools.tail_wp kj74 A0 c0 l0 t436 t437 t438 t439 t440 t441 t444 t446 t445 t447 w HR0 HC0 HB A127 A128 A129 c130b0 (by rfl) (by rfl) (by assumption)
              ·rw [if_neg c130] at H
               exact absurd H (by simp)

end Go.Proofs.Ytpfmhoikhnhdcaa.XFnTools
