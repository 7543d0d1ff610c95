/- Contracts of the functions that the law FnAngles comes to: each is told as a plain function of its arguments, and the machine's call does what that function says; no condition. Written by programs (print.py, xprint.py); Lean checks it. -/
import Derived.Test.YtphbgedmdohlnaaDoorXFnAnglesx0
import Derived.Test.YtphbgedmdohlnaaDoorXFnAnglesx1
import Derived.Test.YtphbgedmdohlnaaDoorXFnAnglesx2
import Derived.Test.YtphbgedmdohlnaaDoorXFnAnglesx3
namespace Go.Proofs.YtphbgedmdohlnaaDoor.XFnAngles
open Go.RowKit Go.Proofs.YtphbgedmdohlnaaDoorW.PrintWords Go.Proofs.YtphbgedmdohlnaaDoorW.PrintLast Go.Proofs.YtphbgedmdohlnaaDoorW.PrintMore
attribute [local go_sem] max2_int min2_int max_two min_two max_three min_three max_four min_four   -- for this text's walks alone
set_option linter.unusedVariables false
set_option linter.unusedSimpArgs false

/-! ### laws_FnAngles: function 8 -/
mutual
def laws_FnAngles.j0 : Nat → List Int → Int → Int → Bool → Int → Bool → Bool → Option (Bool)
  | 0, _, _, _, _, _, _, _ => none
  | k + 1, x0, x3, x4, x5, x6, x7, x69 => if x69 = true then (some false) else ((spec_CosineOf.f x3).bind fun bt261 => (if x6 = bt261.1 then (if (x7 != bt261.2) = true then (laws_FnAngles.j1 k x0 x3 x4 x5 x6 true) else (laws_FnAngles.j1 k x0 x3 x4 x5 x6 (x7 != x5))) else (laws_FnAngles.j1 k x0 x3 x4 x5 x6 true)))
def laws_FnAngles.j1 : Nat → List Int → Int → Int → Bool → Int → Bool → Option (Bool)
  | 0, _, _, _, _, _, _ => none
  | k + 1, x0, x3, x4, x5, x6, x87 => if x87 = true then (some false) else (if x5 = true then ((impl_SineOf.f (wrap64 (-x3))).bind fun bt263 => (if bt263.2 = true then (if bt263.1 = (wrap64 (-x4)) then (if (wrap64 ((wrap64 (x4 * x4)) + (wrap64 (x6 * x6)))) < 998000 then (laws_FnAngles.j2 k x0 x3 x4 x6 true) else (laws_FnAngles.j2 k x0 x3 x4 x6 (decide ((wrap64 ((wrap64 (x4 * x4)) + (wrap64 (x6 * x6)))) > 1002000)))) else (laws_FnAngles.j2 k x0 x3 x4 x6 true)) else (laws_FnAngles.j2 k x0 x3 x4 x6 true))) else (laws_FnAngles.j4 k x0))
def laws_FnAngles.j4 : Nat → List Int → Option (Bool)
  | 0, _ => none
  | k + 1, x0 => (spec_DrawRoundedDiv.f x0).bind fun bt269 => ((impl_RoundedDiv.f k bt269.1 bt269.2).bind fun bt271 => ((spec_RoundedDiv.f bt269.1 bt269.2).bind fun bt273 => (if bt271.1 = bt273.1 then (if (bt271.2 != bt273.2) = true then (laws_FnAngles.j5 k x0 true) else (if bt271.2 = true then ((laws_vFar.f (wrap64 ((wrap64 (bt271.1 * bt269.2)) - bt269.1))).bind fun t275 => (laws_FnAngles.j5 k x0 (decide ((wrap64 (2 * t275)) > bt269.2)))) else (laws_FnAngles.j5 k x0 false))) else (laws_FnAngles.j5 k x0 true))))
def laws_FnAngles.j5 : Nat → List Int → Bool → Option (Bool)
  | 0, _, _ => none
  | k + 1, x0, x185 => if x185 = true then (some false) else ((spec_DrawPartOf.f x0).bind fun bt276 => ((impl_PartOf.f k bt276.1 bt276.2).bind fun bt278 => ((spec_PartOf.f k bt276.1 bt276.2).bind fun bt281 => (if bt278.1 = bt281.1 then (if bt278.2.1 = bt281.2.1 then (laws_FnAngles.j6 k x0 bt276.1 bt276.2 bt278.1 bt278.2.1 bt278.2.2 (bt278.2.2 != bt281.2.2)) else (laws_FnAngles.j6 k x0 bt276.1 bt276.2 bt278.1 bt278.2.1 bt278.2.2 true)) else (laws_FnAngles.j6 k x0 bt276.1 bt276.2 bt278.1 bt278.2.1 bt278.2.2 true)))))
def laws_FnAngles.j6 : Nat → List Int → Int → Int → Int → Int → Bool → Bool → Option (Bool)
  | 0, _, _, _, _, _, _, _ => none
  | k + 1, x0, x24, x25, x26, x27, x28, x217 => if x217 = true then (some false) else (if x28 = true then ((impl_PartOf.f k (wrap64 (-x24)) x25).bind fun bt284 => (if bt284.2.2 = true then (if bt284.1 = (wrap64 (-x26)) then (if bt284.2.1 = (wrap64 (-x27)) then (laws_FnAngles.j7 k x0) else (some false)) else (some false)) else (some false))) else (laws_FnAngles.j7 k x0))
def laws_FnAngles.j7 : Nat → List Int → Option (Bool)
  | 0, _ => none
  | k + 1, x0 => (spec_DrawTurnBetween.f x0).bind fun bt287 => ((impl_TurnBetween.f bt287.1 bt287.2).bind fun bt289 => ((impl_TurnBetween.f bt287.2 bt287.1).bind fun bt291 => ((spec_TurnBetween.f bt287.1 bt287.2).bind fun bt293 => (if bt289.1 = bt293.1 then (if (bt289.2 == bt293.2) = true then (if (bt291.2 == bt289.2) = true then (if bt291.1 = bt289.1 then (if bt289.2 = true then (if bt289.1 ≥ 0 then (some (decide (bt289.1 ≤ 180))) else (some false)) else (some true)) else (some false)) else (some false)) else (some false)) else (some false)))))
def laws_FnAngles.j2 : Nat → List Int → Int → Int → Int → Bool → Option (Bool)
  | 0, _, _, _, _, _ => none
  | k + 1, x0, x3, x4, x6, x122 => if x122 = true then (some false) else ((impl_SineOf.f (wrap64 (x3 + 90))).bind fun bt265 => (if bt265.2 = true then (laws_FnAngles.j3 k x0 x3 x4 (bt265.1 != x6)) else (laws_FnAngles.j3 k x0 x3 x4 false)))
def laws_FnAngles.j3 : Nat → List Int → Int → Int → Bool → Option (Bool)
  | 0, _, _, _, _ => none
  | k + 1, x0, x3, x4, x134 => if x134 = true then (some false) else ((impl_SineOf.f (wrap64 (x3 + 360))).bind fun bt267 => (if bt267.2 = true then (if bt267.1 = x4 then (laws_FnAngles.j4 k x0) else (some false)) else (laws_FnAngles.j4 k x0)))
end
def laws_FnAngles.f (k : Nat) (l0 : List Int) : Option (Bool) := (laws_vBig.f l0).bind fun t253 => (if t253 = true then (some true) else ((spec_DrawSineOf.f l0).bind fun t254 => ((impl_SineOf.f t254).bind fun bt255 => ((impl_CosineOf.f t254).bind fun bt257 => ((spec_SineOf.f t254).bind fun bt259 => (if bt255.1 = bt259.1 then (laws_FnAngles.j0 k l0 t254 bt255.1 bt255.2 bt257.1 bt257.2 (bt255.2 != bt259.2)) else (laws_FnAngles.j0 k l0 t254 bt255.1 bt255.2 bt257.1 bt257.2 true)))))))
theorem laws_FnAngles.mono_l : ∀ k, (∀ y0 y1 y2 y3 y4 y5 y6, LeO (laws_FnAngles.j0 k y0 y1 y2 y3 y4 y5 y6) (laws_FnAngles.j0 (k + 1) y0 y1 y2 y3 y4 y5 y6)) ∧ (∀ y0 y1 y2 y3 y4 y5, LeO (laws_FnAngles.j1 k y0 y1 y2 y3 y4 y5) (laws_FnAngles.j1 (k + 1) y0 y1 y2 y3 y4 y5)) ∧ (∀ y0, LeO (laws_FnAngles.j4 k y0) (laws_FnAngles.j4 (k + 1) y0)) ∧ (∀ y0 y1, LeO (laws_FnAngles.j5 k y0 y1) (laws_FnAngles.j5 (k + 1) y0 y1)) ∧ (∀ y0 y1 y2 y3 y4 y5 y6, LeO (laws_FnAngles.j6 k y0 y1 y2 y3 y4 y5 y6) (laws_FnAngles.j6 (k + 1) y0 y1 y2 y3 y4 y5 y6)) ∧ (∀ y0, LeO (laws_FnAngles.j7 k y0) (laws_FnAngles.j7 (k + 1) y0)) ∧ (∀ y0 y1 y2 y3 y4, LeO (laws_FnAngles.j2 k y0 y1 y2 y3 y4) (laws_FnAngles.j2 (k + 1) y0 y1 y2 y3 y4)) ∧ (∀ y0 y1 y2 y3, LeO (laws_FnAngles.j3 k y0 y1 y2 y3) (laws_FnAngles.j3 (k + 1) y0 y1 y2 y3))
  | 0 => ⟨fun _ _ _ _ _ _ _ r h => by simp [laws_FnAngles.j0] at h, fun _ _ _ _ _ _ r h => by simp [laws_FnAngles.j1] at h, fun _ r h => by simp [laws_FnAngles.j4] at h, fun _ _ r h => by simp [laws_FnAngles.j5] at h, fun _ _ _ _ _ _ _ r h => by simp [laws_FnAngles.j6] at h, fun _ r h => by simp [laws_FnAngles.j7] at h, fun _ _ _ _ _ r h => by simp [laws_FnAngles.j2] at h, fun _ _ _ _ r h => by simp [laws_FnAngles.j3] at h⟩
  | k + 1 => by
    obtain ⟨ih0, ih1, ih2, ih3, ih4, ih5, ih6, ih7⟩ := laws_FnAngles.mono_l k
    refine ⟨?_, ?_, ?_, ?_, ?_, ?_, ?_, ?_⟩
    · intro y0 y1 y2 y3 y4 y5 y6
      unfold laws_FnAngles.j0
      repeat' first
      | (with_reducible exact ih0 _ _ _ _ _ _ _)
      | (with_reducible exact ih1 _ _ _ _ _ _)
      | (with_reducible exact ih2 _)
      | (with_reducible exact ih3 _ _)
      | (with_reducible exact ih4 _ _ _ _ _ _ _)
      | (with_reducible exact ih5 _)
      | (with_reducible exact ih6 _ _ _ _ _)
      | (with_reducible exact ih7 _ _ _ _)
      | (with_reducible exact impl_PartOf.mono _ _ _)
      | (with_reducible exact impl_RoundedDiv.mono _ _ _)
      | (with_reducible exact spec_PartOf.mono _ _ _)
      | (with_reducible exact LeO.refl _)
      | (with_reducible exact LeO.none _)
      | (with_reducible refine LeO.ite ?_ ?_)
      | (with_reducible refine LeO.bind ?_ (fun _ => ?_))
      | exact ih0 _ _ _ _ _ _ _
      | exact ih1 _ _ _ _ _ _
      | exact ih2 _
      | exact ih3 _ _
      | exact ih4 _ _ _ _ _ _ _
      | exact ih5 _
      | exact ih6 _ _ _ _ _
      | exact ih7 _ _ _ _
      | exact impl_PartOf.mono _ _ _
      | exact impl_RoundedDiv.mono _ _ _
      | exact spec_PartOf.mono _ _ _
      | exact LeO.none _
      | refine LeO.ite ?_ ?_
      | refine LeO.bind ?_ (fun _ => ?_)
    · intro y0 y1 y2 y3 y4 y5
      unfold laws_FnAngles.j1
      repeat' first
      | (with_reducible exact ih0 _ _ _ _ _ _ _)
      | (with_reducible exact ih1 _ _ _ _ _ _)
      | (with_reducible exact ih2 _)
      | (with_reducible exact ih3 _ _)
      | (with_reducible exact ih4 _ _ _ _ _ _ _)
      | (with_reducible exact ih5 _)
      | (with_reducible exact ih6 _ _ _ _ _)
      | (with_reducible exact ih7 _ _ _ _)
      | (with_reducible exact impl_PartOf.mono _ _ _)
      | (with_reducible exact impl_RoundedDiv.mono _ _ _)
      | (with_reducible exact spec_PartOf.mono _ _ _)
      | (with_reducible exact LeO.refl _)
      | (with_reducible exact LeO.none _)
      | (with_reducible refine LeO.ite ?_ ?_)
      | (with_reducible refine LeO.bind ?_ (fun _ => ?_))
      | exact ih0 _ _ _ _ _ _ _
      | exact ih1 _ _ _ _ _ _
      | exact ih2 _
      | exact ih3 _ _
      | exact ih4 _ _ _ _ _ _ _
      | exact ih5 _
      | exact ih6 _ _ _ _ _
      | exact ih7 _ _ _ _
      | exact impl_PartOf.mono _ _ _
      | exact impl_RoundedDiv.mono _ _ _
      | exact spec_PartOf.mono _ _ _
      | exact LeO.none _
      | refine LeO.ite ?_ ?_
      | refine LeO.bind ?_ (fun _ => ?_)
    · intro y0
      unfold laws_FnAngles.j4
      repeat' first
      | (with_reducible exact ih0 _ _ _ _ _ _ _)
      | (with_reducible exact ih1 _ _ _ _ _ _)
      | (with_reducible exact ih2 _)
      | (with_reducible exact ih3 _ _)
      | (with_reducible exact ih4 _ _ _ _ _ _ _)
      | (with_reducible exact ih5 _)
      | (with_reducible exact ih6 _ _ _ _ _)
      | (with_reducible exact ih7 _ _ _ _)
      | (with_reducible exact impl_PartOf.mono _ _ _)
      | (with_reducible exact impl_RoundedDiv.mono _ _ _)
      | (with_reducible exact spec_PartOf.mono _ _ _)
      | (with_reducible exact LeO.refl _)
      | (with_reducible exact LeO.none _)
      | (with_reducible refine LeO.ite ?_ ?_)
      | (with_reducible refine LeO.bind ?_ (fun _ => ?_))
      | exact ih0 _ _ _ _ _ _ _
      | exact ih1 _ _ _ _ _ _
      | exact ih2 _
      | exact ih3 _ _
      | exact ih4 _ _ _ _ _ _ _
      | exact ih5 _
      | exact ih6 _ _ _ _ _
      | exact ih7 _ _ _ _
      | exact impl_PartOf.mono _ _ _
      | exact impl_RoundedDiv.mono _ _ _
      | exact spec_PartOf.mono _ _ _
      | exact LeO.none _
      | refine LeO.ite ?_ ?_
      | refine LeO.bind ?_ (fun _ => ?_)
    · intro y0 y1
      unfold laws_FnAngles.j5
      repeat' first
      | (with_reducible exact ih0 _ _ _ _ _ _ _)
      | (with_reducible exact ih1 _ _ _ _ _ _)
      | (with_reducible exact ih2 _)
      | (with_reducible exact ih3 _ _)
      | (with_reducible exact ih4 _ _ _ _ _ _ _)
      | (with_reducible exact ih5 _)
      | (with_reducible exact ih6 _ _ _ _ _)
      | (with_reducible exact ih7 _ _ _ _)
      | (with_reducible exact impl_PartOf.mono _ _ _)
      | (with_reducible exact impl_RoundedDiv.mono _ _ _)
      | (with_reducible exact spec_PartOf.mono _ _ _)
      | (with_reducible exact LeO.refl _)
      | (with_reducible exact LeO.none _)
      | (with_reducible refine LeO.ite ?_ ?_)
      | (with_reducible refine LeO.bind ?_ (fun _ => ?_))
      | exact ih0 _ _ _ _ _ _ _
      | exact ih1 _ _ _ _ _ _
      | exact ih2 _
      | exact ih3 _ _
      | exact ih4 _ _ _ _ _ _ _
      | exact ih5 _
      | exact ih6 _ _ _ _ _
      | exact ih7 _ _ _ _
      | exact impl_PartOf.mono _ _ _
      | exact impl_RoundedDiv.mono _ _ _
      | exact spec_PartOf.mono _ _ _
      | exact LeO.none _
      | refine LeO.ite ?_ ?_
      | refine LeO.bind ?_ (fun _ => ?_)
    · intro y0 y1 y2 y3 y4 y5 y6
      unfold laws_FnAngles.j6
      repeat' first
      | (with_reducible exact ih0 _ _ _ _ _ _ _)
      | (with_reducible exact ih1 _ _ _ _ _ _)
      | (with_reducible exact ih2 _)
      | (with_reducible exact ih3 _ _)
      | (with_reducible exact ih4 _ _ _ _ _ _ _)
      | (with_reducible exact ih5 _)
      | (with_reducible exact ih6 _ _ _ _ _)
      | (with_reducible exact ih7 _ _ _ _)
      | (with_reducible exact impl_PartOf.mono _ _ _)
      | (with_reducible exact impl_RoundedDiv.mono _ _ _)
      | (with_reducible exact spec_PartOf.mono _ _ _)
      | (with_reducible exact LeO.refl _)
      | (with_reducible exact LeO.none _)
      | (with_reducible refine LeO.ite ?_ ?_)
      | (with_reducible refine LeO.bind ?_ (fun _ => ?_))
      | exact ih0 _ _ _ _ _ _ _
      | exact ih1 _ _ _ _ _ _
      | exact ih2 _
      | exact ih3 _ _
      | exact ih4 _ _ _ _ _ _ _
      | exact ih5 _
      | exact ih6 _ _ _ _ _
      | exact ih7 _ _ _ _
      | exact impl_PartOf.mono _ _ _
      | exact impl_RoundedDiv.mono _ _ _
      | exact spec_PartOf.mono _ _ _
      | exact LeO.none _
      | refine LeO.ite ?_ ?_
      | refine LeO.bind ?_ (fun _ => ?_)
    · intro y0
      unfold laws_FnAngles.j7
      repeat' first
      | (with_reducible exact ih0 _ _ _ _ _ _ _)
      | (with_reducible exact ih1 _ _ _ _ _ _)
      | (with_reducible exact ih2 _)
      | (with_reducible exact ih3 _ _)
      | (with_reducible exact ih4 _ _ _ _ _ _ _)
      | (with_reducible exact ih5 _)
      | (with_reducible exact ih6 _ _ _ _ _)
      | (with_reducible exact ih7 _ _ _ _)
      | (with_reducible exact impl_PartOf.mono _ _ _)
      | (with_reducible exact impl_RoundedDiv.mono _ _ _)
      | (with_reducible exact spec_PartOf.mono _ _ _)
      | (with_reducible exact LeO.refl _)
      | (with_reducible exact LeO.none _)
      | (with_reducible refine LeO.ite ?_ ?_)
      | (with_reducible refine LeO.bind ?_ (fun _ => ?_))
      | exact ih0 _ _ _ _ _ _ _
      | exact ih1 _ _ _ _ _ _
      | exact ih2 _
      | exact ih3 _ _
      | exact ih4 _ _ _ _ _ _ _
      | exact ih5 _
      | exact ih6 _ _ _ _ _
      | exact ih7 _ _ _ _
      | exact impl_PartOf.mono _ _ _
      | exact impl_RoundedDiv.mono _ _ _
      | exact spec_PartOf.mono _ _ _
      | exact LeO.none _
      | refine LeO.ite ?_ ?_
      | refine LeO.bind ?_ (fun _ => ?_)
    · intro y0 y1 y2 y3 y4
      unfold laws_FnAngles.j2
      repeat' first
      | (with_reducible exact ih0 _ _ _ _ _ _ _)
      | (with_reducible exact ih1 _ _ _ _ _ _)
      | (with_reducible exact ih2 _)
      | (with_reducible exact ih3 _ _)
      | (with_reducible exact ih4 _ _ _ _ _ _ _)
      | (with_reducible exact ih5 _)
      | (with_reducible exact ih6 _ _ _ _ _)
      | (with_reducible exact ih7 _ _ _ _)
      | (with_reducible exact impl_PartOf.mono _ _ _)
      | (with_reducible exact impl_RoundedDiv.mono _ _ _)
      | (with_reducible exact spec_PartOf.mono _ _ _)
      | (with_reducible exact LeO.refl _)
      | (with_reducible exact LeO.none _)
      | (with_reducible refine LeO.ite ?_ ?_)
      | (with_reducible refine LeO.bind ?_ (fun _ => ?_))
      | exact ih0 _ _ _ _ _ _ _
      | exact ih1 _ _ _ _ _ _
      | exact ih2 _
      | exact ih3 _ _
      | exact ih4 _ _ _ _ _ _ _
      | exact ih5 _
      | exact ih6 _ _ _ _ _
      | exact ih7 _ _ _ _
      | exact impl_PartOf.mono _ _ _
      | exact impl_RoundedDiv.mono _ _ _
      | exact spec_PartOf.mono _ _ _
      | exact LeO.none _
      | refine LeO.ite ?_ ?_
      | refine LeO.bind ?_ (fun _ => ?_)
    · intro y0 y1 y2 y3
      unfold laws_FnAngles.j3
      repeat' first
      | (with_reducible exact ih0 _ _ _ _ _ _ _)
      | (with_reducible exact ih1 _ _ _ _ _ _)
      | (with_reducible exact ih2 _)
      | (with_reducible exact ih3 _ _)
      | (with_reducible exact ih4 _ _ _ _ _ _ _)
      | (with_reducible exact ih5 _)
      | (with_reducible exact ih6 _ _ _ _ _)
      | (with_reducible exact ih7 _ _ _ _)
      | (with_reducible exact impl_PartOf.mono _ _ _)
      | (with_reducible exact impl_RoundedDiv.mono _ _ _)
      | (with_reducible exact spec_PartOf.mono _ _ _)
      | (with_reducible exact LeO.refl _)
      | (with_reducible exact LeO.none _)
      | (with_reducible refine LeO.ite ?_ ?_)
      | (with_reducible refine LeO.bind ?_ (fun _ => ?_))
      | exact ih0 _ _ _ _ _ _ _
      | exact ih1 _ _ _ _ _ _
      | exact ih2 _
      | exact ih3 _ _
      | exact ih4 _ _ _ _ _ _ _
      | exact ih5 _
      | exact ih6 _ _ _ _ _
      | exact ih7 _ _ _ _
      | exact impl_PartOf.mono _ _ _
      | exact impl_RoundedDiv.mono _ _ _
      | exact spec_PartOf.mono _ _ _
      | exact LeO.none _
      | refine LeO.ite ?_ ?_
      | refine LeO.bind ?_ (fun _ => ?_)
theorem laws_FnAngles.mono : ∀ a0 k, LeO (laws_FnAngles.f k a0) (laws_FnAngles.f (k + 1) a0) := by
  intro a0 k
  obtain ⟨ih0, ih1, ih2, ih3, ih4, ih5, ih6, ih7⟩ := laws_FnAngles.mono_l k
  unfold laws_FnAngles.f
  repeat' first
      | (with_reducible exact ih0 _ _ _ _ _ _ _)
      | (with_reducible exact ih1 _ _ _ _ _ _)
      | (with_reducible exact ih2 _)
      | (with_reducible exact ih3 _ _)
      | (with_reducible exact ih4 _ _ _ _ _ _ _)
      | (with_reducible exact ih5 _)
      | (with_reducible exact ih6 _ _ _ _ _)
      | (with_reducible exact ih7 _ _ _ _)
      | (with_reducible exact impl_PartOf.mono _ _ _)
      | (with_reducible exact impl_RoundedDiv.mono _ _ _)
      | (with_reducible exact spec_PartOf.mono _ _ _)
      | (with_reducible exact LeO.refl _)
      | (with_reducible exact LeO.none _)
      | (with_reducible refine LeO.ite ?_ ?_)
      | (with_reducible refine LeO.bind ?_ (fun _ => ?_))
      | exact ih0 _ _ _ _ _ _ _
      | exact ih1 _ _ _ _ _ _
      | exact ih2 _
      | exact ih3 _ _
      | exact ih4 _ _ _ _ _ _ _
      | exact ih5 _
      | exact ih6 _ _ _ _ _
      | exact ih7 _ _ _ _
      | exact impl_PartOf.mono _ _ _
      | exact impl_RoundedDiv.mono _ _ _
      | exact spec_PartOf.mono _ _ _
      | exact LeO.none _
      | refine LeO.ite ?_ ?_
      | refine LeO.bind ?_ (fun _ => ?_)
set_option maxHeartbeats 8000000 in
set_option maxRecDepth 100000 in
theorem laws_FnAngles.calls (k : Nat) (A0 : Option Addr) (c0 : Nat) (l0 : List Int) (r : Bool) (w : World) (hT : Tab w) (hr0 : Kd.C (Kd.int .u8) w A0 l0.length l0) (hc0 : l0.length ≤ c0) (h : laws_FnAngles.f k l0 = some r) :
    Calls Tryd.prog 8 #[.slice A0 l0.length c0] w fun e w' => e = .returned (.bool r) ∧ Below w.heap.size w w' := by
  have HT := Aside0.mk hT
  clear hT
  have HR0 := Aside0.mk hr0
  have HC0 := Aside0.mk hc0
  clear hr0 hc0
  have HB := Aside0.mk (Below.refl w.heap.size w)
  have H : ((laws_vBig.f l0).bind fun t253 => (if t253 = true then (some true) else ((spec_DrawSineOf.f l0).bind fun t254 => ((impl_SineOf.f t254).bind fun bt255 => ((impl_CosineOf.f t254).bind fun bt257 => ((spec_SineOf.f t254).bind fun bt259 => (if bt255.1 = bt259.1 then (laws_FnAngles.j0 k l0 t254 bt255.1 bt255.2 bt257.1 bt257.2 (bt255.2 != bt259.2)) else (laws_FnAngles.j0 k l0 t254 bt255.1 bt255.2 bt257.1 bt257.2 true)))))))) = some r := h
  clear h
  replace H := Option.bind_eq_some_iff.mp H
  obtain ⟨t253, A20, H⟩ := H
  replace H : (if t253 = true then (some true) else ((spec_DrawSineOf.f l0).bind fun t254 => ((impl_SineOf.f t254).bind fun bt255 => ((impl_CosineOf.f t254).bind fun bt257 => ((spec_SineOf.f t254).bind fun bt259 => (if bt255.1 = bt259.1 then (laws_FnAngles.j0 k l0 t254 bt255.1 bt255.2 bt257.1 bt257.2 (bt255.2 != bt259.2)) else (laws_FnAngles.j0 k l0 t254 bt255.1 bt255.2 bt257.1 bt257.2 true))))))) = some r := H
  have A2 := Aside0.mk A20
  clear A20
  by_cases c3 : t253 = true
  · subst c3
    have H1 : (some true) = some r := by rw [if_pos rfl] at H; exact H
    clear H
    have H := H1
    clear H1
    obtain rfl := Option.some.inj H
    go_enter Tryd.func8, Tryd.ntmps8
    go_wp2_with (first | ((with_reducible refine gate_callee (f := 20) rfl ?_); refine goesL_ (some 44) rfl rfl Tryd.func20 (by kernel_rfl) rfl #[.slice A0 l0.length c0] rfl (by (try simp only [List.map_toArray, List.map_cons, List.map_nil]); first | done | rfl | (simp only [List.length_drop, List.length_take]; rfl)) ?_; (with_reducible refine (laws_vBig.calls _ _ l0 true _ ?side1 ?side2 A2.out).mono ?_); (case side1 => repeat (first | exact HR0.out | (with_reducible refine Kd.C_alloc ?_ _) | (with_reducible refine Kd.C_drewN ?_ _) | (with_reducible refine Kd.C_drew ?_))); (case side2 => exact HC0.out); rintro e w' ⟨rfl, ⟨nd, rfl⟩⟩; refine ⟨_, rfl, ?_⟩))
    go_ret
    exact ⟨by first | rfl | (simp [errW_none, errW_some] <;> rfl) | (simp [*, errW_none, errW_some] <;> rfl), by repeat (first | (with_reducible first | exact HB.out | apply below_alloc | apply pw_below_drewN | apply below_drew1) | exact HB.out)⟩
  · replace c3 := Bool.eq_false_iff.mpr c3
    subst c3
    have H1 : ((spec_DrawSineOf.f l0).bind fun t254 => ((impl_SineOf.f t254).bind fun bt255 => ((impl_CosineOf.f t254).bind fun bt257 => ((spec_SineOf.f t254).bind fun bt259 => (if bt255.1 = bt259.1 then (laws_FnAngles.j0 k l0 t254 bt255.1 bt255.2 bt257.1 bt257.2 (bt255.2 != bt259.2)) else (laws_FnAngles.j0 k l0 t254 bt255.1 bt255.2 bt257.1 bt257.2 true)))))) = some r := by rw [if_neg (show ¬ (false = true) by decide)] at H; exact H
    clear H
    have H := H1
    clear H1
    replace H := Option.bind_eq_some_iff.mp H
    obtain ⟨t254, A40, H⟩ := H
    replace H : ((impl_SineOf.f t254).bind fun bt255 => ((impl_CosineOf.f t254).bind fun bt257 => ((spec_SineOf.f t254).bind fun bt259 => (if bt255.1 = bt259.1 then (laws_FnAngles.j0 k l0 t254 bt255.1 bt255.2 bt257.1 bt257.2 (bt255.2 != bt259.2)) else (laws_FnAngles.j0 k l0 t254 bt255.1 bt255.2 bt257.1 bt257.2 true))))) = some r := H
    have A4 := Aside0.mk A40
    clear A40
    replace H := Option.bind_eq_some_iff.mp H
    obtain ⟨⟨t255, t256⟩, A50, H⟩ := H
    replace H : ((impl_CosineOf.f t254).bind fun bt257 => ((spec_SineOf.f t254).bind fun bt259 => (if t255 = bt259.1 then (laws_FnAngles.j0 k l0 t254 t255 t256 bt257.1 bt257.2 (t256 != bt259.2)) else (laws_FnAngles.j0 k l0 t254 t255 t256 bt257.1 bt257.2 true)))) = some r := H
    have A5 := Aside0.mk A50
    clear A50
    replace H := Option.bind_eq_some_iff.mp H
    obtain ⟨⟨t257, t258⟩, A60, H⟩ := H
    replace H : ((spec_SineOf.f t254).bind fun bt259 => (if t255 = bt259.1 then (laws_FnAngles.j0 k l0 t254 t255 t256 t257 t258 (t256 != bt259.2)) else (laws_FnAngles.j0 k l0 t254 t255 t256 t257 t258 true))) = some r := H
    have A6 := Aside0.mk A60
    clear A60
    replace H := Option.bind_eq_some_iff.mp H
    obtain ⟨⟨t259, t260⟩, A70, H⟩ := H
    replace H : (if t255 = t259 then (laws_FnAngles.j0 k l0 t254 t255 t256 t257 t258 (t256 != t260)) else (laws_FnAngles.j0 k l0 t254 t255 t256 t257 t258 true)) = some r := H
    have A7 := Aside0.mk A70
    clear A70
    have HC8 := Aside0.mk H
    clear H
    go_enter Tryd.func8, Tryd.ntmps8
    go_upto_region 7 with (first | ((with_reducible refine gate_callee (f := 20) rfl ?_); refine goesL_ (some 44) rfl rfl Tryd.func20 (by kernel_rfl) rfl #[.slice A0 l0.length c0] rfl (by (try simp only [List.map_toArray, List.map_cons, List.map_nil]); first | done | rfl | (simp only [List.length_drop, List.length_take]; rfl)) ?_; (with_reducible refine (laws_vBig.calls _ _ l0 false _ ?side1 ?side2 A2.out).mono ?_); (case side1 => repeat (first | exact HR0.out | (with_reducible refine Kd.C_alloc ?_ _) | (with_reducible refine Kd.C_drewN ?_ _) | (with_reducible refine Kd.C_drew ?_))); (case side2 => exact HC0.out); rintro e w' ⟨rfl, ⟨nd, rfl⟩⟩; refine ⟨_, rfl, ?_⟩) | ((with_reducible refine gate_callee (f := 21) rfl ?_); refine goesL_ (some 46) rfl rfl Tryd.func21 (by kernel_rfl) rfl #[.slice A0 l0.length c0] rfl (by (try simp only [List.map_toArray, List.map_cons, List.map_nil]); first | done | rfl | (simp only [List.length_drop, List.length_take]; rfl)) ?_; (with_reducible refine (spec_DrawSineOf.calls _ _ l0 t254 _ ?side1 ?side2 A4.out).mono ?_); (case side1 => repeat (first | exact HR0.out | (with_reducible refine Kd.C_alloc ?_ _) | (with_reducible refine Kd.C_drewN ?_ _) | (with_reducible refine Kd.C_drew ?_))); (case side2 => exact HC0.out); rintro e w9 ⟨rfl, hb⟩; refine ⟨_, rfl, ?_⟩; have n0_ := Aside0.mk (below_step (by repeat (first | (with_reducible first | exact HB.out | apply below_alloc | apply pw_below_drewN | apply below_drew1) | exact HB.out)) hb); clear HB; have HB := n0_; clear n0_; (try clear hb); (try clear hb2); (try clear hk); (try clear hi)) | ((with_reducible refine gate_callee (f := 11) rfl ?_); refine goesL_ (some 49) rfl rfl Tryd.func11 (by kernel_rfl) rfl #[.int .i64 t254] rfl (by (try simp only [List.map_toArray, List.map_cons, List.map_nil]); first | done | rfl | (simp only [List.length_drop, List.length_take]; rfl)) ?_; (with_reducible refine (impl_SineOf.calls t254 t255 t256 _ ?sideT A5.out).mono ?_); (case sideT => first | exact HT.out | (refine Tab.drawn HT.out ?_; (repeat (first | exact Drawn0.refl _ | apply Drawn0.step)); done) | (refine Tab.below HT.out ?_; repeat (first | (with_reducible first | exact HB.out | apply below_alloc | apply pw_below_drewN | apply below_drew1) | exact HB.out))); rintro e w' ⟨rfl, ⟨nd, rfl⟩⟩; refine ⟨_, rfl, ?_⟩) | ((with_reducible refine gate_callee (f := 13) rfl ?_); refine goesL_ (some 54) rfl rfl Tryd.func13 (by kernel_rfl) rfl #[.int .i64 t254] rfl (by (try simp only [List.map_toArray, List.map_cons, List.map_nil]); first | done | rfl | (simp only [List.length_drop, List.length_take]; rfl)) ?_; (with_reducible refine (impl_CosineOf.calls t254 t257 t258 _ ?sideT A6.out).mono ?_); (case sideT => first | exact HT.out | (refine Tab.drawn HT.out ?_; (repeat (first | exact Drawn0.refl _ | apply Drawn0.step)); done) | (refine Tab.below HT.out ?_; repeat (first | (with_reducible first | exact HB.out | apply below_alloc | apply pw_below_drewN | apply below_drew1) | exact HB.out))); rintro e w' ⟨rfl, ⟨nd, rfl⟩⟩; refine ⟨_, rfl, ?_⟩) | ((with_reducible refine gate_callee (f := 10) rfl ?_); refine goesL_ (some 59) rfl rfl Tryd.func10 (by kernel_rfl) rfl #[.int .i64 t254] rfl (by (try simp only [List.map_toArray, List.map_cons, List.map_nil]); first | done | rfl | (simp only [List.length_drop, List.length_take]; rfl)) ?_; (with_reducible refine (spec_SineOf.calls t254 t259 t260 _ A7.out).mono ?_); rintro e w10 ⟨rfl, hb⟩; refine ⟨_, rfl, ?_⟩; have n0_ := Aside0.mk (below_step (by repeat (first | (with_reducible first | exact HB.out | apply below_alloc | apply pw_below_drewN | apply below_drew1) | exact HB.out)) hb); clear HB; have HB := n0_; clear n0_; (try clear hb); (try clear hb2); (try clear hk); (try clear hi)))
    (try simp only [Act.put, List.setIfInBounds_toArray, List.set_cons_zero, List.set_cons_succ])
    go_cut [69] (fun v69 wc => ∃ (kq : Nat) (x69_7 : Bool), v69 = .bool x69_7 ∧ Aside0 (laws_FnAngles.j0 kq l0 t254 t255 t256 t257 t258 x69_7 = some r) ∧ Aside0 (kq ≤ k) ∧ Aside0 (Below w.heap.size w wc))
    case first => as_aux_lemma =>
      have H := HC8.out
      clear HC8
      by_cases c11 : t255 = t259
      · rw [if_pos c11] at H
        have c11b0 : (t255 == t259) = true := beq_iff_eq.mpr c11
        have c11b1 : (t255 != t259) = false := bne_eq_false_iff_eq.mpr c11
        clear c11
        (first | rw [c11b0] | (simp only [i64_w, i32_w]; rw [c11b0]) | skip)
        have H' := Aside0.mk H
        clear H
        go_wp2
        go_meet
        case rel => exact ⟨_, ((t256 != t260)), (by first | rfl | (simp; done) | (simp [*]; done)), H', ⟨by first | omega | exact Nat.le_refl _⟩, ⟨by repeat (first | (with_reducible first | exact HB.out | apply below_alloc | apply pw_below_drewN | apply below_drew1) | exact HB.out)⟩⟩
      · rw [if_neg c11] at H
        have c11b0 : (t255 == t259) = false := beq_eq_false_iff_ne.mpr c11
        have c11b1 : (t255 != t259) = true := bne_iff_ne.mpr c11
        (first | rw [c11b0] | (simp only [i64_w, i32_w]; rw [c11b0]) | skip)
        have H' := Aside0.mk H
        clear H
        go_wp2
        go_meet
        case rel => exact ⟨_, (true), (by first | rfl | (simp; done) | (simp [*]; done)), H', ⟨by first | omega | exact Nat.le_refl _⟩, ⟨by repeat (first | (with_reducible first | exact HB.out | apply below_alloc | apply pw_below_drewN | apply below_drew1) | exact HB.out)⟩⟩
    case rest => as_aux_lemma =>
      clear HC8
      try clear c1
      try clear c2
      try clear p2
      try clear c3
      try clear c8
      try clear c10
      try clear c11
      try clear c11b0
      try clear c11b1
      obtain ⟨kq, x69_7, rfl, HA, HJ7, HB⟩ := hcut
      cases kq with
      | zero => exact absurd HA.out (by simp [laws_FnAngles.j0])
      | succ kj7 =>
        have H := HA.out
        clear HA
        simp only [laws_FnAngles.j0] at H
        by_cases c12 : x69_7 = true
        · subst c12
          have H1 : (some false) = some r := by rw [if_pos rfl] at H; exact H
          clear H
          have H := H1
          clear H1
          obtain rfl := Option.some.inj H
          go_wp2
          go_ret
          exact ⟨by first | rfl | (simp [errW_none, errW_some] <;> rfl) | (simp [*, errW_none, errW_some] <;> rfl), by repeat (first | (with_reducible first | exact HB.out | apply below_alloc | apply pw_below_drewN | apply below_drew1) | exact HB.out)⟩
        · replace c12 := Bool.eq_false_iff.mpr c12
          subst c12
          have H1 : ((spec_CosineOf.f t254).bind fun bt261 => (if t257 = bt261.1 then (if (t258 != bt261.2) = true then (laws_FnAngles.j1 kj7 l0 t254 t255 t256 t257 true) else (laws_FnAngles.j1 kj7 l0 t254 t255 t256 t257 (t258 != t256))) else (laws_FnAngles.j1 kj7 l0 t254 t255 t256 t257 true))) = some r := by rw [if_neg (show ¬ (false = true) by decide)] at H; exact H
          clear H
          have H := H1
          clear H1
          replace H := Option.bind_eq_some_iff.mp H
          obtain ⟨⟨t261, t262⟩, A130, H⟩ := H
          replace H : (if t257 = t261 then (if (t258 != t262) = true then (laws_FnAngles.j1 kj7 l0 t254 t255 t256 t257 true) else (laws_FnAngles.j1 kj7 l0 t254 t255 t256 t257 (t258 != t256))) else (laws_FnAngles.j1 kj7 l0 t254 t255 t256 t257 true)) = some r := H
          have A13 := Aside0.mk A130
          clear A130
          have HC14 := Aside0.mk H
          clear H
          go_upto_region 10 with (first | ((with_reducible refine gate_callee (f := 12) rfl ?_); refine goesL_ (some 72) rfl rfl Tryd.func12 (by kernel_rfl) rfl #[.int .i64 t254] rfl (by (try simp only [List.map_toArray, List.map_cons, List.map_nil]); first | done | rfl | (simp only [List.length_drop, List.length_take]; rfl)) ?_; (with_reducible refine (spec_CosineOf.calls t254 t261 t262 _ A13.out).mono ?_); rintro e w15 ⟨rfl, hb⟩; refine ⟨_, rfl, ?_⟩; have n0_ := Aside0.mk (below_step (by repeat (first | (with_reducible first | exact HB.out | apply below_alloc | apply pw_below_drewN | apply below_drew1) | exact HB.out)) hb); clear HB; have HB := n0_; clear n0_; (try clear hb); (try clear hb2); (try clear hk); (try clear hi)))
          (try simp only [Act.put, List.setIfInBounds_toArray, List.set_cons_zero, List.set_cons_succ])
          go_cut [87] (fun v87 wc => ∃ (kq : Nat) (x87_13 : Bool), v87 = .bool x87_13 ∧ Aside0 (laws_FnAngles.j1 kq l0 t254 t255 t256 t257 x87_13 = some r) ∧ Aside0 (kq ≤ kj7) ∧ Aside0 (Below w.heap.size w wc))
          case first => as_aux_lemma =>
            have H := HC14.out
            clear HC14
            by_cases c16 : t257 = t261
            · rw [if_pos c16] at H
              have c16b0 : (t257 == t261) = true := beq_iff_eq.mpr c16
              have c16b1 : (t257 != t261) = false := bne_eq_false_iff_eq.mpr c16
              clear c16
              (first | rw [c16b0] | (simp only [i64_w, i32_w]; rw [c16b0]) | skip)
              by_cases c17 : (t258 != t262) = true
              · rw [if_pos c17] at H
                have c17b0 : (t258 != t262) = true := c17
                (try (have c17b1 : decide (t258 = t262) = false := by simpa using c17))
                (try (have c17b2 : (t258 == t262) = false := by simpa using c17))
                (try (have c17b3 : ¬ (t258 = t262) := by simpa using c17))
                clear c17
                have H' := Aside0.mk H
                clear H
                go_wp2
                go_meet
                case rel => exact ⟨_, (true), (by first | rfl | (simp; done) | (simp [*]; done)), H', ⟨by have := HJ7.out; first | omega | exact Nat.le_refl _⟩, ⟨by repeat (first | (with_reducible first | exact HB.out | apply below_alloc | apply pw_below_drewN | apply below_drew1) | exact HB.out)⟩⟩
              · rw [if_neg c17] at H
                have c17b0 : (t258 != t262) = false := by simpa using c17
                (try (have c17b1 : decide (t258 = t262) = true := by simpa using c17))
                (try (have c17b2 : (t258 == t262) = true := by simpa using c17))
                clear c17
                have H' := Aside0.mk H
                clear H
                go_wp2
                go_meet
                case rel => exact ⟨_, ((t258 != t256)), (by first | rfl | (simp; done) | (simp [*]; done)), H', ⟨by have := HJ7.out; first | omega | exact Nat.le_refl _⟩, ⟨by repeat (first | (with_reducible first | exact HB.out | apply below_alloc | apply pw_below_drewN | apply below_drew1) | exact HB.out)⟩⟩
            · rw [if_neg c16] at H
              have c16b0 : (t257 == t261) = false := beq_eq_false_iff_ne.mpr c16
              have c16b1 : (t257 != t261) = true := bne_iff_ne.mpr c16
              (first | rw [c16b0] | (simp only [i64_w, i32_w]; rw [c16b0]) | skip)
              have H' := Aside0.mk H
              clear H
              go_wp2
              go_meet
              case rel => exact ⟨_, (true), (by first | rfl | (simp; done) | (simp [*]; done)), H', ⟨by have := HJ7.out; first | omega | exact Nat.le_refl _⟩, ⟨by repeat (first | (with_reducible first | exact HB.out | apply below_alloc | apply pw_below_drewN | apply below_drew1) | exact HB.out)⟩⟩
          case rest => as_aux_lemma =>
            clear HC14
            try clear c1
            try clear c2
            try clear p2
            try clear c3
            try clear c8
            try clear c10
            try clear c11
            try clear c11b0
            try clear c11b1
            try clear c12
            try clear c13
            try clear c16
            try clear c16b0
            try clear c16b1
            try clear c17
            try clear c17b0
            try clear c17b1
            try clear c17b2
            try clear p2
            obtain ⟨kq, x87_13, rfl, HA, HJ13, HB⟩ := hcut
            cases kq with
            | zero => exact absurd HA.out (by simp [laws_FnAngles.j1])
            | succ kj13 =>
              have H := HA.out
              clear HA
              simp only [laws_FnAngles.j1] at H
              by_cases c18 : x87_13 = true
              · subst c18
                have H1 : (some false) = some r := by rw [if_pos rfl] at H; exact H
                clear H
                have H := H1
                clear H1
                obtain rfl := Option.some.inj H
                go_wp2
                go_ret
                exact ⟨by first | rfl | (simp [errW_none, errW_some] <;> rfl) | (simp [*, errW_none, errW_some] <;> rfl), by repeat (first | (with_reducible first | exact HB.out | apply below_alloc | apply pw_below_drewN | apply below_drew1) | exact HB.out)⟩
              · replace c18 := Bool.eq_false_iff.mpr c18
                subst c18
                have H1 : (if t256 = true then ((impl_SineOf.f (wrap64 (-t254))).bind fun bt263 => (if bt263.2 = true then (if bt263.1 = (wrap64 (-t255)) then (if (wrap64 ((wrap64 (t255 * t255)) + (wrap64 (t257 * t257)))) < 998000 then (laws_FnAngles.j2 kj13 l0 t254 t255 t257 true) else (laws_FnAngles.j2 kj13 l0 t254 t255 t257 (decide ((wrap64 ((wrap64 (t255 * t255)) + (wrap64 (t257 * t257)))) > 1002000)))) else (laws_FnAngles.j2 kj13 l0 t254 t255 t257 true)) else (laws_FnAngles.j2 kj13 l0 t254 t255 t257 true))) else (laws_FnAngles.j4 kj13 l0)) = some r := by rw [if_neg (show ¬ (false = true) by decide)] at H; exact H
                clear H
                have H := H1
                clear H1
                have HC19 := Aside0.mk H
                clear H
                go_upto_if 88 with (fail)
                go_cut [] (fun wc => ∃ (kq : Nat), Aside0 (laws_FnAngles.j4 kq l0 = some r) ∧ Aside0 (kq ≤ kj13) ∧ Aside0 (Below w.heap.size w wc))
                case first => as_aux_lemma =>
                  have H := HC19.out
                  clear HC19
                  by_cases c20 : t256 = true
                  · subst c20
                    have H1 : ((impl_SineOf.f (wrap64 (-t254))).bind fun bt263 => (if bt263.2 = true then (if bt263.1 = (wrap64 (-t255)) then (if (wrap64 ((wrap64 (t255 * t255)) + (wrap64 (t257 * t257)))) < 998000 then (laws_FnAngles.j2 kj13 l0 t254 t255 t257 true) else (laws_FnAngles.j2 kj13 l0 t254 t255 t257 (decide ((wrap64 ((wrap64 (t255 * t255)) + (wrap64 (t257 * t257)))) > 1002000)))) else (laws_FnAngles.j2 kj13 l0 t254 t255 t257 true)) else (laws_FnAngles.j2 kj13 l0 t254 t255 t257 true))) = some r := by rw [if_pos rfl] at H; exact H
                    clear H
                    have H := H1
                    clear H1
                    replace H := Option.bind_eq_some_iff.mp H
                    obtain ⟨⟨t263, t264⟩, A210, H⟩ := H
                    replace H : (if t264 = true then (if t263 = (wrap64 (-t255)) then (if (wrap64 ((wrap64 (t255 * t255)) + (wrap64 (t257 * t257)))) < 998000 then (laws_FnAngles.j2 kj13 l0 t254 t255 t257 true) else (laws_FnAngles.j2 kj13 l0 t254 t255 t257 (decide ((wrap64 ((wrap64 (t255 * t255)) + (wrap64 (t257 * t257)))) > 1002000)))) else (laws_FnAngles.j2 kj13 l0 t254 t255 t257 true)) else (laws_FnAngles.j2 kj13 l0 t254 t255 t257 true)) = some r := H
                    have A21 := Aside0.mk A210
                    clear A210
                    have HC22 := Aside0.mk H
                    clear H
                    go_upto_region 14 with (first | ((with_reducible refine gate_callee (f := 11) rfl ?_); refine goesL_ (some 92) rfl rfl Tryd.func11 (by kernel_rfl) rfl #[.int .i64 (wrap64 (-t254))] rfl (by (try simp only [List.map_toArray, List.map_cons, List.map_nil]); first | done | rfl | (simp only [List.length_drop, List.length_take]; rfl)) ?_; (with_reducible refine (impl_SineOf.calls (wrap64 (-t254)) t263 t264 _ ?sideT A21.out).mono ?_); (case sideT => first | exact HT.out | (refine Tab.drawn HT.out ?_; (repeat (first | exact Drawn0.refl _ | apply Drawn0.step)); done) | (refine Tab.below HT.out ?_; repeat (first | (with_reducible first | exact HB.out | apply below_alloc | apply pw_below_drewN | apply below_drew1) | exact HB.out))); rintro e w' ⟨rfl, ⟨nd, rfl⟩⟩; refine ⟨_, rfl, ?_⟩))
                    (try simp only [Act.put, List.setIfInBounds_toArray, List.set_cons_zero, List.set_cons_succ])
                    go_cut [122] (fun v122 wc => ∃ (kq : Nat) (x122_21 : Bool), v122 = .bool x122_21 ∧ Aside0 (laws_FnAngles.j2 kq l0 t254 t255 t257 x122_21 = some r) ∧ Aside0 (kq ≤ kj13) ∧ Aside0 (Below w.heap.size w wc))
                    case first => as_aux_lemma =>
                      have H := HC22.out
                      clear HC22
                      by_cases c23 : t264 = true
                      · subst c23
                        have H1 : (if t263 = (wrap64 (-t255)) then (if (wrap64 ((wrap64 (t255 * t255)) + (wrap64 (t257 * t257)))) < 998000 then (laws_FnAngles.j2 kj13 l0 t254 t255 t257 true) else (laws_FnAngles.j2 kj13 l0 t254 t255 t257 (decide ((wrap64 ((wrap64 (t255 * t255)) + (wrap64 (t257 * t257)))) > 1002000)))) else (laws_FnAngles.j2 kj13 l0 t254 t255 t257 true)) = some r := by rw [if_pos rfl] at H; exact H
                        clear H
                        have H := H1
                        clear H1
                        by_cases c24 : t263 = (wrap64 (-t255))
                        · rw [if_pos c24] at H
                          have c24b0 : (t263 == (wrap64 (-t255))) = true := beq_iff_eq.mpr c24
                          have c24b1 : (t263 != (wrap64 (-t255))) = false := bne_eq_false_iff_eq.mpr c24
                          clear c24
                          (first | rw [c24b0] | (simp only [i64_w, i32_w]; rw [c24b0]) | skip)
                          by_cases c25 : (wrap64 ((wrap64 (t255 * t255)) + (wrap64 (t257 * t257)))) < 998000
                          · rw [if_pos c25] at H
                            have c25b0 : decide ((wrap64 ((wrap64 (t255 * t255)) + (wrap64 (t257 * t257)))) < 998000) = true := decide_eq_true c25
                            clear c25
                            have H' := Aside0.mk H
                            clear H
                            go_wp2
                            go_meet
                            case rel => exact ⟨_, (true), (by first | rfl | (simp; done) | (simp [*]; done)), H', ⟨by have := HJ7.out; have := HJ13.out; first | omega | exact Nat.le_refl _⟩, ⟨by repeat (first | (with_reducible first | exact HB.out | apply below_alloc | apply pw_below_drewN | apply below_drew1) | exact HB.out)⟩⟩
                          · rw [if_neg c25] at H
                            have c25b0 : decide ((wrap64 ((wrap64 (t255 * t255)) + (wrap64 (t257 * t257)))) < 998000) = false := decide_eq_false c25
                            clear c25
                            have H' := Aside0.mk H
                            clear H
                            go_wp2
                            go_meet
                            case rel => exact ⟨_, (decide ((wrap64 ((wrap64 (t255 * t255)) + (wrap64 (t257 * t257)))) > 1002000)), (by first | rfl | (simp; done) | (simp [*]; done)), H', ⟨by have := HJ7.out; have := HJ13.out; first | omega | exact Nat.le_refl _⟩, ⟨by repeat (first | (with_reducible first | exact HB.out | apply below_alloc | apply pw_below_drewN | apply below_drew1) | exact HB.out)⟩⟩
                        · rw [if_neg c24] at H
                          have c24b0 : (t263 == (wrap64 (-t255))) = false := beq_eq_false_iff_ne.mpr c24
                          have c24b1 : (t263 != (wrap64 (-t255))) = true := bne_iff_ne.mpr c24
                          (first | rw [c24b0] | (simp only [i64_w, i32_w]; rw [c24b0]) | skip)
                          have H' := Aside0.mk H
                          clear H
                          go_wp2
                          go_meet
                          case rel => exact ⟨_, (true), (by first | rfl | (simp; done) | (simp [*]; done)), H', ⟨by have := HJ7.out; have := HJ13.out; first | omega | exact Nat.le_refl _⟩, ⟨by repeat (first | (with_reducible first | exact HB.out | apply below_alloc | apply pw_below_drewN | apply below_drew1) | exact HB.out)⟩⟩
                      · replace c23 := Bool.eq_false_iff.mpr c23
                        subst c23
                        have H1 : (laws_FnAngles.j2 kj13 l0 t254 t255 t257 true) = some r := by rw [if_neg (show ¬ (false = true) by decide)] at H; exact H
                        clear H
                        have H := H1
                        clear H1
                        have H' := Aside0.mk H
                        clear H
                        go_wp2
                        go_meet
                        case rel => exact ⟨_, (true), (by first | rfl | (simp; done) | (simp [*]; done)), H', ⟨by have := HJ7.out; have := HJ13.out; first | omega | exact Nat.le_refl _⟩, ⟨by repeat (first | (with_reducible first | exact HB.out | apply below_alloc | apply pw_below_drewN | apply below_drew1) | exact HB.out)⟩⟩
                    case rest => as_aux_lemma =>
                      clear HC22
                      try clear c1
                      try clear c2
                      try clear p2
                      try clear c3
                      try clear p6
                      try clear c8
                      try clear c10
                      try clear c11
                      try clear c11b0
                      try clear c11b1
                      try clear c12
                      try clear c13
                      try clear c16
                      try clear c16b0
                      try clear c16b1
                      try clear c17
                      try clear c17b0
                      try clear c17b1
                      try clear c17b2
                      try clear c18
                      try clear c20
                      try clear c21
                      try clear c23
                      try clear c24
                      try clear c24b0
                      try clear c24b1
                      try clear c25
                      try clear c25b0
                      try clear p2
                      obtain ⟨kq, x122_21, rfl, HA, HJ21, HB⟩ := hcut
                      cases kq with
                      | zero => exact absurd HA.out (by simp [laws_FnAngles.j2])
                      | succ kj21 =>
                        have H := HA.out
                        clear HA
                        simp only [laws_FnAngles.j2] at H
                        by_cases c26 : x122_21 = true
                        · subst c26
                          have H1 : (some false) = some r := by rw [if_pos rfl] at H; exact H
                          clear H
                          have H := H1
                          clear H1
                          obtain rfl := Option.some.inj H
                          go_wp2
                          go_ret
                          exact ⟨by first | rfl | (simp [errW_none, errW_some] <;> rfl) | (simp [*, errW_none, errW_some] <;> rfl), by repeat (first | (with_reducible first | exact HB.out | apply below_alloc | apply pw_below_drewN | apply below_drew1) | exact HB.out)⟩
                        · replace c26 := Bool.eq_false_iff.mpr c26
                          subst c26
                          have H1 : ((impl_SineOf.f (wrap64 (t254 + 90))).bind fun bt265 => (if bt265.2 = true then (laws_FnAngles.j3 kj21 l0 t254 t255 (bt265.1 != t257)) else (laws_FnAngles.j3 kj21 l0 t254 t255 false))) = some r := by rw [if_neg (show ¬ (false = true) by decide)] at H; exact H
                          clear H
                          have H := H1
                          clear H1
                          replace H := Option.bind_eq_some_iff.mp H
                          obtain ⟨⟨t265, t266⟩, A270, H⟩ := H
                          replace H : (if t266 = true then (laws_FnAngles.j3 kj21 l0 t254 t255 (t265 != t257)) else (laws_FnAngles.j3 kj21 l0 t254 t255 false)) = some r := H
                          have A27 := Aside0.mk A270
                          clear A270
                          have HC28 := Aside0.mk H
                          clear H
                          go_upto_region 17 with (first | ((with_reducible refine gate_callee (f := 11) rfl ?_); refine goesL_ (some 126) rfl rfl Tryd.func11 (by kernel_rfl) rfl #[.int .i64 (wrap64 (t254 + 90))] rfl (by (try simp only [List.map_toArray, List.map_cons, List.map_nil]); first | done | rfl | (simp only [List.length_drop, List.length_take]; rfl)) ?_; (with_reducible refine (impl_SineOf.calls (wrap64 (t254 + 90)) t265 t266 _ ?sideT A27.out).mono ?_); (case sideT => first | exact HT.out | (refine Tab.drawn HT.out ?_; (repeat (first | exact Drawn0.refl _ | apply Drawn0.step)); done) | (refine Tab.below HT.out ?_; repeat (first | (with_reducible first | exact HB.out | apply below_alloc | apply pw_below_drewN | apply below_drew1) | exact HB.out))); rintro e w' ⟨rfl, ⟨nd, rfl⟩⟩; refine ⟨_, rfl, ?_⟩))
                          (try simp only [Act.put, List.setIfInBounds_toArray, List.set_cons_zero, List.set_cons_succ])
                          go_cut [134] (fun v134 wc => ∃ (kq : Nat) (x134_27 : Bool), v134 = .bool x134_27 ∧ Aside0 (laws_FnAngles.j3 kq l0 t254 t255 x134_27 = some r) ∧ Aside0 (kq ≤ kj21) ∧ Aside0 (Below w.heap.size w wc))
                          case first => as_aux_lemma =>
                            have H := HC28.out
                            clear HC28
                            by_cases c29 : t266 = true
                            · subst c29
                              have H1 : (laws_FnAngles.j3 kj21 l0 t254 t255 (t265 != t257)) = some r := by rw [if_pos rfl] at H; exact H
                              clear H
                              have H := H1
                              clear H1
                              have H' := Aside0.mk H
                              clear H
                              go_wp2
                              go_meet
                              case rel => exact ⟨_, ((t265 != t257)), (by first | rfl | (simp; done) | (simp [*]; done)), H', ⟨by have := HJ7.out; have := HJ13.out; have := HJ21.out; first | omega | exact Nat.le_refl _⟩, ⟨by repeat (first | (with_reducible first | exact HB.out | apply below_alloc | apply pw_below_drewN | apply below_drew1) | exact HB.out)⟩⟩
                            · replace c29 := Bool.eq_false_iff.mpr c29
                              subst c29
                              have H1 : (laws_FnAngles.j3 kj21 l0 t254 t255 false) = some r := by rw [if_neg (show ¬ (false = true) by decide)] at H; exact H
                              clear H
                              have H := H1
                              clear H1
                              have H' := Aside0.mk H
                              clear H
                              go_wp2
                              go_meet
                              case rel => exact ⟨_, (false), (by first | rfl | (simp; done) | (simp [*]; done)), H', ⟨by have := HJ7.out; have := HJ13.out; have := HJ21.out; first | omega | exact Nat.le_refl _⟩, ⟨by repeat (first | (with_reducible first | exact HB.out | apply below_alloc | apply pw_below_drewN | apply below_drew1) | exact HB.out)⟩⟩
                          case rest => as_aux_lemma =>
                            clear HC28
                            try clear c1
                            try clear c2
                            try clear p2
                            try clear c3
                            try clear p6
                            try clear c8
                            try clear c10
                            try clear c11
                            try clear c11b0
                            try clear c11b1
                            try clear c12
                            try clear c13
                            try clear c16
                            try clear c16b0
                            try clear c16b1
                            try clear c17
                            try clear c17b0
                            try clear c17b1
                            try clear c17b2
                            try clear c18
                            try clear c20
                            try clear c21
                            try clear c23
                            try clear c24
                            try clear c24b0
                            try clear c24b1
                            try clear c25
                            try clear c25b0
                            try clear c26
                            try clear c29
                            try clear p2
                            try clear p6
                            obtain ⟨kq, x134_27, rfl, HA, HJ27, HB⟩ := hcut
                            cases kq with
                            | zero => exact absurd HA.out (by simp [laws_FnAngles.j3])
                            | succ kj27 =>
                              have H := HA.out
                              clear HA
                              simp only [laws_FnAngles.j3] at H
                              by_cases c30 : x134_27 = true
                              · subst c30
                                have H1 : (some false) = some r := by rw [if_pos rfl] at H; exact H
                                clear H
                                have H := H1
                                clear H1
                                obtain rfl := Option.some.inj H
                                go_wp2
                                go_ret
                                exact ⟨by first | rfl | (simp [errW_none, errW_some] <;> rfl) | (simp [*, errW_none, errW_some] <;> rfl), by repeat (first | (with_reducible first | exact HB.out | apply below_alloc | apply pw_below_drewN | apply below_drew1) | exact HB.out)⟩
                              · replace c30 := Bool.eq_false_iff.mpr c30
                                subst c30
                                have H1 : ((impl_SineOf.f (wrap64 (t254 + 360))).bind fun bt267 => (if bt267.2 = true then (if bt267.1 = t255 then (laws_FnAngles.j4 kj27 l0) else (some false)) else (laws_FnAngles.j4 kj27 l0))) = some r := by rw [if_neg (show ¬ (false = true) by decide)] at H; exact H
                                clear H
                                have H := H1
                                clear H1
                                replace H := Option.bind_eq_some_iff.mp H
                                obtain ⟨⟨t267, t268⟩, A310, H⟩ := H
                                replace H : (if t268 = true then (if t267 = t255 then (laws_FnAngles.j4 kj27 l0) else (some false)) else (laws_FnAngles.j4 kj27 l0)) = some r := H
                                have A31 := Aside0.mk A310
                                clear A310
                                by_cases c32 : t268 = true
                                · subst c32
                                  have H1 : (if t267 = t255 then (laws_FnAngles.j4 kj27 l0) else (some false)) = some r := by rw [if_pos rfl] at H; exact H
                                  clear H
                                  have H := H1
                                  clear H1
                                  by_cases c33 : t267 = t255
                                  · rw [if_pos c33] at H
                                    have c33b0 : (t267 == t255) = true := beq_iff_eq.mpr c33
                                    have c33b1 : (t267 != t255) = false := bne_eq_false_iff_eq.mpr c33
                                    clear c33
                                    have H' := Aside0.mk H
                                    clear H
                                    go_wp2_with (first | ((with_reducible refine gate_callee (f := 11) rfl ?_); refine goesL_ (some 138) rfl rfl Tryd.func11 (by kernel_rfl) rfl #[.int .i64 (wrap64 (t254 + 360))] rfl (by (try simp only [List.map_toArray, List.map_cons, List.map_nil]); first | done | rfl | (simp only [List.length_drop, List.length_take]; rfl)) ?_; (with_reducible refine (impl_SineOf.calls (wrap64 (t254 + 360)) t267 true _ ?sideT A31.out).mono ?_); (case sideT => first | exact HT.out | (refine Tab.drawn HT.out ?_; (repeat (first | exact Drawn0.refl _ | apply Drawn0.step)); done) | (refine Tab.below HT.out ?_; repeat (first | (with_reducible first | exact HB.out | apply below_alloc | apply pw_below_drewN | apply below_drew1) | exact HB.out))); rintro e w' ⟨rfl, ⟨nd, rfl⟩⟩; refine ⟨_, rfl, ?_⟩))
                                    go_meet
                                    case rel => exact ⟨_, H', ⟨by have := HJ7.out; have := HJ13.out; have := HJ21.out; have := HJ27.out; first | omega | exact Nat.le_refl _⟩, ⟨by repeat (first | (with_reducible first | exact HB.out | apply below_alloc | apply pw_below_drewN | apply below_drew1) | exact HB.out)⟩⟩
                                  · rw [if_neg c33] at H
                                    have c33b0 : (t267 == t255) = false := beq_eq_false_iff_ne.mpr c33
                                    have c33b1 : (t267 != t255) = true := bne_iff_ne.mpr c33
                                    obtain rfl := Option.some.inj H
                                    go_wp2_with (first | ((with_reducible refine gate_callee (f := 11) rfl ?_); refine goesL_ (some 138) rfl rfl Tryd.func11 (by kernel_rfl) rfl #[.int .i64 (wrap64 (t254 + 360))] rfl (by (try simp only [List.map_toArray, List.map_cons, List.map_nil]); first | done | rfl | (simp only [List.length_drop, List.length_take]; rfl)) ?_; (with_reducible refine (impl_SineOf.calls (wrap64 (t254 + 360)) t267 true _ ?sideT A31.out).mono ?_); (case sideT => first | exact HT.out | (refine Tab.drawn HT.out ?_; (repeat (first | exact Drawn0.refl _ | apply Drawn0.step)); done) | (refine Tab.below HT.out ?_; repeat (first | (with_reducible first | exact HB.out | apply below_alloc | apply pw_below_drewN | apply below_drew1) | exact HB.out))); rintro e w' ⟨rfl, ⟨nd, rfl⟩⟩; refine ⟨_, rfl, ?_⟩))
                                    go_ret
                                    exact ⟨by first | rfl | (simp [errW_none, errW_some] <;> rfl) | (simp [*, errW_none, errW_some] <;> rfl), by repeat (first | (with_reducible first | exact HB.out | apply below_alloc | apply pw_below_drewN | apply below_drew1) | exact HB.out)⟩
                                · replace c32 := Bool.eq_false_iff.mpr c32
                                  subst c32
                                  have H1 : (laws_FnAngles.j4 kj27 l0) = some r := by rw [if_neg (show ¬ (false = true) by decide)] at H; exact H
                                  clear H
                                  have H := H1
                                  clear H1
                                  have H' := Aside0.mk H
                                  clear H
                                  go_wp2_with (first | ((with_reducible refine gate_callee (f := 11) rfl ?_); refine goesL_ (some 138) rfl rfl Tryd.func11 (by kernel_rfl) rfl #[.int .i64 (wrap64 (t254 + 360))] rfl (by (try simp only [List.map_toArray, List.map_cons, List.map_nil]); first | done | rfl | (simp only [List.length_drop, List.length_take]; rfl)) ?_; (with_reducible refine (impl_SineOf.calls (wrap64 (t254 + 360)) t267 false _ ?sideT A31.out).mono ?_); (case sideT => first | exact HT.out | (refine Tab.drawn HT.out ?_; (repeat (first | exact Drawn0.refl _ | apply Drawn0.step)); done) | (refine Tab.below HT.out ?_; repeat (first | (with_reducible first | exact HB.out | apply below_alloc | apply pw_below_drewN | apply below_drew1) | exact HB.out))); rintro e w' ⟨rfl, ⟨nd, rfl⟩⟩; refine ⟨_, rfl, ?_⟩))
                                  go_meet
                                  case rel => exact ⟨_, H', ⟨by have := HJ7.out; have := HJ13.out; have := HJ21.out; have := HJ27.out; first | omega | exact Nat.le_refl _⟩, ⟨by repeat (first | (with_reducible first | exact HB.out | apply below_alloc | apply pw_below_drewN | apply below_drew1) | exact HB.out)⟩⟩
                  · replace c20 := Bool.eq_false_iff.mpr c20
                    subst c20
                    have H1 : (laws_FnAngles.j4 kj13 l0) = some r := by rw [if_neg (show ¬ (false = true) by decide)] at H; exact H
                    clear H
                    have H := H1
                    clear H1
                    have H' := Aside0.mk H
                    clear H
                    go_wp2
                    go_meet
                    case rel => exact ⟨_, H', ⟨by have := HJ7.out; have := HJ13.out; first | omega | exact Nat.le_refl _⟩, ⟨by repeat (first | (with_reducible first | exact HB.out | apply below_alloc | apply pw_below_drewN | apply below_drew1) | exact HB.out)⟩⟩
                case rest => as_aux_lemma =>
                  clear HC19
                  try clear c1
                  try clear c2
                  try clear p2
                  try clear c3
                  try clear p6
                  try clear c8
                  try clear c10
                  try clear c11
                  try clear c11b0
                  try clear c11b1
                  try clear c12
                  try clear c13
                  try clear c16
                  try clear c16b0
                  try clear c16b1
                  try clear c17
                  try clear c17b0
                  try clear c17b1
                  try clear c17b2
                  try clear c18
                  try clear c20
                  try clear c21
                  try clear c23
                  try clear c24
                  try clear c24b0
                  try clear c24b1
                  try clear c25
                  try clear c25b0
                  try clear c26
                  try clear c29
                  try clear c30
                  try clear c32
                  try clear c33
                  try clear c33b0
                  try clear c33b1
                  try clear p2
                  try clear p6
                  obtain ⟨kq, HA, HJ18, HB⟩ := hcut
                  cases kq with
                  | zero => exact absurd HA.out (by simp [laws_FnAngles.j4])
                  | succ kj18 =>
                    have H := HA.out
                    clear HA
                    simp only [laws_FnAngles.j4] at H
                    replace H := Option.bind_eq_some_iff.mp H
                    obtain ⟨⟨t269, t270⟩, A340, H⟩ := H
                    replace H : ((impl_RoundedDiv.f kj18 t269 t270).bind fun bt271 => ((spec_RoundedDiv.f t269 t270).bind fun bt273 => (if bt271.1 = bt273.1 then (if (bt271.2 != bt273.2) = true then (laws_FnAngles.j5 kj18 l0 true) else (if bt271.2 = true then ((laws_vFar.f (wrap64 ((wrap64 (bt271.1 * t270)) - t269))).bind fun t275 => (laws_FnAngles.j5 kj18 l0 (decide ((wrap64 (2 * t275)) > t270)))) else (laws_FnAngles.j5 kj18 l0 false))) else (laws_FnAngles.j5 kj18 l0 true)))) = some r := H
                    have A34 := Aside0.mk A340
                    clear A340
                    replace H := Option.bind_eq_some_iff.mp H
                    obtain ⟨⟨t271, t272⟩, A350, H⟩ := H
                    replace H : ((spec_RoundedDiv.f t269 t270).bind fun bt273 => (if t271 = bt273.1 then (if (t272 != bt273.2) = true then (laws_FnAngles.j5 kj18 l0 true) else (if t272 = true then ((laws_vFar.f (wrap64 ((wrap64 (t271 * t270)) - t269))).bind fun t275 => (laws_FnAngles.j5 kj18 l0 (decide ((wrap64 (2 * t275)) > t270)))) else (laws_FnAngles.j5 kj18 l0 false))) else (laws_FnAngles.j5 kj18 l0 true))) = some r := H
                    have A35 := Aside0.mk A350
                    clear A350
                    replace H := Option.bind_eq_some_iff.mp H
                    obtain ⟨⟨t273, t274⟩, A360, H⟩ := H
                    replace H : (if t271 = t273 then (if (t272 != t274) = true then (laws_FnAngles.j5 kj18 l0 true) else (if t272 = true then ((laws_vFar.f (wrap64 ((wrap64 (t271 * t270)) - t269))).bind fun t275 => (laws_FnAngles.j5 kj18 l0 (decide ((wrap64 (2 * t275)) > t270)))) else (laws_FnAngles.j5 kj18 l0 false))) else (laws_FnAngles.j5 kj18 l0 true)) = some r := H
                    have A36 := Aside0.mk A360
                    clear A360
                    have HC37 := Aside0.mk H
                    clear H
                    go_upto_region 25 with (first | ((with_reducible refine gate_callee (f := 22) rfl ?_); refine goesL_ (some 149) rfl rfl Tryd.func22 (by kernel_rfl) rfl #[.slice A0 l0.length c0] rfl (by (try simp only [List.map_toArray, List.map_cons, List.map_nil]); first | done | rfl | (simp only [List.length_drop, List.length_take]; rfl)) ?_; (with_reducible refine (spec_DrawRoundedDiv.calls _ _ l0 t269 t270 _ ?side1 ?side2 A34.out).mono ?_); (case side1 => repeat (first | exact (Kd.C_below HR0.out HB.out) | (with_reducible refine Kd.C_alloc ?_ _) | (with_reducible refine Kd.C_drewN ?_ _) | (with_reducible refine Kd.C_drew ?_))); (case side2 => exact HC0.out); rintro e w38 ⟨rfl, hb⟩; refine ⟨_, rfl, ?_⟩; have n0_ := Aside0.mk (below_step (by repeat (first | (with_reducible first | exact HB.out | apply below_alloc | apply pw_below_drewN | apply below_drew1) | exact HB.out)) hb); clear HB; have HB := n0_; clear n0_; (try clear hb); (try clear hb2); (try clear hk); (try clear hi)) | ((with_reducible refine gate_callee (f := 23) rfl ?_); refine goesL_ (some 155) rfl rfl Tryd.func23 (by kernel_rfl) rfl #[.int .i64 t269, .int .i64 t270] rfl (by (try simp only [List.map_toArray, List.map_cons, List.map_nil]); first | done | rfl | (simp only [List.length_drop, List.length_take]; rfl)) ?_; (with_reducible refine (impl_RoundedDiv.calls kj18 t269 t270 t271 t272 _ A35.out).mono ?_); rintro e w' ⟨rfl, ⟨nd, rfl⟩⟩; refine ⟨_, rfl, ?_⟩) | ((with_reducible refine gate_callee (f := 24) rfl ?_); refine goesL_ (some 161) rfl rfl Tryd.func24 (by kernel_rfl) rfl #[.int .i64 t269, .int .i64 t270] rfl (by (try simp only [List.map_toArray, List.map_cons, List.map_nil]); first | done | rfl | (simp only [List.length_drop, List.length_take]; rfl)) ?_; (with_reducible refine (spec_RoundedDiv.calls t269 t270 t273 t274 _ A36.out).mono ?_); rintro e w' ⟨rfl, ⟨nd, rfl⟩⟩; refine ⟨_, rfl, ?_⟩))
                    (try simp only [Act.put, List.setIfInBounds_toArray, List.set_cons_zero, List.set_cons_succ])
                    go_cut [185] (fun v185 wc => ∃ (kq : Nat) (x185_36 : Bool), v185 = .bool x185_36 ∧ Aside0 (laws_FnAngles.j5 kq l0 x185_36 = some r) ∧ Aside0 (kq ≤ kj18) ∧ Aside0 (Below w.heap.size w wc))
                    case first => as_aux_lemma =>
                      have H := HC37.out
                      clear HC37
                      by_cases c39 : t271 = t273
                      · rw [if_pos c39] at H
                        have c39b0 : (t271 == t273) = true := beq_iff_eq.mpr c39
                        have c39b1 : (t271 != t273) = false := bne_eq_false_iff_eq.mpr c39
                        clear c39
                        (first | rw [c39b0] | (simp only [i64_w, i32_w]; rw [c39b0]) | skip)
                        by_cases c40 : (t272 != t274) = true
                        · rw [if_pos c40] at H
                          have c40b0 : (t272 != t274) = true := c40
                          (try (have c40b1 : decide (t272 = t274) = false := by simpa using c40))
                          (try (have c40b2 : (t272 == t274) = false := by simpa using c40))
                          (try (have c40b3 : ¬ (t272 = t274) := by simpa using c40))
                          clear c40
                          have H' := Aside0.mk H
                          clear H
                          go_wp2
                          go_meet
                          case rel => exact ⟨_, (true), (by first | rfl | (simp; done) | (simp [*]; done)), H', ⟨by have := HJ7.out; have := HJ13.out; have := HJ18.out; first | omega | exact Nat.le_refl _⟩, ⟨by repeat (first | (with_reducible first | exact HB.out | apply below_alloc | apply pw_below_drewN | apply below_drew1) | exact HB.out)⟩⟩
                        · rw [if_neg c40] at H
                          have c40b0 : (t272 != t274) = false := by simpa using c40
                          (try (have c40b1 : decide (t272 = t274) = true := by simpa using c40))
                          (try (have c40b2 : (t272 == t274) = true := by simpa using c40))
                          clear c40
                          by_cases c41 : t272 = true
                          · subst c41
                            have H1 : ((laws_vFar.f (wrap64 ((wrap64 (t271 * t270)) - t269))).bind fun t275 => (laws_FnAngles.j5 kj18 l0 (decide ((wrap64 (2 * t275)) > t270)))) = some r := by rw [if_pos rfl] at H; exact H
                            clear H
                            have H := H1
                            clear H1
                            replace H := Option.bind_eq_some_iff.mp H
                            obtain ⟨t275, A420, H⟩ := H
                            replace H : (laws_FnAngles.j5 kj18 l0 (decide ((wrap64 (2 * t275)) > t270))) = some r := H
                            have A42 := Aside0.mk A420
                            clear A420
                            have H' := Aside0.mk H
                            clear H
                            go_wp2_with (first | (go_at_call 25; (with_reducible refine (laws_vFar.calls (wrap64 ((wrap64 (t271 * t270)) - t269)) t275 _ A42.out).mono ?_); rintro e w' ⟨rfl, ⟨nd, rfl⟩⟩))
                            go_meet
                            case rel => exact ⟨_, (decide ((wrap64 (2 * t275)) > t270)), (by first | rfl | (simp; done) | (simp [*]; done)), H', ⟨by have := HJ7.out; have := HJ13.out; have := HJ18.out; first | omega | exact Nat.le_refl _⟩, ⟨by repeat (first | (with_reducible first | exact HB.out | apply below_alloc | apply pw_below_drewN | apply below_drew1) | exact HB.out)⟩⟩
                          · replace c41 := Bool.eq_false_iff.mpr c41
                            subst c41
                            have H1 : (laws_FnAngles.j5 kj18 l0 false) = some r := by rw [if_neg (show ¬ (false = true) by decide)] at H; exact H
                            clear H
                            have H := H1
                            clear H1
                            have H' := Aside0.mk H
                            clear H
                            go_wp2
                            go_meet
                            case rel => exact ⟨_, (false), (by first | rfl | (simp; done) | (simp [*]; done)), H', ⟨by have := HJ7.out; have := HJ13.out; have := HJ18.out; first | omega | exact Nat.le_refl _⟩, ⟨by repeat (first | (with_reducible first | exact HB.out | apply below_alloc | apply pw_below_drewN | apply below_drew1) | exact HB.out)⟩⟩
                      · rw [if_neg c39] at H
                        have c39b0 : (t271 == t273) = false := beq_eq_false_iff_ne.mpr c39
                        have c39b1 : (t271 != t273) = true := bne_iff_ne.mpr c39
                        (first | rw [c39b0] | (simp only [i64_w, i32_w]; rw [c39b0]) | skip)
                        have H' := Aside0.mk H
                        clear H
                        go_wp2
                        go_meet
                        case rel => exact ⟨_, (true), (by first | rfl | (simp; done) | (simp [*]; done)), H', ⟨by have := HJ7.out; have := HJ13.out; have := HJ18.out; first | omega | exact Nat.le_refl _⟩, ⟨by repeat (first | (with_reducible first | exact HB.out | apply below_alloc | apply pw_below_drewN | apply below_drew1) | exact HB.out)⟩⟩
                    case rest => as_aux_lemma =>
                      clear HC37
                      try clear c1
                      try clear c2
                      try clear p2
                      try clear c3
                      try clear c4
                      try clear p6
                      try clear c8
                      try clear c10
                      try clear c11
                      try clear c11b0
                      try clear c11b1
                      try clear c12
                      try clear c13
                      try clear c16
                      try clear c16b0
                      try clear c16b1
                      try clear c17
                      try clear c17b0
                      try clear c17b1
                      try clear c17b2
                      try clear c18
                      try clear c20
                      try clear c21
                      try clear c22
                      try clear c23
                      try clear c24
                      try clear c24b0
                      try clear c24b1
                      try clear c25
                      try clear c25b0
                      try clear c26
                      try clear c29
                      try clear c30
                      try clear c32
                      try clear c33
                      try clear c33b0
                      try clear c33b1
                      try clear c39
                      try clear c39b0
                      try clear c39b1
                      try clear c40
                      try clear c40b0
                      try clear c40b1
                      try clear c40b2
                      try clear c41
                      try clear p2
                      try clear p6
                      obtain ⟨kq, x185_36, rfl, HA, HJ36, HB⟩ := hcut
                      cases kq with
                      | zero => exact absurd HA.out (by simp [laws_FnAngles.j5])
                      | succ kj36 =>
                        have H := HA.out
                        clear HA
                        simp only [laws_FnAngles.j5] at H
                        by_cases c43 : x185_36 = true
                        · subst c43
                          have H1 : (some false) = some r := by rw [if_pos rfl] at H; exact H
                          clear H
                          have H := H1
                          clear H1
                          obtain rfl := Option.some.inj H
                          go_wp2
                          go_ret
                          exact ⟨by first | rfl | (simp [errW_none, errW_some] <;> rfl) | (simp [*, errW_none, errW_some] <;> rfl), by repeat (first | (with_reducible first | exact HB.out | apply below_alloc | apply pw_below_drewN | apply below_drew1) | exact HB.out)⟩
                        · replace c43 := Bool.eq_false_iff.mpr c43
                          subst c43
                          have H1 : ((spec_DrawPartOf.f l0).bind fun bt276 => ((impl_PartOf.f kj36 bt276.1 bt276.2).bind fun bt278 => ((spec_PartOf.f kj36 bt276.1 bt276.2).bind fun bt281 => (if bt278.1 = bt281.1 then (if bt278.2.1 = bt281.2.1 then (laws_FnAngles.j6 kj36 l0 bt276.1 bt276.2 bt278.1 bt278.2.1 bt278.2.2 (bt278.2.2 != bt281.2.2)) else (laws_FnAngles.j6 kj36 l0 bt276.1 bt276.2 bt278.1 bt278.2.1 bt278.2.2 true)) else (laws_FnAngles.j6 kj36 l0 bt276.1 bt276.2 bt278.1 bt278.2.1 bt278.2.2 true))))) = some r := by rw [if_neg (show ¬ (false = true) by decide)] at H; exact H
                          clear H
                          have H := H1
                          clear H1
                          replace H := Option.bind_eq_some_iff.mp H
                          obtain ⟨⟨t276, t277⟩, A440, H⟩ := H
                          replace H : ((impl_PartOf.f kj36 t276 t277).bind fun bt278 => ((spec_PartOf.f kj36 t276 t277).bind fun bt281 => (if bt278.1 = bt281.1 then (if bt278.2.1 = bt281.2.1 then (laws_FnAngles.j6 kj36 l0 t276 t277 bt278.1 bt278.2.1 bt278.2.2 (bt278.2.2 != bt281.2.2)) else (laws_FnAngles.j6 kj36 l0 t276 t277 bt278.1 bt278.2.1 bt278.2.2 true)) else (laws_FnAngles.j6 kj36 l0 t276 t277 bt278.1 bt278.2.1 bt278.2.2 true)))) = some r := H
                          have A44 := Aside0.mk A440
                          clear A440
                          replace H := Option.bind_eq_some_iff.mp H
                          obtain ⟨⟨t278, t279, t280⟩, A450, H⟩ := H
                          replace H : ((spec_PartOf.f kj36 t276 t277).bind fun bt281 => (if t278 = bt281.1 then (if t279 = bt281.2.1 then (laws_FnAngles.j6 kj36 l0 t276 t277 t278 t279 t280 (t280 != bt281.2.2)) else (laws_FnAngles.j6 kj36 l0 t276 t277 t278 t279 t280 true)) else (laws_FnAngles.j6 kj36 l0 t276 t277 t278 t279 t280 true))) = some r := H
                          have A45 := Aside0.mk A450
                          clear A450
                          replace H := Option.bind_eq_some_iff.mp H
                          obtain ⟨⟨t281, t282, t283⟩, A460, H⟩ := H
                          replace H : (if t278 = t281 then (if t279 = t282 then (laws_FnAngles.j6 kj36 l0 t276 t277 t278 t279 t280 (t280 != t283)) else (laws_FnAngles.j6 kj36 l0 t276 t277 t278 t279 t280 true)) else (laws_FnAngles.j6 kj36 l0 t276 t277 t278 t279 t280 true)) = some r := H
                          have A46 := Aside0.mk A460
                          clear A460
                          have HC47 := Aside0.mk H
                          clear H
                          go_upto_region 30 with (first | ((with_reducible refine gate_callee (f := 26) rfl ?_); refine goesL_ (some 188) rfl rfl Tryd.func26 (by kernel_rfl) rfl #[.slice A0 l0.length c0] rfl (by (try simp only [List.map_toArray, List.map_cons, List.map_nil]); first | done | rfl | (simp only [List.length_drop, List.length_take]; rfl)) ?_; (with_reducible refine (spec_DrawPartOf.calls _ _ l0 t276 t277 _ ?side1 ?side2 A44.out).mono ?_); (case side1 => repeat (first | exact (Kd.C_below HR0.out HB.out) | (with_reducible refine Kd.C_alloc ?_ _) | (with_reducible refine Kd.C_drewN ?_ _) | (with_reducible refine Kd.C_drew ?_))); (case side2 => exact HC0.out); rintro e w48 ⟨rfl, hb⟩; refine ⟨_, rfl, ?_⟩; have n0_ := Aside0.mk (below_step (by repeat (first | (with_reducible first | exact HB.out | apply below_alloc | apply pw_below_drewN | apply below_drew1) | exact HB.out)) hb); clear HB; have HB := n0_; clear n0_; (try clear hb); (try clear hb2); (try clear hk); (try clear hi)) | ((with_reducible refine gate_callee (f := 15) rfl ?_); refine goesL_ (some 194) rfl rfl Tryd.func15 (by kernel_rfl) rfl #[.int .i64 t276, .int .i64 t277] rfl (by (try simp only [List.map_toArray, List.map_cons, List.map_nil]); first | done | rfl | (simp only [List.length_drop, List.length_take]; rfl)) ?_; (with_reducible refine (impl_PartOf.calls kj36 t276 t277 t278 t279 t280 _ ?sideT A45.out).mono ?_); (case sideT => first | exact HT.out | (refine Tab.drawn HT.out ?_; (repeat (first | exact Drawn0.refl _ | apply Drawn0.step)); done) | (refine Tab.below HT.out ?_; repeat (first | (with_reducible first | exact HB.out | apply below_alloc | apply pw_below_drewN | apply below_drew1) | exact HB.out))); rintro e w' ⟨rfl, ⟨nd, rfl⟩⟩; refine ⟨_, rfl, ?_⟩) | ((with_reducible refine gate_callee (f := 14) rfl ?_); refine goesL_ (some 201) rfl rfl Tryd.func14 (by kernel_rfl) rfl #[.int .i64 t276, .int .i64 t277] rfl (by (try simp only [List.map_toArray, List.map_cons, List.map_nil]); first | done | rfl | (simp only [List.length_drop, List.length_take]; rfl)) ?_; (with_reducible refine (spec_PartOf.calls kj36 t276 t277 t281 t282 t283 _ A46.out).mono ?_); rintro e w49 ⟨rfl, hb⟩; refine ⟨_, rfl, ?_⟩; have n0_ := Aside0.mk (below_step (by repeat (first | (with_reducible first | exact HB.out | apply below_alloc | apply pw_below_drewN | apply below_drew1) | exact HB.out)) hb); clear HB; have HB := n0_; clear n0_; (try clear hb); (try clear hb2); (try clear hk); (try clear hi)))
                          (try simp only [Act.put, List.setIfInBounds_toArray, List.set_cons_zero, List.set_cons_succ])
                          go_cut [217] (fun v217 wc => ∃ (kq : Nat) (x217_46 : Bool), v217 = .bool x217_46 ∧ Aside0 (laws_FnAngles.j6 kq l0 t276 t277 t278 t279 t280 x217_46 = some r) ∧ Aside0 (kq ≤ kj36) ∧ Aside0 (Below w.heap.size w wc))
                          case first => as_aux_lemma =>
                            have H := HC47.out
                            clear HC47
                            by_cases c50 : t278 = t281
                            · rw [if_pos c50] at H
                              have c50b0 : (t278 == t281) = true := beq_iff_eq.mpr c50
                              have c50b1 : (t278 != t281) = false := bne_eq_false_iff_eq.mpr c50
                              clear c50
                              (first | rw [c50b0] | (simp only [i64_w, i32_w]; rw [c50b0]) | skip)
                              by_cases c51 : t279 = t282
                              · rw [if_pos c51] at H
                                have c51b0 : (t279 == t282) = true := beq_iff_eq.mpr c51
                                have c51b1 : (t279 != t282) = false := bne_eq_false_iff_eq.mpr c51
                                clear c51
                                have H' := Aside0.mk H
                                clear H
                                go_wp2
                                go_meet
                                case rel => exact ⟨_, ((t280 != t283)), (by first | rfl | (simp; done) | (simp [*]; done)), H', ⟨by have := HJ7.out; have := HJ13.out; have := HJ18.out; have := HJ36.out; first | omega | exact Nat.le_refl _⟩, ⟨by repeat (first | (with_reducible first | exact HB.out | apply below_alloc | apply pw_below_drewN | apply below_drew1) | exact HB.out)⟩⟩
                              · rw [if_neg c51] at H
                                have c51b0 : (t279 == t282) = false := beq_eq_false_iff_ne.mpr c51
                                have c51b1 : (t279 != t282) = true := bne_iff_ne.mpr c51
                                have H' := Aside0.mk H
                                clear H
                                go_wp2
                                go_meet
                                case rel => exact ⟨_, (true), (by first | rfl | (simp; done) | (simp [*]; done)), H', ⟨by have := HJ7.out; have := HJ13.out; have := HJ18.out; have := HJ36.out; first | omega | exact Nat.le_refl _⟩, ⟨by repeat (first | (with_reducible first | exact HB.out | apply below_alloc | apply pw_below_drewN | apply below_drew1) | exact HB.out)⟩⟩
                            · rw [if_neg c50] at H
                              have c50b0 : (t278 == t281) = false := beq_eq_false_iff_ne.mpr c50
                              have c50b1 : (t278 != t281) = true := bne_iff_ne.mpr c50
                              (first | rw [c50b0] | (simp only [i64_w, i32_w]; rw [c50b0]) | skip)
                              have H' := Aside0.mk H
                              clear H
                              go_wp2
                              go_meet
                              case rel => exact ⟨_, (true), (by first | rfl | (simp; done) | (simp [*]; done)), H', ⟨by have := HJ7.out; have := HJ13.out; have := HJ18.out; have := HJ36.out; first | omega | exact Nat.le_refl _⟩, ⟨by repeat (first | (with_reducible first | exact HB.out | apply below_alloc | apply pw_below_drewN | apply below_drew1) | exact HB.out)⟩⟩
                          case rest => as_aux_lemma =>
                            clear HC47
                            try clear c1
                            try clear c2
                            try clear p2
                            try clear c3
                            try clear c4
                            try clear c5
                            try clear p6
                            try clear c8
                            try clear c10
                            try clear c11
                            try clear c11b0
                            try clear c11b1
                            try clear c12
                            try clear c13
                            try clear c14
                            try clear c15
                            try clear c16
                            try clear c16b0
                            try clear c16b1
                            try clear c17
                            try clear c17b0
                            try clear c17b1
                            try clear c17b2
                            try clear c18
                            try clear c20
                            try clear c21
                            try clear c22
                            try clear c23
                            try clear c24
                            try clear c24b0
                            try clear c24b1
                            try clear c25
                            try clear c25b0
                            try clear c26
                            try clear c29
                            try clear c30
                            try clear c32
                            try clear c33
                            try clear c33b0
                            try clear c33b1
                            try clear c39
                            try clear c39b0
                            try clear c39b1
                            try clear c40
                            try clear c40b0
                            try clear c40b1
                            try clear c40b2
                            try clear c41
                            try clear c43
                            try clear c50
                            try clear c50b0
                            try clear c50b1
                            try clear c51
                            try clear c51b0
                            try clear c51b1
                            try clear p2
                            try clear p6
                            obtain ⟨kq, x217_46, rfl, HA, HJ46, HB⟩ := hcut
                            cases kq with
                            | zero => exact absurd HA.out (by simp [laws_FnAngles.j6])
                            | succ kj46 =>
                              have H := HA.out
                              clear HA
                              simp only [laws_FnAngles.j6] at H
                              by_cases c52 : x217_46 = true
                              · subst c52
                                have H1 : (some false) = some r := by rw [if_pos rfl] at H; exact H
                                clear H
                                have H := H1
                                clear H1
                                obtain rfl := Option.some.inj H
                                go_wp2
                                go_ret
                                exact ⟨by first | rfl | (simp [errW_none, errW_some] <;> rfl) | (simp [*, errW_none, errW_some] <;> rfl), by repeat (first | (with_reducible first | exact HB.out | apply below_alloc | apply pw_below_drewN | apply below_drew1) | exact HB.out)⟩
                              · replace c52 := Bool.eq_false_iff.mpr c52
                                subst c52
                                have H1 : (if t280 = true then ((impl_PartOf.f kj46 (wrap64 (-t276)) t277).bind fun bt284 => (if bt284.2.2 = true then (if bt284.1 = (wrap64 (-t278)) then (if bt284.2.1 = (wrap64 (-t279)) then (laws_FnAngles.j7 kj46 l0) else (some false)) else (some false)) else (some false))) else (laws_FnAngles.j7 kj46 l0)) = some r := by rw [if_neg (show ¬ (false = true) by decide)] at H; exact H
                                clear H
                                have H := H1
                                clear H1
                                have HC53 := Aside0.mk H
                                clear H
                                go_upto_if 218 with (fail)
                                go_cut [] (fun wc => ∃ (kq : Nat), Aside0 (laws_FnAngles.j7 kq l0 = some r) ∧ Aside0 (kq ≤ kj46) ∧ Aside0 (Below w.heap.size w wc))
                                case first => as_aux_lemma =>
                                  have H := HC53.out
                                  clear HC53
                                  by_cases c54 : t280 = true
                                  · subst c54
                                    have H1 : ((impl_PartOf.f kj46 (wrap64 (-t276)) t277).bind fun bt284 => (if bt284.2.2 = true then (if bt284.1 = (wrap64 (-t278)) then (if bt284.2.1 = (wrap64 (-t279)) then (laws_FnAngles.j7 kj46 l0) else (some false)) else (some false)) else (some false))) = some r := by rw [if_pos rfl] at H; exact H
                                    clear H
                                    have H := H1
                                    clear H1
                                    replace H := Option.bind_eq_some_iff.mp H
                                    obtain ⟨⟨t284, t285, t286⟩, A550, H⟩ := H
                                    replace H : (if t286 = true then (if t284 = (wrap64 (-t278)) then (if t285 = (wrap64 (-t279)) then (laws_FnAngles.j7 kj46 l0) else (some false)) else (some false)) else (some false)) = some r := H
                                    have A55 := Aside0.mk A550
                                    clear A550
                                    by_cases c56 : t286 = true
                                    · subst c56
                                      have H1 : (if t284 = (wrap64 (-t278)) then (if t285 = (wrap64 (-t279)) then (laws_FnAngles.j7 kj46 l0) else (some false)) else (some false)) = some r := by rw [if_pos rfl] at H; exact H
                                      clear H
                                      have H := H1
                                      clear H1
                                      by_cases c57 : t284 = (wrap64 (-t278))
                                      · rw [if_pos c57] at H
                                        have c57b0 : (t284 == (wrap64 (-t278))) = true := beq_iff_eq.mpr c57
                                        have c57b1 : (t284 != (wrap64 (-t278))) = false := bne_eq_false_iff_eq.mpr c57
                                        clear c57
                                        (first | rw [c57b0] | (simp only [i64_w, i32_w]; rw [c57b0]) | skip)
                                        by_cases c58 : t285 = (wrap64 (-t279))
                                        · rw [if_pos c58] at H
                                          have c58b0 : (t285 == (wrap64 (-t279))) = true := beq_iff_eq.mpr c58
                                          have c58b1 : (t285 != (wrap64 (-t279))) = false := bne_eq_false_iff_eq.mpr c58
                                          clear c58
                                          have H' := Aside0.mk H
                                          clear H
                                          go_wp2_with (first | ((with_reducible refine gate_callee (f := 15) rfl ?_); refine goesL_ (some 223) rfl rfl Tryd.func15 (by kernel_rfl) rfl #[.int .i64 (wrap64 (-t276)), .int .i64 t277] rfl (by (try simp only [List.map_toArray, List.map_cons, List.map_nil]); first | done | rfl | (simp only [List.length_drop, List.length_take]; rfl)) ?_; (with_reducible refine (impl_PartOf.calls kj46 (wrap64 (-t276)) t277 t284 t285 true _ ?sideT A55.out).mono ?_); (case sideT => first | exact HT.out | (refine Tab.drawn HT.out ?_; (repeat (first | exact Drawn0.refl _ | apply Drawn0.step)); done) | (refine Tab.below HT.out ?_; repeat (first | (with_reducible first | exact HB.out | apply below_alloc | apply pw_below_drewN | apply below_drew1) | exact HB.out))); rintro e w' ⟨rfl, ⟨nd, rfl⟩⟩; refine ⟨_, rfl, ?_⟩))
                                          go_meet
                                          case rel => exact ⟨_, H', ⟨by have := HJ7.out; have := HJ13.out; have := HJ18.out; have := HJ36.out; have := HJ46.out; first | omega | exact Nat.le_refl _⟩, ⟨by repeat (first | (with_reducible first | exact HB.out | apply below_alloc | apply pw_below_drewN | apply below_drew1) | exact HB.out)⟩⟩
                                        · rw [if_neg c58] at H
                                          have c58b0 : (t285 == (wrap64 (-t279))) = false := beq_eq_false_iff_ne.mpr c58
                                          have c58b1 : (t285 != (wrap64 (-t279))) = true := bne_iff_ne.mpr c58
                                          obtain rfl := Option.some.inj H
                                          go_wp2_with (first | ((with_reducible refine gate_callee (f := 15) rfl ?_); refine goesL_ (some 223) rfl rfl Tryd.func15 (by kernel_rfl) rfl #[.int .i64 (wrap64 (-t276)), .int .i64 t277] rfl (by (try simp only [List.map_toArray, List.map_cons, List.map_nil]); first | done | rfl | (simp only [List.length_drop, List.length_take]; rfl)) ?_; (with_reducible refine (impl_PartOf.calls kj46 (wrap64 (-t276)) t277 t284 t285 true _ ?sideT A55.out).mono ?_); (case sideT => first | exact HT.out | (refine Tab.drawn HT.out ?_; (repeat (first | exact Drawn0.refl _ | apply Drawn0.step)); done) | (refine Tab.below HT.out ?_; repeat (first | (with_reducible first | exact HB.out | apply below_alloc | apply pw_below_drewN | apply below_drew1) | exact HB.out))); rintro e w' ⟨rfl, ⟨nd, rfl⟩⟩; refine ⟨_, rfl, ?_⟩))
                                          go_ret
                                          exact ⟨by first | rfl | (simp [errW_none, errW_some] <;> rfl) | (simp [*, errW_none, errW_some] <;> rfl), by repeat (first | (with_reducible first | exact HB.out | apply below_alloc | apply pw_below_drewN | apply below_drew1) | exact HB.out)⟩
                                      · rw [if_neg c57] at H
                                        have c57b0 : (t284 == (wrap64 (-t278))) = false := beq_eq_false_iff_ne.mpr c57
                                        have c57b1 : (t284 != (wrap64 (-t278))) = true := bne_iff_ne.mpr c57
                                        (first | rw [c57b0] | (simp only [i64_w, i32_w]; rw [c57b0]) | skip)
                                        obtain rfl := Option.some.inj H
                                        go_wp2_with (first | ((with_reducible refine gate_callee (f := 15) rfl ?_); refine goesL_ (some 223) rfl rfl Tryd.func15 (by kernel_rfl) rfl #[.int .i64 (wrap64 (-t276)), .int .i64 t277] rfl (by (try simp only [List.map_toArray, List.map_cons, List.map_nil]); first | done | rfl | (simp only [List.length_drop, List.length_take]; rfl)) ?_; (with_reducible refine (impl_PartOf.calls kj46 (wrap64 (-t276)) t277 t284 t285 true _ ?sideT A55.out).mono ?_); (case sideT => first | exact HT.out | (refine Tab.drawn HT.out ?_; (repeat (first | exact Drawn0.refl _ | apply Drawn0.step)); done) | (refine Tab.below HT.out ?_; repeat (first | (with_reducible first | exact HB.out | apply below_alloc | apply pw_below_drewN | apply below_drew1) | exact HB.out))); rintro e w' ⟨rfl, ⟨nd, rfl⟩⟩; refine ⟨_, rfl, ?_⟩))
                                        go_ret
                                        exact ⟨by first | rfl | (simp [errW_none, errW_some] <;> rfl) | (simp [*, errW_none, errW_some] <;> rfl), by repeat (first | (with_reducible first | exact HB.out | apply below_alloc | apply pw_below_drewN | apply below_drew1) | exact HB.out)⟩
                                    · replace c56 := Bool.eq_false_iff.mpr c56
                                      subst c56
                                      have H1 : (some false) = some r := by rw [if_neg (show ¬ (false = true) by decide)] at H; exact H
                                      clear H
                                      have H := H1
                                      clear H1
                                      obtain rfl := Option.some.inj H
                                      go_wp2_with (first | ((with_reducible refine gate_callee (f := 15) rfl ?_); refine goesL_ (some 223) rfl rfl Tryd.func15 (by kernel_rfl) rfl #[.int .i64 (wrap64 (-t276)), .int .i64 t277] rfl (by (try simp only [List.map_toArray, List.map_cons, List.map_nil]); first | done | rfl | (simp only [List.length_drop, List.length_take]; rfl)) ?_; (with_reducible refine (impl_PartOf.calls kj46 (wrap64 (-t276)) t277 t284 t285 false _ ?sideT A55.out).mono ?_); (case sideT => first | exact HT.out | (refine Tab.drawn HT.out ?_; (repeat (first | exact Drawn0.refl _ | apply Drawn0.step)); done) | (refine Tab.below HT.out ?_; repeat (first | (with_reducible first | exact HB.out | apply below_alloc | apply pw_below_drewN | apply below_drew1) | exact HB.out))); rintro e w' ⟨rfl, ⟨nd, rfl⟩⟩; refine ⟨_, rfl, ?_⟩))
                                      go_ret
                                      exact ⟨by first | rfl | (simp [errW_none, errW_some] <;> rfl) | (simp [*, errW_none, errW_some] <;> rfl), by repeat (first | (with_reducible first | exact HB.out | apply below_alloc | apply pw_below_drewN | apply below_drew1) | exact HB.out)⟩
                                  · replace c54 := Bool.eq_false_iff.mpr c54
                                    subst c54
                                    have H1 : (laws_FnAngles.j7 kj46 l0) = some r := by rw [if_neg (show ¬ (false = true) by decide)] at H; exact H
                                    clear H
                                    have H := H1
                                    clear H1
                                    have H' := Aside0.mk H
                                    clear H
                                    go_wp2
                                    go_meet
                                    case rel => exact ⟨_, H', ⟨by have := HJ7.out; have := HJ13.out; have := HJ18.out; have := HJ36.out; have := HJ46.out; first | omega | exact Nat.le_refl _⟩, ⟨by repeat (first | (with_reducible first | exact HB.out | apply below_alloc | apply pw_below_drewN | apply below_drew1) | exact HB.out)⟩⟩
                                case rest => as_aux_lemma =>
                                  clear HC53
                                  try clear c1
                                  try clear c2
                                  try clear p2
                                  try clear c3
                                  try clear c4
                                  try clear c5
                                  try clear p6
                                  try clear c8
                                  try clear c10
                                  try clear c11
                                  try clear c11b0
                                  try clear c11b1
                                  try clear c12
                                  try clear c13
                                  try clear c14
                                  try clear c15
                                  try clear c16
                                  try clear c16b0
                                  try clear c16b1
                                  try clear c17
                                  try clear c17b0
                                  try clear c17b1
                                  try clear c17b2
                                  try clear c18
                                  try clear c20
                                  try clear c21
                                  try clear c22
                                  try clear c23
                                  try clear c24
                                  try clear c24b0
                                  try clear c24b1
                                  try clear c25
                                  try clear c25b0
                                  try clear c26
                                  try clear c29
                                  try clear c30
                                  try clear c32
                                  try clear c33
                                  try clear c33b0
                                  try clear c33b1
                                  try clear c39
                                  try clear c39b0
                                  try clear c39b1
                                  try clear c40
                                  try clear c40b0
                                  try clear c40b1
                                  try clear c40b2
                                  try clear c41
                                  try clear c43
                                  try clear c50
                                  try clear c50b0
                                  try clear c50b1
                                  try clear c51
                                  try clear c51b0
                                  try clear c51b1
                                  try clear c52
                                  try clear c54
                                  try clear c56
                                  try clear c57
                                  try clear c57b0
                                  try clear c57b1
                                  try clear c58
                                  try clear c58b0
                                  try clear c58b1
                                  try clear p2
                                  try clear p6
                                  obtain ⟨kq, HA, HJ52, HB⟩ := hcut
                                  cases kq with
                                  | zero => exact absurd HA.out (by simp [laws_FnAngles.j7])
                                  | succ kj52 =>
                                    have H := HA.out
                                    clear HA
                                    simp only [laws_FnAngles.j7] at H
                                    replace H := Option.bind_eq_some_iff.mp H
                                    obtain ⟨⟨t287, t288⟩, A590, H⟩ := H
                                    replace H : ((impl_TurnBetween.f t287 t288).bind fun bt289 => ((impl_TurnBetween.f t288 t287).bind fun bt291 => ((spec_TurnBetween.f t287 t288).bind fun bt293 => (if bt289.1 = bt293.1 then (if (bt289.2 == bt293.2) = true then (if (bt291.2 == bt289.2) = true then (if bt291.1 = bt289.1 then (if bt289.2 = true then (if bt289.1 ≥ 0 then (some (decide (bt289.1 ≤ 180))) else (some false)) else (some true)) else (some false)) else (some false)) else (some false)) else (some false))))) = some r := H
                                    have A59 := Aside0.mk A590
                                    clear A590
                                    replace H := Option.bind_eq_some_iff.mp H
                                    obtain ⟨⟨t289, t290⟩, A600, H⟩ := H
                                    replace H : ((impl_TurnBetween.f t288 t287).bind fun bt291 => ((spec_TurnBetween.f t287 t288).bind fun bt293 => (if t289 = bt293.1 then (if (t290 == bt293.2) = true then (if (bt291.2 == t290) = true then (if bt291.1 = t289 then (if t290 = true then (if t289 ≥ 0 then (some (decide (t289 ≤ 180))) else (some false)) else (some true)) else (some false)) else (some false)) else (some false)) else (some false)))) = some r := H
                                    have A60 := Aside0.mk A600
                                    clear A600
                                    replace H := Option.bind_eq_some_iff.mp H
                                    obtain ⟨⟨t291, t292⟩, A610, H⟩ := H
                                    replace H : ((spec_TurnBetween.f t287 t288).bind fun bt293 => (if t289 = bt293.1 then (if (t290 == bt293.2) = true then (if (t292 == t290) = true then (if t291 = t289 then (if t290 = true then (if t289 ≥ 0 then (some (decide (t289 ≤ 180))) else (some false)) else (some true)) else (some false)) else (some false)) else (some false)) else (some false))) = some r := H
                                    have A61 := Aside0.mk A610
                                    clear A610
                                    replace H := Option.bind_eq_some_iff.mp H
                                    obtain ⟨⟨t293, t294⟩, A620, H⟩ := H
                                    replace H : (if t289 = t293 then (if (t290 == t294) = true then (if (t292 == t290) = true then (if t291 = t289 then (if t290 = true then (if t289 ≥ 0 then (some (decide (t289 ≤ 180))) else (some false)) else (some true)) else (some false)) else (some false)) else (some false)) else (some false)) = some r := H
                                    have A62 := Aside0.mk A620
                                    clear A620
                                    by_cases c63 : t289 = t293
                                    · rw [if_pos c63] at H
                                      have c63b0 : (t289 == t293) = true := beq_iff_eq.mpr c63
                                      have c63b1 : (t289 != t293) = false := bne_eq_false_iff_eq.mpr c63
                                      clear c63
                                      by_cases c64 : (t290 == t294) = true
                                      · rw [if_pos c64] at H
                                        have c64b0 : (t290 == t294) = true := c64
                                        (try (have c64b1 : decide (t290 = t294) = true := by simpa using c64))
                                        (try (have c64b2 : (t290 == t294) = true := by simpa using c64))
                                        clear c64
                                        by_cases c65 : (t292 == t290) = true
                                        · rw [if_pos c65] at H
                                          have c65b0 : (t292 == t290) = true := c65
                                          (try (have c65b1 : decide (t292 = t290) = true := by simpa using c65))
                                          (try (have c65b2 : (t292 == t290) = true := by simpa using c65))
                                          clear c65
                                          by_cases c66 : t291 = t289
                                          · rw [if_pos c66] at H
                                            have c66b0 : (t291 == t289) = true := beq_iff_eq.mpr c66
                                            have c66b1 : (t291 != t289) = false := bne_eq_false_iff_eq.mpr c66
                                            clear c66
                                            by_cases c67 : t290 = true
                                            · subst c67
                                              have H1 : (if t289 ≥ 0 then (some (decide (t289 ≤ 180))) else (some false)) = some r := by rw [if_pos rfl] at H; exact H
                                              clear H
                                              have H := H1
                                              clear H1
                                              by_cases c68 : t289 ≥ 0
                                              · rw [if_pos c68] at H
                                                have c68b0 : decide (0 ≤ t289) = true := decide_eq_true c68
                                                clear c68
                                                obtain rfl := Option.some.inj H
                                                go_wp2_with (first | ((with_reducible refine gate_callee (f := 27) rfl ?_); refine goesL_ (some 243) rfl rfl Tryd.func27 (by kernel_rfl) rfl #[.slice A0 l0.length c0] rfl (by (try simp only [List.map_toArray, List.map_cons, List.map_nil]); first | done | rfl | (simp only [List.length_drop, List.length_take]; rfl)) ?_; (with_reducible refine (spec_DrawTurnBetween.calls _ _ l0 t287 t288 _ ?side1 ?side2 A59.out).mono ?_); (case side1 => repeat (first | exact (Kd.C_below HR0.out HB.out) | (with_reducible refine Kd.C_alloc ?_ _) | (with_reducible refine Kd.C_drewN ?_ _) | (with_reducible refine Kd.C_drew ?_))); (case side2 => exact HC0.out); rintro e w69 ⟨rfl, hb⟩; refine ⟨_, rfl, ?_⟩; have n0_ := Aside0.mk (below_step (by repeat (first | (with_reducible first | exact HB.out | apply below_alloc | apply pw_below_drewN | apply below_drew1) | exact HB.out)) hb); clear HB; have HB := n0_; clear n0_; (try clear hb); (try clear hb2); (try clear hk); (try clear hi)) | ((with_reducible refine gate_callee (f := 28) rfl ?_); refine goesL_ (some 249) rfl rfl Tryd.func28 (by kernel_rfl) rfl #[.int .i64 t287, .int .i64 t288] rfl (by (try simp only [List.map_toArray, List.map_cons, List.map_nil]); first | done | rfl | (simp only [List.length_drop, List.length_take]; rfl)) ?_; (with_reducible refine (impl_TurnBetween.calls t287 t288 t289 true _ A60.out).mono ?_); rintro e w70 ⟨rfl, hb⟩; refine ⟨_, rfl, ?_⟩; have n0_ := Aside0.mk (below_step (by repeat (first | (with_reducible first | exact HB.out | apply below_alloc | apply pw_below_drewN | apply below_drew1) | exact HB.out)) hb); clear HB; have HB := n0_; clear n0_; (try clear hb); (try clear hb2); (try clear hk); (try clear hi)) | ((with_reducible refine gate_callee (f := 28) rfl ?_); refine goesL_ (some 255) rfl rfl Tryd.func28 (by kernel_rfl) rfl #[.int .i64 t288, .int .i64 t287] rfl (by (try simp only [List.map_toArray, List.map_cons, List.map_nil]); first | done | rfl | (simp only [List.length_drop, List.length_take]; rfl)) ?_; (with_reducible refine (impl_TurnBetween.calls t288 t287 t291 t292 _ A61.out).mono ?_); rintro e w71 ⟨rfl, hb⟩; refine ⟨_, rfl, ?_⟩; have n0_ := Aside0.mk (below_step (by repeat (first | (with_reducible first | exact HB.out | apply below_alloc | apply pw_below_drewN | apply below_drew1) | exact HB.out)) hb); clear HB; have HB := n0_; clear n0_; (try clear hb); (try clear hb2); (try clear hk); (try clear hi)) | ((with_reducible refine gate_callee (f := 29) rfl ?_); refine goesL_ (some 261) rfl rfl Tryd.func29 (by kernel_rfl) rfl #[.int .i64 t287, .int .i64 t288] rfl (by (try simp only [List.map_toArray, List.map_cons, List.map_nil]); first | done | rfl | (simp only [List.length_drop, List.length_take]; rfl)) ?_; (with_reducible refine (spec_TurnBetween.calls t287 t288 t293 t294 _ A62.out).mono ?_); rintro e w' ⟨rfl, ⟨nd, rfl⟩⟩; refine ⟨_, rfl, ?_⟩))
                                                go_ret
                                                exact ⟨by first | rfl | (simp [errW_none, errW_some] <;> rfl) | (simp [*, errW_none, errW_some] <;> rfl), by repeat (first | (with_reducible first | exact HB.out | apply below_alloc | apply pw_below_drewN | apply below_drew1) | exact HB.out)⟩
                                              · rw [if_neg c68] at H
                                                have c68b0 : decide (0 ≤ t289) = false := decide_eq_false c68
                                                clear c68
                                                obtain rfl := Option.some.inj H
                                                go_wp2_with (first | ((with_reducible refine gate_callee (f := 27) rfl ?_); refine goesL_ (some 243) rfl rfl Tryd.func27 (by kernel_rfl) rfl #[.slice A0 l0.length c0] rfl (by (try simp only [List.map_toArray, List.map_cons, List.map_nil]); first | done | rfl | (simp only [List.length_drop, List.length_take]; rfl)) ?_; (with_reducible refine (spec_DrawTurnBetween.calls _ _ l0 t287 t288 _ ?side1 ?side2 A59.out).mono ?_); (case side1 => repeat (first | exact (Kd.C_below HR0.out HB.out) | (with_reducible refine Kd.C_alloc ?_ _) | (with_reducible refine Kd.C_drewN ?_ _) | (with_reducible refine Kd.C_drew ?_))); (case side2 => exact HC0.out); rintro e w72 ⟨rfl, hb⟩; refine ⟨_, rfl, ?_⟩; have n0_ := Aside0.mk (below_step (by repeat (first | (with_reducible first | exact HB.out | apply below_alloc | apply pw_below_drewN | apply below_drew1) | exact HB.out)) hb); clear HB; have HB := n0_; clear n0_; (try clear hb); (try clear hb2); (try clear hk); (try clear hi)) | ((with_reducible refine gate_callee (f := 28) rfl ?_); refine goesL_ (some 249) rfl rfl Tryd.func28 (by kernel_rfl) rfl #[.int .i64 t287, .int .i64 t288] rfl (by (try simp only [List.map_toArray, List.map_cons, List.map_nil]); first | done | rfl | (simp only [List.length_drop, List.length_take]; rfl)) ?_; (with_reducible refine (impl_TurnBetween.calls t287 t288 t289 true _ A60.out).mono ?_); rintro e w73 ⟨rfl, hb⟩; refine ⟨_, rfl, ?_⟩; have n0_ := Aside0.mk (below_step (by repeat (first | (with_reducible first | exact HB.out | apply below_alloc | apply pw_below_drewN | apply below_drew1) | exact HB.out)) hb); clear HB; have HB := n0_; clear n0_; (try clear hb); (try clear hb2); (try clear hk); (try clear hi)) | ((with_reducible refine gate_callee (f := 28) rfl ?_); refine goesL_ (some 255) rfl rfl Tryd.func28 (by kernel_rfl) rfl #[.int .i64 t288, .int .i64 t287] rfl (by (try simp only [List.map_toArray, List.map_cons, List.map_nil]); first | done | rfl | (simp only [List.length_drop, List.length_take]; rfl)) ?_; (with_reducible refine (impl_TurnBetween.calls t288 t287 t291 t292 _ A61.out).mono ?_); rintro e w74 ⟨rfl, hb⟩; refine ⟨_, rfl, ?_⟩; have n0_ := Aside0.mk (below_step (by repeat (first | (with_reducible first | exact HB.out | apply below_alloc | apply pw_below_drewN | apply below_drew1) | exact HB.out)) hb); clear HB; have HB := n0_; clear n0_; (try clear hb); (try clear hb2); (try clear hk); (try clear hi)) | ((with_reducible refine gate_callee (f := 29) rfl ?_); refine goesL_ (some 261) rfl rfl Tryd.func29 (by kernel_rfl) rfl #[.int .i64 t287, .int .i64 t288] rfl (by (try simp only [List.map_toArray, List.map_cons, List.map_nil]); first | done | rfl | (simp only [List.length_drop, List.length_take]; rfl)) ?_; (with_reducible refine (spec_TurnBetween.calls t287 t288 t293 t294 _ A62.out).mono ?_); rintro e w' ⟨rfl, ⟨nd, rfl⟩⟩; refine ⟨_, rfl, ?_⟩))
                                                go_ret
                                                exact ⟨by first | rfl | (simp [errW_none, errW_some] <;> rfl) | (simp [*, errW_none, errW_some] <;> rfl), by repeat (first | (with_reducible first | exact HB.out | apply below_alloc | apply pw_below_drewN | apply below_drew1) | exact HB.out)⟩
                                            · replace c67 := Bool.eq_false_iff.mpr c67
                                              subst c67
                                              have H1 : (some true) = some r := by rw [if_neg (show ¬ (false = true) by decide)] at H; exact H
                                              clear H
                                              have H := H1
                                              clear H1
                                              obtain rfl := Option.some.inj H
                                              go_wp2_with (first | ((with_reducible refine gate_callee (f := 27) rfl ?_); refine goesL_ (some 243) rfl rfl Tryd.func27 (by kernel_rfl) rfl #[.slice A0 l0.length c0] rfl (by (try simp only [List.map_toArray, List.map_cons, List.map_nil]); first | done | rfl | (simp only [List.length_drop, List.length_take]; rfl)) ?_; (with_reducible refine (spec_DrawTurnBetween.calls _ _ l0 t287 t288 _ ?side1 ?side2 A59.out).mono ?_); (case side1 => repeat (first | exact (Kd.C_below HR0.out HB.out) | (with_reducible refine Kd.C_alloc ?_ _) | (with_reducible refine Kd.C_drewN ?_ _) | (with_reducible refine Kd.C_drew ?_))); (case side2 => exact HC0.out); rintro e w75 ⟨rfl, hb⟩; refine ⟨_, rfl, ?_⟩; have n0_ := Aside0.mk (below_step (by repeat (first | (with_reducible first | exact HB.out | apply below_alloc | apply pw_below_drewN | apply below_drew1) | exact HB.out)) hb); clear HB; have HB := n0_; clear n0_; (try clear hb); (try clear hb2); (try clear hk); (try clear hi)) | ((with_reducible refine gate_callee (f := 28) rfl ?_); refine goesL_ (some 249) rfl rfl Tryd.func28 (by kernel_rfl) rfl #[.int .i64 t287, .int .i64 t288] rfl (by (try simp only [List.map_toArray, List.map_cons, List.map_nil]); first | done | rfl | (simp only [List.length_drop, List.length_take]; rfl)) ?_; (with_reducible refine (impl_TurnBetween.calls t287 t288 t289 false _ A60.out).mono ?_); rintro e w76 ⟨rfl, hb⟩; refine ⟨_, rfl, ?_⟩; have n0_ := Aside0.mk (below_step (by repeat (first | (with_reducible first | exact HB.out | apply below_alloc | apply pw_below_drewN | apply below_drew1) | exact HB.out)) hb); clear HB; have HB := n0_; clear n0_; (try clear hb); (try clear hb2); (try clear hk); (try clear hi)) | ((with_reducible refine gate_callee (f := 28) rfl ?_); refine goesL_ (some 255) rfl rfl Tryd.func28 (by kernel_rfl) rfl #[.int .i64 t288, .int .i64 t287] rfl (by (try simp only [List.map_toArray, List.map_cons, List.map_nil]); first | done | rfl | (simp only [List.length_drop, List.length_take]; rfl)) ?_; (with_reducible refine (impl_TurnBetween.calls t288 t287 t291 t292 _ A61.out).mono ?_); rintro e w77 ⟨rfl, hb⟩; refine ⟨_, rfl, ?_⟩; have n0_ := Aside0.mk (below_step (by repeat (first | (with_reducible first | exact HB.out | apply below_alloc | apply pw_below_drewN | apply below_drew1) | exact HB.out)) hb); clear HB; have HB := n0_; clear n0_; (try clear hb); (try clear hb2); (try clear hk); (try clear hi)) | ((with_reducible refine gate_callee (f := 29) rfl ?_); refine goesL_ (some 261) rfl rfl Tryd.func29 (by kernel_rfl) rfl #[.int .i64 t287, .int .i64 t288] rfl (by (try simp only [List.map_toArray, List.map_cons, List.map_nil]); first | done | rfl | (simp only [List.length_drop, List.length_take]; rfl)) ?_; (with_reducible refine (spec_TurnBetween.calls t287 t288 t293 t294 _ A62.out).mono ?_); rintro e w' ⟨rfl, ⟨nd, rfl⟩⟩; refine ⟨_, rfl, ?_⟩))
                                              go_ret
                                              exact ⟨by first | rfl | (simp [errW_none, errW_some] <;> rfl) | (simp [*, errW_none, errW_some] <;> rfl), by repeat (first | (with_reducible first | exact HB.out | apply below_alloc | apply pw_below_drewN | apply below_drew1) | exact HB.out)⟩
                                          · rw [if_neg c66] at H
                                            have c66b0 : (t291 == t289) = false := beq_eq_false_iff_ne.mpr c66
                                            have c66b1 : (t291 != t289) = true := bne_iff_ne.mpr c66
                                            obtain rfl := Option.some.inj H
                                            go_wp2_with (first | ((with_reducible refine gate_callee (f := 27) rfl ?_); refine goesL_ (some 243) rfl rfl Tryd.func27 (by kernel_rfl) rfl #[.slice A0 l0.length c0] rfl (by (try simp only [List.map_toArray, List.map_cons, List.map_nil]); first | done | rfl | (simp only [List.length_drop, List.length_take]; rfl)) ?_; (with_reducible refine (spec_DrawTurnBetween.calls _ _ l0 t287 t288 _ ?side1 ?side2 A59.out).mono ?_); (case side1 => repeat (first | exact (Kd.C_below HR0.out HB.out) | (with_reducible refine Kd.C_alloc ?_ _) | (with_reducible refine Kd.C_drewN ?_ _) | (with_reducible refine Kd.C_drew ?_))); (case side2 => exact HC0.out); rintro e w78 ⟨rfl, hb⟩; refine ⟨_, rfl, ?_⟩; have n0_ := Aside0.mk (below_step (by repeat (first | (with_reducible first | exact HB.out | apply below_alloc | apply pw_below_drewN | apply below_drew1) | exact HB.out)) hb); clear HB; have HB := n0_; clear n0_; (try clear hb); (try clear hb2); (try clear hk); (try clear hi)) | ((with_reducible refine gate_callee (f := 28) rfl ?_); refine goesL_ (some 249) rfl rfl Tryd.func28 (by kernel_rfl) rfl #[.int .i64 t287, .int .i64 t288] rfl (by (try simp only [List.map_toArray, List.map_cons, List.map_nil]); first | done | rfl | (simp only [List.length_drop, List.length_take]; rfl)) ?_; (with_reducible refine (impl_TurnBetween.calls t287 t288 t289 t290 _ A60.out).mono ?_); rintro e w79 ⟨rfl, hb⟩; refine ⟨_, rfl, ?_⟩; have n0_ := Aside0.mk (below_step (by repeat (first | (with_reducible first | exact HB.out | apply below_alloc | apply pw_below_drewN | apply below_drew1) | exact HB.out)) hb); clear HB; have HB := n0_; clear n0_; (try clear hb); (try clear hb2); (try clear hk); (try clear hi)) | ((with_reducible refine gate_callee (f := 28) rfl ?_); refine goesL_ (some 255) rfl rfl Tryd.func28 (by kernel_rfl) rfl #[.int .i64 t288, .int .i64 t287] rfl (by (try simp only [List.map_toArray, List.map_cons, List.map_nil]); first | done | rfl | (simp only [List.length_drop, List.length_take]; rfl)) ?_; (with_reducible refine (impl_TurnBetween.calls t288 t287 t291 t292 _ A61.out).mono ?_); rintro e w80 ⟨rfl, hb⟩; refine ⟨_, rfl, ?_⟩; have n0_ := Aside0.mk (below_step (by repeat (first | (with_reducible first | exact HB.out | apply below_alloc | apply pw_below_drewN | apply below_drew1) | exact HB.out)) hb); clear HB; have HB := n0_; clear n0_; (try clear hb); (try clear hb2); (try clear hk); (try clear hi)) | ((with_reducible refine gate_callee (f := 29) rfl ?_); refine goesL_ (some 261) rfl rfl Tryd.func29 (by kernel_rfl) rfl #[.int .i64 t287, .int .i64 t288] rfl (by (try simp only [List.map_toArray, List.map_cons, List.map_nil]); first | done | rfl | (simp only [List.length_drop, List.length_take]; rfl)) ?_; (with_reducible refine (spec_TurnBetween.calls t287 t288 t293 t294 _ A62.out).mono ?_); rintro e w' ⟨rfl, ⟨nd, rfl⟩⟩; refine ⟨_, rfl, ?_⟩))
                                            go_ret
                                            exact ⟨by first | rfl | (simp [errW_none, errW_some] <;> rfl) | (simp [*, errW_none, errW_some] <;> rfl), by repeat (first | (with_reducible first | exact HB.out | apply below_alloc | apply pw_below_drewN | apply below_drew1) | exact HB.out)⟩
                                        · rw [if_neg c65] at H
                                          have c65b0 : (t292 == t290) = false := by simpa using c65
                                          (try (have c65b1 : decide (t292 = t290) = false := by simpa using c65))
                                          (try (have c65b2 : (t292 == t290) = false := by simpa using c65))
                                          (try (have c65b3 : ¬ (t292 = t290) := by simpa using c65))
                                          clear c65
                                          obtain rfl := Option.some.inj H
                                          go_wp2_with (first | ((with_reducible refine gate_callee (f := 27) rfl ?_); refine goesL_ (some 243) rfl rfl Tryd.func27 (by kernel_rfl) rfl #[.slice A0 l0.length c0] rfl (by (try simp only [List.map_toArray, List.map_cons, List.map_nil]); first | done | rfl | (simp only [List.length_drop, List.length_take]; rfl)) ?_; (with_reducible refine (spec_DrawTurnBetween.calls _ _ l0 t287 t288 _ ?side1 ?side2 A59.out).mono ?_); (case side1 => repeat (first | exact (Kd.C_below HR0.out HB.out) | (with_reducible refine Kd.C_alloc ?_ _) | (with_reducible refine Kd.C_drewN ?_ _) | (with_reducible refine Kd.C_drew ?_))); (case side2 => exact HC0.out); rintro e w81 ⟨rfl, hb⟩; refine ⟨_, rfl, ?_⟩; have n0_ := Aside0.mk (below_step (by repeat (first | (with_reducible first | exact HB.out | apply below_alloc | apply pw_below_drewN | apply below_drew1) | exact HB.out)) hb); clear HB; have HB := n0_; clear n0_; (try clear hb); (try clear hb2); (try clear hk); (try clear hi)) | ((with_reducible refine gate_callee (f := 28) rfl ?_); refine goesL_ (some 249) rfl rfl Tryd.func28 (by kernel_rfl) rfl #[.int .i64 t287, .int .i64 t288] rfl (by (try simp only [List.map_toArray, List.map_cons, List.map_nil]); first | done | rfl | (simp only [List.length_drop, List.length_take]; rfl)) ?_; (with_reducible refine (impl_TurnBetween.calls t287 t288 t289 t290 _ A60.out).mono ?_); rintro e w82 ⟨rfl, hb⟩; refine ⟨_, rfl, ?_⟩; have n0_ := Aside0.mk (below_step (by repeat (first | (with_reducible first | exact HB.out | apply below_alloc | apply pw_below_drewN | apply below_drew1) | exact HB.out)) hb); clear HB; have HB := n0_; clear n0_; (try clear hb); (try clear hb2); (try clear hk); (try clear hi)) | ((with_reducible refine gate_callee (f := 28) rfl ?_); refine goesL_ (some 255) rfl rfl Tryd.func28 (by kernel_rfl) rfl #[.int .i64 t288, .int .i64 t287] rfl (by (try simp only [List.map_toArray, List.map_cons, List.map_nil]); first | done | rfl | (simp only [List.length_drop, List.length_take]; rfl)) ?_; (with_reducible refine (impl_TurnBetween.calls t288 t287 t291 t292 _ A61.out).mono ?_); rintro e w83 ⟨rfl, hb⟩; refine ⟨_, rfl, ?_⟩; have n0_ := Aside0.mk (below_step (by repeat (first | (with_reducible first | exact HB.out | apply below_alloc | apply pw_below_drewN | apply below_drew1) | exact HB.out)) hb); clear HB; have HB := n0_; clear n0_; (try clear hb); (try clear hb2); (try clear hk); (try clear hi)) | ((with_reducible refine gate_callee (f := 29) rfl ?_); refine goesL_ (some 261) rfl rfl Tryd.func29 (by kernel_rfl) rfl #[.int .i64 t287, .int .i64 t288] rfl (by (try simp only [List.map_toArray, List.map_cons, List.map_nil]); first | done | rfl | (simp only [List.length_drop, List.length_take]; rfl)) ?_; (with_reducible refine (spec_TurnBetween.calls t287 t288 t293 t294 _ A62.out).mono ?_); rintro e w' ⟨rfl, ⟨nd, rfl⟩⟩; refine ⟨_, rfl, ?_⟩))
                                          go_ret
                                          exact ⟨by first | rfl | (simp [errW_none, errW_some] <;> rfl) | (simp [*, errW_none, errW_some] <;> rfl), by repeat (first | (with_reducible first | exact HB.out | apply below_alloc | apply pw_below_drewN | apply below_drew1) | exact HB.out)⟩
                                      · rw [if_neg c64] at H
                                        have c64b0 : (t290 == t294) = false := by simpa using c64
                                        (try (have c64b1 : decide (t290 = t294) = false := by simpa using c64))
                                        (try (have c64b2 : (t290 == t294) = false := by simpa using c64))
                                        (try (have c64b3 : ¬ (t290 = t294) := by simpa using c64))
                                        clear c64
                                        obtain rfl := Option.some.inj H
                                        go_wp2_with (first | ((with_reducible refine gate_callee (f := 27) rfl ?_); refine goesL_ (some 243) rfl rfl Tryd.func27 (by kernel_rfl) rfl #[.slice A0 l0.length c0] rfl (by (try simp only [List.map_toArray, List.map_cons, List.map_nil]); first | done | rfl | (simp only [List.length_drop, List.length_take]; rfl)) ?_; (with_reducible refine (spec_DrawTurnBetween.calls _ _ l0 t287 t288 _ ?side1 ?side2 A59.out).mono ?_); (case side1 => repeat (first | exact (Kd.C_below HR0.out HB.out) | (with_reducible refine Kd.C_alloc ?_ _) | (with_reducible refine Kd.C_drewN ?_ _) | (with_reducible refine Kd.C_drew ?_))); (case side2 => exact HC0.out); rintro e w84 ⟨rfl, hb⟩; refine ⟨_, rfl, ?_⟩; have n0_ := Aside0.mk (below_step (by repeat (first | (with_reducible first | exact HB.out | apply below_alloc | apply pw_below_drewN | apply below_drew1) | exact HB.out)) hb); clear HB; have HB := n0_; clear n0_; (try clear hb); (try clear hb2); (try clear hk); (try clear hi)) | ((with_reducible refine gate_callee (f := 28) rfl ?_); refine goesL_ (some 249) rfl rfl Tryd.func28 (by kernel_rfl) rfl #[.int .i64 t287, .int .i64 t288] rfl (by (try simp only [List.map_toArray, List.map_cons, List.map_nil]); first | done | rfl | (simp only [List.length_drop, List.length_take]; rfl)) ?_; (with_reducible refine (impl_TurnBetween.calls t287 t288 t289 t290 _ A60.out).mono ?_); rintro e w85 ⟨rfl, hb⟩; refine ⟨_, rfl, ?_⟩; have n0_ := Aside0.mk (below_step (by repeat (first | (with_reducible first | exact HB.out | apply below_alloc | apply pw_below_drewN | apply below_drew1) | exact HB.out)) hb); clear HB; have HB := n0_; clear n0_; (try clear hb); (try clear hb2); (try clear hk); (try clear hi)) | ((with_reducible refine gate_callee (f := 28) rfl ?_); refine goesL_ (some 255) rfl rfl Tryd.func28 (by kernel_rfl) rfl #[.int .i64 t288, .int .i64 t287] rfl (by (try simp only [List.map_toArray, List.map_cons, List.map_nil]); first | done | rfl | (simp only [List.length_drop, List.length_take]; rfl)) ?_; (with_reducible refine (impl_TurnBetween.calls t288 t287 t291 t292 _ A61.out).mono ?_); rintro e w86 ⟨rfl, hb⟩; refine ⟨_, rfl, ?_⟩; have n0_ := Aside0.mk (below_step (by repeat (first | (with_reducible first | exact HB.out | apply below_alloc | apply pw_below_drewN | apply below_drew1) | exact HB.out)) hb); clear HB; have HB := n0_; clear n0_; (try clear hb); (try clear hb2); (try clear hk); (try clear hi)) | ((with_reducible refine gate_callee (f := 29) rfl ?_); refine goesL_ (some 261) rfl rfl Tryd.func29 (by kernel_rfl) rfl #[.int .i64 t287, .int .i64 t288] rfl (by (try simp only [List.map_toArray, List.map_cons, List.map_nil]); first | done | rfl | (simp only [List.length_drop, List.length_take]; rfl)) ?_; (with_reducible refine (spec_TurnBetween.calls t287 t288 t293 t294 _ A62.out).mono ?_); rintro e w' ⟨rfl, ⟨nd, rfl⟩⟩; refine ⟨_, rfl, ?_⟩))
                                        go_ret
                                        exact ⟨by first | rfl | (simp [errW_none, errW_some] <;> rfl) | (simp [*, errW_none, errW_some] <;> rfl), by repeat (first | (with_reducible first | exact HB.out | apply below_alloc | apply pw_below_drewN | apply below_drew1) | exact HB.out)⟩
                                    · rw [if_neg c63] at H
                                      have c63b0 : (t289 == t293) = false := beq_eq_false_iff_ne.mpr c63
                                      have c63b1 : (t289 != t293) = true := bne_iff_ne.mpr c63
                                      obtain rfl := Option.some.inj H
                                      go_wp2_with (first | ((with_reducible refine gate_callee (f := 27) rfl ?_); refine goesL_ (some 243) rfl rfl Tryd.func27 (by kernel_rfl) rfl #[.slice A0 l0.length c0] rfl (by (try simp only [List.map_toArray, List.map_cons, List.map_nil]); first | done | rfl | (simp only [List.length_drop, List.length_take]; rfl)) ?_; (with_reducible refine (spec_DrawTurnBetween.calls _ _ l0 t287 t288 _ ?side1 ?side2 A59.out).mono ?_); (case side1 => repeat (first | exact (Kd.C_below HR0.out HB.out) | (with_reducible refine Kd.C_alloc ?_ _) | (with_reducible refine Kd.C_drewN ?_ _) | (with_reducible refine Kd.C_drew ?_))); (case side2 => exact HC0.out); rintro e w87 ⟨rfl, hb⟩; refine ⟨_, rfl, ?_⟩; have n0_ := Aside0.mk (below_step (by repeat (first | (with_reducible first | exact HB.out | apply below_alloc | apply pw_below_drewN | apply below_drew1) | exact HB.out)) hb); clear HB; have HB := n0_; clear n0_; (try clear hb); (try clear hb2); (try clear hk); (try clear hi)) | ((with_reducible refine gate_callee (f := 28) rfl ?_); refine goesL_ (some 249) rfl rfl Tryd.func28 (by kernel_rfl) rfl #[.int .i64 t287, .int .i64 t288] rfl (by (try simp only [List.map_toArray, List.map_cons, List.map_nil]); first | done | rfl | (simp only [List.length_drop, List.length_take]; rfl)) ?_; (with_reducible refine (impl_TurnBetween.calls t287 t288 t289 t290 _ A60.out).mono ?_); rintro e w88 ⟨rfl, hb⟩; refine ⟨_, rfl, ?_⟩; have n0_ := Aside0.mk (below_step (by repeat (first | (with_reducible first | exact HB.out | apply below_alloc | apply pw_below_drewN | apply below_drew1) | exact HB.out)) hb); clear HB; have HB := n0_; clear n0_; (try clear hb); (try clear hb2); (try clear hk); (try clear hi)) | ((with_reducible refine gate_callee (f := 28) rfl ?_); refine goesL_ (some 255) rfl rfl Tryd.func28 (by kernel_rfl) rfl #[.int .i64 t288, .int .i64 t287] rfl (by (try simp only [List.map_toArray, List.map_cons, List.map_nil]); first | done | rfl | (simp only [List.length_drop, List.length_take]; rfl)) ?_; (with_reducible refine (impl_TurnBetween.calls t288 t287 t291 t292 _ A61.out).mono ?_); rintro e w89 ⟨rfl, hb⟩; refine ⟨_, rfl, ?_⟩; have n0_ := Aside0.mk (below_step (by repeat (first | (with_reducible first | exact HB.out | apply below_alloc | apply pw_below_drewN | apply below_drew1) | exact HB.out)) hb); clear HB; have HB := n0_; clear n0_; (try clear hb); (try clear hb2); (try clear hk); (try clear hi)) | ((with_reducible refine gate_callee (f := 29) rfl ?_); refine goesL_ (some 261) rfl rfl Tryd.func29 (by kernel_rfl) rfl #[.int .i64 t287, .int .i64 t288] rfl (by (try simp only [List.map_toArray, List.map_cons, List.map_nil]); first | done | rfl | (simp only [List.length_drop, List.length_take]; rfl)) ?_; (with_reducible refine (spec_TurnBetween.calls t287 t288 t293 t294 _ A62.out).mono ?_); rintro e w' ⟨rfl, ⟨nd, rfl⟩⟩; refine ⟨_, rfl, ?_⟩))
                                      go_ret
                                      exact ⟨by first | rfl | (simp [errW_none, errW_some] <;> rfl) | (simp [*, errW_none, errW_some] <;> rfl), by repeat (first | (with_reducible first | exact HB.out | apply below_alloc | apply pw_below_drewN | apply below_drew1) | exact HB.out)⟩

end Go.Proofs.YtphbgedmdohlnaaDoor.XFnAngles
