/- Contracts of the functions that the law FnBearings comes to: each is told as a plain function of its arguments, and the machine's call does what that function says; no condition. Written by programs (print.py, xprint.py); Lean checks it. -/
import Derived.Test.YtphbgedmdohlnaaDoorXFnBearingsx0
import Derived.Test.YtphbgedmdohlnaaDoorXFnBearingsx1
import Derived.Test.YtphbgedmdohlnaaDoorXFnBearingsx2
import Derived.Test.YtphbgedmdohlnaaDoorXFnBearingsx3
import Derived.Test.YtphbgedmdohlnaaDoorXFnBearingsx4
namespace Go.Proofs.YtphbgedmdohlnaaDoor.XFnBearings
open Go.RowKit Go.Proofs.YtphbgedmdohlnaaDoorW.PrintWords Go.Proofs.YtphbgedmdohlnaaDoorW.PrintLast Go.Proofs.YtphbgedmdohlnaaDoorW.PrintMore
attribute [local go_sem] max2_int min2_int max_two min_two max_three min_three max_four min_four   -- for this text's walks alone
set_option linter.unusedVariables false
set_option linter.unusedSimpArgs false

/-! ### laws_FnBearings: function 9 -/
mutual
def laws_FnBearings.j0 : Nat → List Int → Int → Int → Bool → Bool → Option (Bool)
  | 0, _, _, _, _, _ => none
  | k + 1, x0, x3, x4, x5, x63 => if x63 = true then (some false) else (if x5 = true then ((impl_BackBearing.f x4).bind fun bt251 => ((impl_TurnBetween.f x3 x4).bind fun bt253 => (if bt251.2 = true then (if bt251.1 = x3 then (if bt253.2 = true then (if bt253.1 = 180 then (laws_FnBearings.j1 k x0) else (some false)) else (some false)) else (some false)) else (some false)))) else (laws_FnBearings.j1 k x0))
def laws_FnBearings.j1 : Nat → List Int → Option (Bool)
  | 0, _ => none
  | k + 1, x0 => (spec_DrawBearingTo.f x0).bind fun bt255 => ((impl_BearingTo.f k bt255.1 bt255.2).bind fun bt257 => ((spec_BearingTo.f k bt255.1 bt255.2).bind fun bt259 => (if bt257.1 = bt259.1 then (laws_FnBearings.j2 k x0 bt255.1 bt255.2 bt257.1 bt257.2 (bt257.2 != bt259.2)) else (laws_FnBearings.j2 k x0 bt255.1 bt255.2 bt257.1 bt257.2 true))))
def laws_FnBearings.j2 : Nat → List Int → Int → Int → Int → Bool → Bool → Option (Bool)
  | 0, _, _, _, _, _, _ => none
  | k + 1, x0, x12, x13, x14, x15, x115 => if x115 = true then (some false) else (if x15 = true then ((impl_SineOf.f x14).bind fun bt261 => ((impl_CosineOf.f x14).bind fun bt263 => (laws_FnBearings.l0 k x0 x12 x13 bt261.1 bt261.2 bt263.1 bt263.2 0))) else (laws_FnBearings.j4 k x0))
def laws_FnBearings.j4 : Nat → List Int → Option (Bool)
  | 0, _ => none
  | k + 1, x0 => (spec_DrawSlopeTo.f x0).bind fun bt269 => ((impl_SlopeTo.f k bt269.1 bt269.2).bind fun bt271 => ((spec_SlopeTo.f k bt269.1 bt269.2).bind fun bt273 => (if bt271.1 = bt273.1 then (laws_FnBearings.j5 k x0 bt269.1 bt269.2 bt271.1 bt271.2 (bt271.2 != bt273.2)) else (laws_FnBearings.j5 k x0 bt269.1 bt269.2 bt271.1 bt271.2 true))))
def laws_FnBearings.j5 : Nat → List Int → Int → Int → Int → Bool → Bool → Option (Bool)
  | 0, _, _, _, _, _, _ => none
  | k + 1, x0, x27, x28, x29, x30, x196 => if x196 = true then (some false) else (if x30 = true then ((impl_SlopeTo.f k x27 (wrap64 (-x28))).bind fun bt275 => (if bt275.2 = true then (if x27 > 0 then (if bt275.1 = (wrap64 (-x29)) then (if x29 < (-90) then (some false) else (if x29 > 90 then (some false) else (laws_FnBearings.j6 k x0))) else (some false)) else (if x29 < (-90) then (some false) else (if x29 > 90 then (some false) else (laws_FnBearings.j6 k x0)))) else (some false))) else (laws_FnBearings.j6 k x0))
def laws_FnBearings.j6 : Nat → List Int → Option (Bool)
  | 0, _ => none
  | k + 1, x0 => (spec_DrawLengthOf.f x0).bind fun bt277 => ((impl_LengthOf.f k bt277.1 bt277.2.1 bt277.2.2).bind fun bt280 => ((spec_LengthOf.f k bt277.1 bt277.2.1 bt277.2.2).bind fun bt282 => (if bt280.1 = bt282.1 then (if (bt280.2 != bt282.2) = true then (some false) else (if bt280.2 = true then (if (wrap64 (bt280.1 * bt280.1)) ≤ (wrap64 ((wrap64 ((wrap64 (bt277.1 * bt277.1)) + (wrap64 (bt277.2.1 * bt277.2.1)))) + (wrap64 (bt277.2.2 * bt277.2.2)))) then (some (decide ((wrap64 ((wrap64 (bt280.1 + 1)) * (wrap64 (bt280.1 + 1)))) > (wrap64 ((wrap64 ((wrap64 (bt277.1 * bt277.1)) + (wrap64 (bt277.2.1 * bt277.2.1)))) + (wrap64 (bt277.2.2 * bt277.2.2))))))) else (some false)) else (some true))) else (some false))))
def laws_FnBearings.l0 : Nat → List Int → Int → Int → Int → Bool → Int → Bool → Int → Option (Bool)
  | 0, _, _, _, _, _, _, _, _ => none
  | k + 1, x0, x12, x13, x18, x19, x20, x21, x22 => if x22 < 360 then ((impl_SineOf.f x22).bind fun bt265 => ((impl_CosineOf.f x22).bind fun bt267 => (if x19 = true then (if x21 = true then (if bt265.2 = true then (if bt267.2 = true then (if (wrap64 ((wrap64 (x12 * bt265.1)) + (wrap64 (x13 * bt267.1)))) > (wrap64 ((wrap64 (x12 * x18)) + (wrap64 (x13 * x20)))) then (some false) else (laws_FnBearings.l0 k x0 x12 x13 x18 x19 x20 x21 (wrap64 (x22 + 15)))) else (some false)) else (some false)) else (some false)) else (some false)))) else (laws_FnBearings.j4 k x0)
end
def laws_FnBearings.f (k : Nat) (l0 : List Int) : Option (Bool) := (laws_vBig.f l0).bind fun t245 => (if t245 = true then (some true) else ((spec_DrawBackBearing.f l0).bind fun t246 => ((impl_BackBearing.f t246).bind fun bt247 => ((spec_BackBearing.f t246).bind fun bt249 => (if bt247.1 = bt249.1 then (laws_FnBearings.j0 k l0 t246 bt247.1 bt247.2 (bt247.2 != bt249.2)) else (laws_FnBearings.j0 k l0 t246 bt247.1 bt247.2 true))))))
theorem laws_FnBearings.mono_l : ∀ k, (∀ y0 y1 y2 y3 y4, LeO (laws_FnBearings.j0 k y0 y1 y2 y3 y4) (laws_FnBearings.j0 (k + 1) y0 y1 y2 y3 y4)) ∧ (∀ y0, LeO (laws_FnBearings.j1 k y0) (laws_FnBearings.j1 (k + 1) y0)) ∧ (∀ y0 y1 y2 y3 y4 y5, LeO (laws_FnBearings.j2 k y0 y1 y2 y3 y4 y5) (laws_FnBearings.j2 (k + 1) y0 y1 y2 y3 y4 y5)) ∧ (∀ y0, LeO (laws_FnBearings.j4 k y0) (laws_FnBearings.j4 (k + 1) y0)) ∧ (∀ y0 y1 y2 y3 y4 y5, LeO (laws_FnBearings.j5 k y0 y1 y2 y3 y4 y5) (laws_FnBearings.j5 (k + 1) y0 y1 y2 y3 y4 y5)) ∧ (∀ y0, LeO (laws_FnBearings.j6 k y0) (laws_FnBearings.j6 (k + 1) y0)) ∧ (∀ y0 y1 y2 y3 y4 y5 y6 y7, LeO (laws_FnBearings.l0 k y0 y1 y2 y3 y4 y5 y6 y7) (laws_FnBearings.l0 (k + 1) y0 y1 y2 y3 y4 y5 y6 y7))
  | 0 => ⟨fun _ _ _ _ _ r h => by simp [laws_FnBearings.j0] at h, fun _ r h => by simp [laws_FnBearings.j1] at h, fun _ _ _ _ _ _ r h => by simp [laws_FnBearings.j2] at h, fun _ r h => by simp [laws_FnBearings.j4] at h, fun _ _ _ _ _ _ r h => by simp [laws_FnBearings.j5] at h, fun _ r h => by simp [laws_FnBearings.j6] at h, fun _ _ _ _ _ _ _ _ r h => by simp [laws_FnBearings.l0] at h⟩
  | k + 1 => by
    obtain ⟨ih0, ih1, ih2, ih3, ih4, ih5, ih6⟩ := laws_FnBearings.mono_l k
    refine ⟨?_, ?_, ?_, ?_, ?_, ?_, ?_⟩
    · intro y0 y1 y2 y3 y4
      unfold laws_FnBearings.j0
      repeat' first
      | (with_reducible exact ih0 _ _ _ _ _)
      | (with_reducible exact ih1 _)
      | (with_reducible exact ih2 _ _ _ _ _ _)
      | (with_reducible exact ih3 _)
      | (with_reducible exact ih4 _ _ _ _ _ _)
      | (with_reducible exact ih5 _)
      | (with_reducible exact ih6 _ _ _ _ _ _ _ _)
      | (with_reducible exact impl_BearingTo.mono _ _ _)
      | (with_reducible exact impl_LengthOf.mono _ _ _ _)
      | (with_reducible exact impl_SlopeTo.mono _ _ _)
      | (with_reducible exact spec_BearingTo.mono _ _ _)
      | (with_reducible exact spec_LengthOf.mono _ _ _ _)
      | (with_reducible exact spec_SlopeTo.mono _ _ _)
      | (with_reducible exact LeO.refl _)
      | (with_reducible exact LeO.none _)
      | (with_reducible refine LeO.ite ?_ ?_)
      | (with_reducible refine LeO.bind ?_ (fun _ => ?_))
      | exact ih0 _ _ _ _ _
      | exact ih1 _
      | exact ih2 _ _ _ _ _ _
      | exact ih3 _
      | exact ih4 _ _ _ _ _ _
      | exact ih5 _
      | exact ih6 _ _ _ _ _ _ _ _
      | exact impl_BearingTo.mono _ _ _
      | exact impl_LengthOf.mono _ _ _ _
      | exact impl_SlopeTo.mono _ _ _
      | exact spec_BearingTo.mono _ _ _
      | exact spec_LengthOf.mono _ _ _ _
      | exact spec_SlopeTo.mono _ _ _
      | exact LeO.none _
      | refine LeO.ite ?_ ?_
      | refine LeO.bind ?_ (fun _ => ?_)
    · intro y0
      unfold laws_FnBearings.j1
      repeat' first
      | (with_reducible exact ih0 _ _ _ _ _)
      | (with_reducible exact ih1 _)
      | (with_reducible exact ih2 _ _ _ _ _ _)
      | (with_reducible exact ih3 _)
      | (with_reducible exact ih4 _ _ _ _ _ _)
      | (with_reducible exact ih5 _)
      | (with_reducible exact ih6 _ _ _ _ _ _ _ _)
      | (with_reducible exact impl_BearingTo.mono _ _ _)
      | (with_reducible exact impl_LengthOf.mono _ _ _ _)
      | (with_reducible exact impl_SlopeTo.mono _ _ _)
      | (with_reducible exact spec_BearingTo.mono _ _ _)
      | (with_reducible exact spec_LengthOf.mono _ _ _ _)
      | (with_reducible exact spec_SlopeTo.mono _ _ _)
      | (with_reducible exact LeO.refl _)
      | (with_reducible exact LeO.none _)
      | (with_reducible refine LeO.ite ?_ ?_)
      | (with_reducible refine LeO.bind ?_ (fun _ => ?_))
      | exact ih0 _ _ _ _ _
      | exact ih1 _
      | exact ih2 _ _ _ _ _ _
      | exact ih3 _
      | exact ih4 _ _ _ _ _ _
      | exact ih5 _
      | exact ih6 _ _ _ _ _ _ _ _
      | exact impl_BearingTo.mono _ _ _
      | exact impl_LengthOf.mono _ _ _ _
      | exact impl_SlopeTo.mono _ _ _
      | exact spec_BearingTo.mono _ _ _
      | exact spec_LengthOf.mono _ _ _ _
      | exact spec_SlopeTo.mono _ _ _
      | exact LeO.none _
      | refine LeO.ite ?_ ?_
      | refine LeO.bind ?_ (fun _ => ?_)
    · intro y0 y1 y2 y3 y4 y5
      unfold laws_FnBearings.j2
      repeat' first
      | (with_reducible exact ih0 _ _ _ _ _)
      | (with_reducible exact ih1 _)
      | (with_reducible exact ih2 _ _ _ _ _ _)
      | (with_reducible exact ih3 _)
      | (with_reducible exact ih4 _ _ _ _ _ _)
      | (with_reducible exact ih5 _)
      | (with_reducible exact ih6 _ _ _ _ _ _ _ _)
      | (with_reducible exact impl_BearingTo.mono _ _ _)
      | (with_reducible exact impl_LengthOf.mono _ _ _ _)
      | (with_reducible exact impl_SlopeTo.mono _ _ _)
      | (with_reducible exact spec_BearingTo.mono _ _ _)
      | (with_reducible exact spec_LengthOf.mono _ _ _ _)
      | (with_reducible exact spec_SlopeTo.mono _ _ _)
      | (with_reducible exact LeO.refl _)
      | (with_reducible exact LeO.none _)
      | (with_reducible refine LeO.ite ?_ ?_)
      | (with_reducible refine LeO.bind ?_ (fun _ => ?_))
      | exact ih0 _ _ _ _ _
      | exact ih1 _
      | exact ih2 _ _ _ _ _ _
      | exact ih3 _
      | exact ih4 _ _ _ _ _ _
      | exact ih5 _
      | exact ih6 _ _ _ _ _ _ _ _
      | exact impl_BearingTo.mono _ _ _
      | exact impl_LengthOf.mono _ _ _ _
      | exact impl_SlopeTo.mono _ _ _
      | exact spec_BearingTo.mono _ _ _
      | exact spec_LengthOf.mono _ _ _ _
      | exact spec_SlopeTo.mono _ _ _
      | exact LeO.none _
      | refine LeO.ite ?_ ?_
      | refine LeO.bind ?_ (fun _ => ?_)
    · intro y0
      unfold laws_FnBearings.j4
      repeat' first
      | (with_reducible exact ih0 _ _ _ _ _)
      | (with_reducible exact ih1 _)
      | (with_reducible exact ih2 _ _ _ _ _ _)
      | (with_reducible exact ih3 _)
      | (with_reducible exact ih4 _ _ _ _ _ _)
      | (with_reducible exact ih5 _)
      | (with_reducible exact ih6 _ _ _ _ _ _ _ _)
      | (with_reducible exact impl_BearingTo.mono _ _ _)
      | (with_reducible exact impl_LengthOf.mono _ _ _ _)
      | (with_reducible exact impl_SlopeTo.mono _ _ _)
      | (with_reducible exact spec_BearingTo.mono _ _ _)
      | (with_reducible exact spec_LengthOf.mono _ _ _ _)
      | (with_reducible exact spec_SlopeTo.mono _ _ _)
      | (with_reducible exact LeO.refl _)
      | (with_reducible exact LeO.none _)
      | (with_reducible refine LeO.ite ?_ ?_)
      | (with_reducible refine LeO.bind ?_ (fun _ => ?_))
      | exact ih0 _ _ _ _ _
      | exact ih1 _
      | exact ih2 _ _ _ _ _ _
      | exact ih3 _
      | exact ih4 _ _ _ _ _ _
      | exact ih5 _
      | exact ih6 _ _ _ _ _ _ _ _
      | exact impl_BearingTo.mono _ _ _
      | exact impl_LengthOf.mono _ _ _ _
      | exact impl_SlopeTo.mono _ _ _
      | exact spec_BearingTo.mono _ _ _
      | exact spec_LengthOf.mono _ _ _ _
      | exact spec_SlopeTo.mono _ _ _
      | exact LeO.none _
      | refine LeO.ite ?_ ?_
      | refine LeO.bind ?_ (fun _ => ?_)
    · intro y0 y1 y2 y3 y4 y5
      unfold laws_FnBearings.j5
      repeat' first
      | (with_reducible exact ih0 _ _ _ _ _)
      | (with_reducible exact ih1 _)
      | (with_reducible exact ih2 _ _ _ _ _ _)
      | (with_reducible exact ih3 _)
      | (with_reducible exact ih4 _ _ _ _ _ _)
      | (with_reducible exact ih5 _)
      | (with_reducible exact ih6 _ _ _ _ _ _ _ _)
      | (with_reducible exact impl_BearingTo.mono _ _ _)
      | (with_reducible exact impl_LengthOf.mono _ _ _ _)
      | (with_reducible exact impl_SlopeTo.mono _ _ _)
      | (with_reducible exact spec_BearingTo.mono _ _ _)
      | (with_reducible exact spec_LengthOf.mono _ _ _ _)
      | (with_reducible exact spec_SlopeTo.mono _ _ _)
      | (with_reducible exact LeO.refl _)
      | (with_reducible exact LeO.none _)
      | (with_reducible refine LeO.ite ?_ ?_)
      | (with_reducible refine LeO.bind ?_ (fun _ => ?_))
      | exact ih0 _ _ _ _ _
      | exact ih1 _
      | exact ih2 _ _ _ _ _ _
      | exact ih3 _
      | exact ih4 _ _ _ _ _ _
      | exact ih5 _
      | exact ih6 _ _ _ _ _ _ _ _
      | exact impl_BearingTo.mono _ _ _
      | exact impl_LengthOf.mono _ _ _ _
      | exact impl_SlopeTo.mono _ _ _
      | exact spec_BearingTo.mono _ _ _
      | exact spec_LengthOf.mono _ _ _ _
      | exact spec_SlopeTo.mono _ _ _
      | exact LeO.none _
      | refine LeO.ite ?_ ?_
      | refine LeO.bind ?_ (fun _ => ?_)
    · intro y0
      unfold laws_FnBearings.j6
      repeat' first
      | (with_reducible exact ih0 _ _ _ _ _)
      | (with_reducible exact ih1 _)
      | (with_reducible exact ih2 _ _ _ _ _ _)
      | (with_reducible exact ih3 _)
      | (with_reducible exact ih4 _ _ _ _ _ _)
      | (with_reducible exact ih5 _)
      | (with_reducible exact ih6 _ _ _ _ _ _ _ _)
      | (with_reducible exact impl_BearingTo.mono _ _ _)
      | (with_reducible exact impl_LengthOf.mono _ _ _ _)
      | (with_reducible exact impl_SlopeTo.mono _ _ _)
      | (with_reducible exact spec_BearingTo.mono _ _ _)
      | (with_reducible exact spec_LengthOf.mono _ _ _ _)
      | (with_reducible exact spec_SlopeTo.mono _ _ _)
      | (with_reducible exact LeO.refl _)
      | (with_reducible exact LeO.none _)
      | (with_reducible refine LeO.ite ?_ ?_)
      | (with_reducible refine LeO.bind ?_ (fun _ => ?_))
      | exact ih0 _ _ _ _ _
      | exact ih1 _
      | exact ih2 _ _ _ _ _ _
      | exact ih3 _
      | exact ih4 _ _ _ _ _ _
      | exact ih5 _
      | exact ih6 _ _ _ _ _ _ _ _
      | exact impl_BearingTo.mono _ _ _
      | exact impl_LengthOf.mono _ _ _ _
      | exact impl_SlopeTo.mono _ _ _
      | exact spec_BearingTo.mono _ _ _
      | exact spec_LengthOf.mono _ _ _ _
      | exact spec_SlopeTo.mono _ _ _
      | exact LeO.none _
      | refine LeO.ite ?_ ?_
      | refine LeO.bind ?_ (fun _ => ?_)
    · intro y0 y1 y2 y3 y4 y5 y6 y7
      unfold laws_FnBearings.l0
      repeat' first
      | (with_reducible exact ih0 _ _ _ _ _)
      | (with_reducible exact ih1 _)
      | (with_reducible exact ih2 _ _ _ _ _ _)
      | (with_reducible exact ih3 _)
      | (with_reducible exact ih4 _ _ _ _ _ _)
      | (with_reducible exact ih5 _)
      | (with_reducible exact ih6 _ _ _ _ _ _ _ _)
      | (with_reducible exact impl_BearingTo.mono _ _ _)
      | (with_reducible exact impl_LengthOf.mono _ _ _ _)
      | (with_reducible exact impl_SlopeTo.mono _ _ _)
      | (with_reducible exact spec_BearingTo.mono _ _ _)
      | (with_reducible exact spec_LengthOf.mono _ _ _ _)
      | (with_reducible exact spec_SlopeTo.mono _ _ _)
      | (with_reducible exact LeO.refl _)
      | (with_reducible exact LeO.none _)
      | (with_reducible refine LeO.ite ?_ ?_)
      | (with_reducible refine LeO.bind ?_ (fun _ => ?_))
      | exact ih0 _ _ _ _ _
      | exact ih1 _
      | exact ih2 _ _ _ _ _ _
      | exact ih3 _
      | exact ih4 _ _ _ _ _ _
      | exact ih5 _
      | exact ih6 _ _ _ _ _ _ _ _
      | exact impl_BearingTo.mono _ _ _
      | exact impl_LengthOf.mono _ _ _ _
      | exact impl_SlopeTo.mono _ _ _
      | exact spec_BearingTo.mono _ _ _
      | exact spec_LengthOf.mono _ _ _ _
      | exact spec_SlopeTo.mono _ _ _
      | exact LeO.none _
      | refine LeO.ite ?_ ?_
      | refine LeO.bind ?_ (fun _ => ?_)
theorem laws_FnBearings.mono : ∀ a0 k, LeO (laws_FnBearings.f k a0) (laws_FnBearings.f (k + 1) a0) := by
  intro a0 k
  obtain ⟨ih0, ih1, ih2, ih3, ih4, ih5, ih6⟩ := laws_FnBearings.mono_l k
  unfold laws_FnBearings.f
  repeat' first
      | (with_reducible exact ih0 _ _ _ _ _)
      | (with_reducible exact ih1 _)
      | (with_reducible exact ih2 _ _ _ _ _ _)
      | (with_reducible exact ih3 _)
      | (with_reducible exact ih4 _ _ _ _ _ _)
      | (with_reducible exact ih5 _)
      | (with_reducible exact ih6 _ _ _ _ _ _ _ _)
      | (with_reducible exact impl_BearingTo.mono _ _ _)
      | (with_reducible exact impl_LengthOf.mono _ _ _ _)
      | (with_reducible exact impl_SlopeTo.mono _ _ _)
      | (with_reducible exact spec_BearingTo.mono _ _ _)
      | (with_reducible exact spec_LengthOf.mono _ _ _ _)
      | (with_reducible exact spec_SlopeTo.mono _ _ _)
      | (with_reducible exact LeO.refl _)
      | (with_reducible exact LeO.none _)
      | (with_reducible refine LeO.ite ?_ ?_)
      | (with_reducible refine LeO.bind ?_ (fun _ => ?_))
      | exact ih0 _ _ _ _ _
      | exact ih1 _
      | exact ih2 _ _ _ _ _ _
      | exact ih3 _
      | exact ih4 _ _ _ _ _ _
      | exact ih5 _
      | exact ih6 _ _ _ _ _ _ _ _
      | exact impl_BearingTo.mono _ _ _
      | exact impl_LengthOf.mono _ _ _ _
      | exact impl_SlopeTo.mono _ _ _
      | exact spec_BearingTo.mono _ _ _
      | exact spec_LengthOf.mono _ _ _ _
      | exact spec_SlopeTo.mono _ _ _
      | exact LeO.none _
      | refine LeO.ite ?_ ?_
      | refine LeO.bind ?_ (fun _ => ?_)
set_option maxHeartbeats 8000000 in
set_option maxRecDepth 100000 in
theorem laws_FnBearings.calls (k : Nat) (A0 : Option Addr) (c0 : Nat) (l0 : List Int) (r : Bool) (w : World) (hT : Tab w) (hr0 : Kd.C (Kd.int .u8) w A0 l0.length l0) (hc0 : l0.length ≤ c0) (h : laws_FnBearings.f k l0 = some r) :
    Calls Tryd.prog 9 #[.slice A0 l0.length c0] w fun e w' => e = .returned (.bool r) ∧ Below w.heap.size w w' := by
  have HT := Aside0.mk hT
  clear hT
  have HR0 := Aside0.mk hr0
  have HC0 := Aside0.mk hc0
  clear hr0 hc0
  have HB := Aside0.mk (Below.refl w.heap.size w)
  have H : ((laws_vBig.f l0).bind fun t245 => (if t245 = true then (some true) else ((spec_DrawBackBearing.f l0).bind fun t246 => ((impl_BackBearing.f t246).bind fun bt247 => ((spec_BackBearing.f t246).bind fun bt249 => (if bt247.1 = bt249.1 then (laws_FnBearings.j0 k l0 t246 bt247.1 bt247.2 (bt247.2 != bt249.2)) else (laws_FnBearings.j0 k l0 t246 bt247.1 bt247.2 true))))))) = some r := h
  clear h
  replace H := Option.bind_eq_some_iff.mp H
  obtain ⟨t245, A20, H⟩ := H
  replace H : (if t245 = true then (some true) else ((spec_DrawBackBearing.f l0).bind fun t246 => ((impl_BackBearing.f t246).bind fun bt247 => ((spec_BackBearing.f t246).bind fun bt249 => (if bt247.1 = bt249.1 then (laws_FnBearings.j0 k l0 t246 bt247.1 bt247.2 (bt247.2 != bt249.2)) else (laws_FnBearings.j0 k l0 t246 bt247.1 bt247.2 true)))))) = some r := H
  have A2 := Aside0.mk A20
  clear A20
  by_cases c3 : t245 = true
  · subst c3
    have H1 : (some true) = some r := by rw [if_pos rfl] at H; exact H
    clear H
    have H := H1
    clear H1
    obtain rfl := Option.some.inj H
    go_enter Tryd.func9, Tryd.ntmps9
    go_wp2_with (first | ((with_reducible refine gate_callee (f := 20) rfl ?_); refine goesL_ (some 43) rfl rfl Tryd.func20 (by kernel_rfl) rfl #[.slice A0 l0.length c0] rfl (by (try simp only [List.map_toArray, List.map_cons, List.map_nil]); first | done | rfl | (simp only [List.length_drop, List.length_take]; rfl)) ?_; (with_reducible refine (laws_vBig.calls _ _ l0 true _ ?side1 ?side2 A2.out).mono ?_); (case side1 => repeat (first | exact HR0.out | (with_reducible refine Kd.C_alloc ?_ _) | (with_reducible refine Kd.C_drewN ?_ _) | (with_reducible refine Kd.C_drew ?_))); (case side2 => exact HC0.out); rintro e w' ⟨rfl, ⟨nd, rfl⟩⟩; refine ⟨_, rfl, ?_⟩))
    go_ret
    exact ⟨by first | rfl | (simp [errW_none, errW_some] <;> rfl) | (simp [*, errW_none, errW_some] <;> rfl), by repeat (first | (with_reducible first | exact HB.out | apply below_alloc | apply pw_below_drewN | apply below_drew1) | exact HB.out)⟩
  · replace c3 := Bool.eq_false_iff.mpr c3
    subst c3
    have H1 : ((spec_DrawBackBearing.f l0).bind fun t246 => ((impl_BackBearing.f t246).bind fun bt247 => ((spec_BackBearing.f t246).bind fun bt249 => (if bt247.1 = bt249.1 then (laws_FnBearings.j0 k l0 t246 bt247.1 bt247.2 (bt247.2 != bt249.2)) else (laws_FnBearings.j0 k l0 t246 bt247.1 bt247.2 true))))) = some r := by rw [if_neg (show ¬ (false = true) by decide)] at H; exact H
    clear H
    have H := H1
    clear H1
    replace H := Option.bind_eq_some_iff.mp H
    obtain ⟨t246, A40, H⟩ := H
    replace H : ((impl_BackBearing.f t246).bind fun bt247 => ((spec_BackBearing.f t246).bind fun bt249 => (if bt247.1 = bt249.1 then (laws_FnBearings.j0 k l0 t246 bt247.1 bt247.2 (bt247.2 != bt249.2)) else (laws_FnBearings.j0 k l0 t246 bt247.1 bt247.2 true)))) = some r := H
    have A4 := Aside0.mk A40
    clear A40
    replace H := Option.bind_eq_some_iff.mp H
    obtain ⟨⟨t247, t248⟩, A50, H⟩ := H
    replace H : ((spec_BackBearing.f t246).bind fun bt249 => (if t247 = bt249.1 then (laws_FnBearings.j0 k l0 t246 t247 t248 (t248 != bt249.2)) else (laws_FnBearings.j0 k l0 t246 t247 t248 true))) = some r := H
    have A5 := Aside0.mk A50
    clear A50
    replace H := Option.bind_eq_some_iff.mp H
    obtain ⟨⟨t249, t250⟩, A60, H⟩ := H
    replace H : (if t247 = t249 then (laws_FnBearings.j0 k l0 t246 t247 t248 (t248 != t250)) else (laws_FnBearings.j0 k l0 t246 t247 t248 true)) = some r := H
    have A6 := Aside0.mk A60
    clear A60
    have HC7 := Aside0.mk H
    clear H
    go_enter Tryd.func9, Tryd.ntmps9
    go_upto_region 6 with (first | ((with_reducible refine gate_callee (f := 20) rfl ?_); refine goesL_ (some 43) rfl rfl Tryd.func20 (by kernel_rfl) rfl #[.slice A0 l0.length c0] rfl (by (try simp only [List.map_toArray, List.map_cons, List.map_nil]); first | done | rfl | (simp only [List.length_drop, List.length_take]; rfl)) ?_; (with_reducible refine (laws_vBig.calls _ _ l0 false _ ?side1 ?side2 A2.out).mono ?_); (case side1 => repeat (first | exact HR0.out | (with_reducible refine Kd.C_alloc ?_ _) | (with_reducible refine Kd.C_drewN ?_ _) | (with_reducible refine Kd.C_drew ?_))); (case side2 => exact HC0.out); rintro e w' ⟨rfl, ⟨nd, rfl⟩⟩; refine ⟨_, rfl, ?_⟩) | ((with_reducible refine gate_callee (f := 30) rfl ?_); refine goesL_ (some 45) rfl rfl Tryd.func30 (by kernel_rfl) rfl #[.slice A0 l0.length c0] rfl (by (try simp only [List.map_toArray, List.map_cons, List.map_nil]); first | done | rfl | (simp only [List.length_drop, List.length_take]; rfl)) ?_; (with_reducible refine (spec_DrawBackBearing.calls _ _ l0 t246 _ ?side1 ?side2 A4.out).mono ?_); (case side1 => repeat (first | exact HR0.out | (with_reducible refine Kd.C_alloc ?_ _) | (with_reducible refine Kd.C_drewN ?_ _) | (with_reducible refine Kd.C_drew ?_))); (case side2 => exact HC0.out); rintro e w8 ⟨rfl, hb⟩; refine ⟨_, rfl, ?_⟩; have n0_ := Aside0.mk (below_step (by repeat (first | (with_reducible first | exact HB.out | apply below_alloc | apply pw_below_drewN | apply below_drew1) | exact HB.out)) hb); clear HB; have HB := n0_; clear n0_; (try clear hb); (try clear hb2); (try clear hk); (try clear hi)) | ((with_reducible refine gate_callee (f := 31) rfl ?_); refine goesL_ (some 48) rfl rfl Tryd.func31 (by kernel_rfl) rfl #[.int .i64 t246] rfl (by (try simp only [List.map_toArray, List.map_cons, List.map_nil]); first | done | rfl | (simp only [List.length_drop, List.length_take]; rfl)) ?_; (with_reducible refine (impl_BackBearing.calls t246 t247 t248 _ A5.out).mono ?_); rintro e w' ⟨rfl, ⟨nd, rfl⟩⟩; refine ⟨_, rfl, ?_⟩) | ((with_reducible refine gate_callee (f := 32) rfl ?_); refine goesL_ (some 53) rfl rfl Tryd.func32 (by kernel_rfl) rfl #[.int .i64 t246] rfl (by (try simp only [List.map_toArray, List.map_cons, List.map_nil]); first | done | rfl | (simp only [List.length_drop, List.length_take]; rfl)) ?_; (with_reducible refine (spec_BackBearing.calls t246 t249 t250 _ A6.out).mono ?_); rintro e w' ⟨rfl, ⟨nd, rfl⟩⟩; refine ⟨_, rfl, ?_⟩))
    (try simp only [Act.put, List.setIfInBounds_toArray, List.set_cons_zero, List.set_cons_succ])
    go_cut [63] (fun v63 wc => ∃ (kq : Nat) (x63_6 : Bool), v63 = .bool x63_6 ∧ Aside0 (laws_FnBearings.j0 kq l0 t246 t247 t248 x63_6 = some r) ∧ Aside0 (kq ≤ k) ∧ Aside0 (Below w.heap.size w wc))
    case first => as_aux_lemma =>
      have H := HC7.out
      clear HC7
      by_cases c9 : t247 = t249
      · rw [if_pos c9] at H
        have c9b0 : (t247 == t249) = true := beq_iff_eq.mpr c9
        have c9b1 : (t247 != t249) = false := bne_eq_false_iff_eq.mpr c9
        clear c9
        (first | rw [c9b0] | (simp only [i64_w, i32_w]; rw [c9b0]) | skip)
        have H' := Aside0.mk H
        clear H
        go_wp2
        go_meet
        case rel => exact ⟨_, ((t248 != t250)), (by first | rfl | (simp; done) | (simp [*]; done)), H', ⟨by first | omega | exact Nat.le_refl _⟩, ⟨by repeat (first | (with_reducible first | exact HB.out | apply below_alloc | apply pw_below_drewN | apply below_drew1) | exact HB.out)⟩⟩
      · rw [if_neg c9] at H
        have c9b0 : (t247 == t249) = false := beq_eq_false_iff_ne.mpr c9
        have c9b1 : (t247 != t249) = true := bne_iff_ne.mpr c9
        (first | rw [c9b0] | (simp only [i64_w, i32_w]; rw [c9b0]) | skip)
        have H' := Aside0.mk H
        clear H
        go_wp2
        go_meet
        case rel => exact ⟨_, (true), (by first | rfl | (simp; done) | (simp [*]; done)), H', ⟨by first | omega | exact Nat.le_refl _⟩, ⟨by repeat (first | (with_reducible first | exact HB.out | apply below_alloc | apply pw_below_drewN | apply below_drew1) | exact HB.out)⟩⟩
    case rest => as_aux_lemma =>
      clear HC7
      try clear c2
      try clear p2
      try clear c3
      try clear c9
      try clear c9b0
      try clear c9b1
      obtain ⟨kq, x63_6, rfl, HA, HJ6, HB⟩ := hcut
      cases kq with
      | zero => exact absurd HA.out (by simp [laws_FnBearings.j0])
      | succ kj6 =>
        have H := HA.out
        clear HA
        simp only [laws_FnBearings.j0] at H
        by_cases c10 : x63_6 = true
        · subst c10
          have H1 : (some false) = some r := by rw [if_pos rfl] at H; exact H
          clear H
          have H := H1
          clear H1
          obtain rfl := Option.some.inj H
          go_wp2
          go_ret
          exact ⟨by first | rfl | (simp [errW_none, errW_some] <;> rfl) | (simp [*, errW_none, errW_some] <;> rfl), by repeat (first | (with_reducible first | exact HB.out | apply below_alloc | apply pw_below_drewN | apply below_drew1) | exact HB.out)⟩
        · replace c10 := Bool.eq_false_iff.mpr c10
          subst c10
          have H1 : (if t248 = true then ((impl_BackBearing.f t247).bind fun bt251 => ((impl_TurnBetween.f t246 t247).bind fun bt253 => (if bt251.2 = true then (if bt251.1 = t246 then (if bt253.2 = true then (if bt253.1 = 180 then (laws_FnBearings.j1 kj6 l0) else (some false)) else (some false)) else (some false)) else (some false)))) else (laws_FnBearings.j1 kj6 l0)) = some r := by rw [if_neg (show ¬ (false = true) by decide)] at H; exact H
          clear H
          have H := H1
          clear H1
          have HC11 := Aside0.mk H
          clear H
          go_upto_if 64 with (fail)
          go_cut [] (fun wc => ∃ (kq : Nat), Aside0 (laws_FnBearings.j1 kq l0 = some r) ∧ Aside0 (kq ≤ kj6) ∧ Aside0 (Below w.heap.size w wc))
          case first => as_aux_lemma =>
            have H := HC11.out
            clear HC11
            by_cases c12 : t248 = true
            · subst c12
              have H1 : ((impl_BackBearing.f t247).bind fun bt251 => ((impl_TurnBetween.f t246 t247).bind fun bt253 => (if bt251.2 = true then (if bt251.1 = t246 then (if bt253.2 = true then (if bt253.1 = 180 then (laws_FnBearings.j1 kj6 l0) else (some false)) else (some false)) else (some false)) else (some false)))) = some r := by rw [if_pos rfl] at H; exact H
              clear H
              have H := H1
              clear H1
              replace H := Option.bind_eq_some_iff.mp H
              obtain ⟨⟨t251, t252⟩, A130, H⟩ := H
              replace H : ((impl_TurnBetween.f t246 t247).bind fun bt253 => (if t252 = true then (if t251 = t246 then (if bt253.2 = true then (if bt253.1 = 180 then (laws_FnBearings.j1 kj6 l0) else (some false)) else (some false)) else (some false)) else (some false))) = some r := H
              have A13 := Aside0.mk A130
              clear A130
              replace H := Option.bind_eq_some_iff.mp H
              obtain ⟨⟨t253, t254⟩, A140, H⟩ := H
              replace H : (if t252 = true then (if t251 = t246 then (if t254 = true then (if t253 = 180 then (laws_FnBearings.j1 kj6 l0) else (some false)) else (some false)) else (some false)) else (some false)) = some r := H
              have A14 := Aside0.mk A140
              clear A140
              by_cases c15 : t252 = true
              · subst c15
                have H1 : (if t251 = t246 then (if t254 = true then (if t253 = 180 then (laws_FnBearings.j1 kj6 l0) else (some false)) else (some false)) else (some false)) = some r := by rw [if_pos rfl] at H; exact H
                clear H
                have H := H1
                clear H1
                by_cases c16 : t251 = t246
                · rw [if_pos c16] at H
                  have c16b0 : (t251 == t246) = true := beq_iff_eq.mpr c16
                  have c16b1 : (t251 != t246) = false := bne_eq_false_iff_eq.mpr c16
                  clear c16
                  (first | rw [c16b0] | (simp only [i64_w, i32_w]; rw [c16b0]) | skip)
                  by_cases c17 : t254 = true
                  · subst c17
                    have H1 : (if t253 = 180 then (laws_FnBearings.j1 kj6 l0) else (some false)) = some r := by rw [if_pos rfl] at H; exact H
                    clear H
                    have H := H1
                    clear H1
                    by_cases c18 : t253 = 180
                    · rw [if_pos c18] at H
                      have c18b0 : (t253 == 180) = true := beq_iff_eq.mpr c18
                      have c18b1 : (t253 != 180) = false := bne_eq_false_iff_eq.mpr c18
                      clear c18
                      have H' := Aside0.mk H
                      clear H
                      go_wp2_with (first | ((with_reducible refine gate_callee (f := 31) rfl ?_); refine goesL_ (some 67) rfl rfl Tryd.func31 (by kernel_rfl) rfl #[.int .i64 t247] rfl (by (try simp only [List.map_toArray, List.map_cons, List.map_nil]); first | done | rfl | (simp only [List.length_drop, List.length_take]; rfl)) ?_; (with_reducible refine (impl_BackBearing.calls t247 t251 true _ A13.out).mono ?_); rintro e w' ⟨rfl, ⟨nd, rfl⟩⟩; refine ⟨_, rfl, ?_⟩) | ((with_reducible refine gate_callee (f := 28) rfl ?_); refine goesL_ (some 73) rfl rfl Tryd.func28 (by kernel_rfl) rfl #[.int .i64 t246, .int .i64 t247] rfl (by (try simp only [List.map_toArray, List.map_cons, List.map_nil]); first | done | rfl | (simp only [List.length_drop, List.length_take]; rfl)) ?_; (with_reducible refine (impl_TurnBetween.calls t246 t247 t253 true _ A14.out).mono ?_); rintro e w19 ⟨rfl, hb⟩; refine ⟨_, rfl, ?_⟩; have n0_ := Aside0.mk (below_step (by repeat (first | (with_reducible first | exact HB.out | apply below_alloc | apply pw_below_drewN | apply below_drew1) | exact HB.out)) hb); clear HB; have HB := n0_; clear n0_; (try clear hb); (try clear hb2); (try clear hk); (try clear hi)))
                      go_meet
                      case rel => exact ⟨_, H', ⟨by have := HJ6.out; first | omega | exact Nat.le_refl _⟩, ⟨by repeat (first | (with_reducible first | exact HB.out | apply below_alloc | apply pw_below_drewN | apply below_drew1) | exact HB.out)⟩⟩
                    · rw [if_neg c18] at H
                      have c18b0 : (t253 == 180) = false := beq_eq_false_iff_ne.mpr c18
                      have c18b1 : (t253 != 180) = true := bne_iff_ne.mpr c18
                      obtain rfl := Option.some.inj H
                      go_wp2_with (first | ((with_reducible refine gate_callee (f := 31) rfl ?_); refine goesL_ (some 67) rfl rfl Tryd.func31 (by kernel_rfl) rfl #[.int .i64 t247] rfl (by (try simp only [List.map_toArray, List.map_cons, List.map_nil]); first | done | rfl | (simp only [List.length_drop, List.length_take]; rfl)) ?_; (with_reducible refine (impl_BackBearing.calls t247 t251 true _ A13.out).mono ?_); rintro e w' ⟨rfl, ⟨nd, rfl⟩⟩; refine ⟨_, rfl, ?_⟩) | ((with_reducible refine gate_callee (f := 28) rfl ?_); refine goesL_ (some 73) rfl rfl Tryd.func28 (by kernel_rfl) rfl #[.int .i64 t246, .int .i64 t247] rfl (by (try simp only [List.map_toArray, List.map_cons, List.map_nil]); first | done | rfl | (simp only [List.length_drop, List.length_take]; rfl)) ?_; (with_reducible refine (impl_TurnBetween.calls t246 t247 t253 true _ A14.out).mono ?_); rintro e w20 ⟨rfl, hb⟩; refine ⟨_, rfl, ?_⟩; have n0_ := Aside0.mk (below_step (by repeat (first | (with_reducible first | exact HB.out | apply below_alloc | apply pw_below_drewN | apply below_drew1) | exact HB.out)) hb); clear HB; have HB := n0_; clear n0_; (try clear hb); (try clear hb2); (try clear hk); (try clear hi)))
                      go_ret
                      exact ⟨by first | rfl | (simp [errW_none, errW_some] <;> rfl) | (simp [*, errW_none, errW_some] <;> rfl), by repeat (first | (with_reducible first | exact HB.out | apply below_alloc | apply pw_below_drewN | apply below_drew1) | exact HB.out)⟩
                  · replace c17 := Bool.eq_false_iff.mpr c17
                    subst c17
                    have H1 : (some false) = some r := by rw [if_neg (show ¬ (false = true) by decide)] at H; exact H
                    clear H
                    have H := H1
                    clear H1
                    obtain rfl := Option.some.inj H
                    go_wp2_with (first | ((with_reducible refine gate_callee (f := 31) rfl ?_); refine goesL_ (some 67) rfl rfl Tryd.func31 (by kernel_rfl) rfl #[.int .i64 t247] rfl (by (try simp only [List.map_toArray, List.map_cons, List.map_nil]); first | done | rfl | (simp only [List.length_drop, List.length_take]; rfl)) ?_; (with_reducible refine (impl_BackBearing.calls t247 t251 true _ A13.out).mono ?_); rintro e w' ⟨rfl, ⟨nd, rfl⟩⟩; refine ⟨_, rfl, ?_⟩) | ((with_reducible refine gate_callee (f := 28) rfl ?_); refine goesL_ (some 73) rfl rfl Tryd.func28 (by kernel_rfl) rfl #[.int .i64 t246, .int .i64 t247] rfl (by (try simp only [List.map_toArray, List.map_cons, List.map_nil]); first | done | rfl | (simp only [List.length_drop, List.length_take]; rfl)) ?_; (with_reducible refine (impl_TurnBetween.calls t246 t247 t253 false _ A14.out).mono ?_); rintro e w21 ⟨rfl, hb⟩; refine ⟨_, rfl, ?_⟩; have n0_ := Aside0.mk (below_step (by repeat (first | (with_reducible first | exact HB.out | apply below_alloc | apply pw_below_drewN | apply below_drew1) | exact HB.out)) hb); clear HB; have HB := n0_; clear n0_; (try clear hb); (try clear hb2); (try clear hk); (try clear hi)))
                    go_ret
                    exact ⟨by first | rfl | (simp [errW_none, errW_some] <;> rfl) | (simp [*, errW_none, errW_some] <;> rfl), by repeat (first | (with_reducible first | exact HB.out | apply below_alloc | apply pw_below_drewN | apply below_drew1) | exact HB.out)⟩
                · rw [if_neg c16] at H
                  have c16b0 : (t251 == t246) = false := beq_eq_false_iff_ne.mpr c16
                  have c16b1 : (t251 != t246) = true := bne_iff_ne.mpr c16
                  (first | rw [c16b0] | (simp only [i64_w, i32_w]; rw [c16b0]) | skip)
                  obtain rfl := Option.some.inj H
                  go_wp2_with (first | ((with_reducible refine gate_callee (f := 31) rfl ?_); refine goesL_ (some 67) rfl rfl Tryd.func31 (by kernel_rfl) rfl #[.int .i64 t247] rfl (by (try simp only [List.map_toArray, List.map_cons, List.map_nil]); first | done | rfl | (simp only [List.length_drop, List.length_take]; rfl)) ?_; (with_reducible refine (impl_BackBearing.calls t247 t251 true _ A13.out).mono ?_); rintro e w' ⟨rfl, ⟨nd, rfl⟩⟩; refine ⟨_, rfl, ?_⟩) | ((with_reducible refine gate_callee (f := 28) rfl ?_); refine goesL_ (some 73) rfl rfl Tryd.func28 (by kernel_rfl) rfl #[.int .i64 t246, .int .i64 t247] rfl (by (try simp only [List.map_toArray, List.map_cons, List.map_nil]); first | done | rfl | (simp only [List.length_drop, List.length_take]; rfl)) ?_; (with_reducible refine (impl_TurnBetween.calls t246 t247 t253 t254 _ A14.out).mono ?_); rintro e w22 ⟨rfl, hb⟩; refine ⟨_, rfl, ?_⟩; have n0_ := Aside0.mk (below_step (by repeat (first | (with_reducible first | exact HB.out | apply below_alloc | apply pw_below_drewN | apply below_drew1) | exact HB.out)) hb); clear HB; have HB := n0_; clear n0_; (try clear hb); (try clear hb2); (try clear hk); (try clear hi)))
                  go_ret
                  exact ⟨by first | rfl | (simp [errW_none, errW_some] <;> rfl) | (simp [*, errW_none, errW_some] <;> rfl), by repeat (first | (with_reducible first | exact HB.out | apply below_alloc | apply pw_below_drewN | apply below_drew1) | exact HB.out)⟩
              · replace c15 := Bool.eq_false_iff.mpr c15
                subst c15
                have H1 : (some false) = some r := by rw [if_neg (show ¬ (false = true) by decide)] at H; exact H
                clear H
                have H := H1
                clear H1
                obtain rfl := Option.some.inj H
                go_wp2_with (first | ((with_reducible refine gate_callee (f := 31) rfl ?_); refine goesL_ (some 67) rfl rfl Tryd.func31 (by kernel_rfl) rfl #[.int .i64 t247] rfl (by (try simp only [List.map_toArray, List.map_cons, List.map_nil]); first | done | rfl | (simp only [List.length_drop, List.length_take]; rfl)) ?_; (with_reducible refine (impl_BackBearing.calls t247 t251 false _ A13.out).mono ?_); rintro e w' ⟨rfl, ⟨nd, rfl⟩⟩; refine ⟨_, rfl, ?_⟩) | ((with_reducible refine gate_callee (f := 28) rfl ?_); refine goesL_ (some 73) rfl rfl Tryd.func28 (by kernel_rfl) rfl #[.int .i64 t246, .int .i64 t247] rfl (by (try simp only [List.map_toArray, List.map_cons, List.map_nil]); first | done | rfl | (simp only [List.length_drop, List.length_take]; rfl)) ?_; (with_reducible refine (impl_TurnBetween.calls t246 t247 t253 t254 _ A14.out).mono ?_); rintro e w23 ⟨rfl, hb⟩; refine ⟨_, rfl, ?_⟩; have n0_ := Aside0.mk (below_step (by repeat (first | (with_reducible first | exact HB.out | apply below_alloc | apply pw_below_drewN | apply below_drew1) | exact HB.out)) hb); clear HB; have HB := n0_; clear n0_; (try clear hb); (try clear hb2); (try clear hk); (try clear hi)))
                go_ret
                exact ⟨by first | rfl | (simp [errW_none, errW_some] <;> rfl) | (simp [*, errW_none, errW_some] <;> rfl), by repeat (first | (with_reducible first | exact HB.out | apply below_alloc | apply pw_below_drewN | apply below_drew1) | exact HB.out)⟩
            · replace c12 := Bool.eq_false_iff.mpr c12
              subst c12
              have H1 : (laws_FnBearings.j1 kj6 l0) = some r := by rw [if_neg (show ¬ (false = true) by decide)] at H; exact H
              clear H
              have H := H1
              clear H1
              have H' := Aside0.mk H
              clear H
              go_wp2
              go_meet
              case rel => exact ⟨_, H', ⟨by have := HJ6.out; first | omega | exact Nat.le_refl _⟩, ⟨by repeat (first | (with_reducible first | exact HB.out | apply below_alloc | apply pw_below_drewN | apply below_drew1) | exact HB.out)⟩⟩
          case rest => as_aux_lemma =>
            clear HC11
            try clear c1
            try clear c2
            try clear p2
            try clear c3
            try clear c9
            try clear c9b0
            try clear c9b1
            try clear c10
            try clear c12
            try clear c15
            try clear c16
            try clear c16b0
            try clear c16b1
            try clear c17
            try clear c18
            try clear c18b0
            try clear c18b1
            try clear c20
            try clear p2
            obtain ⟨kq, HA, HJ10, HB⟩ := hcut
            cases kq with
            | zero => exact absurd HA.out (by simp [laws_FnBearings.j1])
            | succ kj10 =>
              have H := HA.out
              clear HA
              simp only [laws_FnBearings.j1] at H
              replace H := Option.bind_eq_some_iff.mp H
              obtain ⟨⟨t255, t256⟩, A240, H⟩ := H
              replace H : ((impl_BearingTo.f kj10 t255 t256).bind fun bt257 => ((spec_BearingTo.f kj10 t255 t256).bind fun bt259 => (if bt257.1 = bt259.1 then (laws_FnBearings.j2 kj10 l0 t255 t256 bt257.1 bt257.2 (bt257.2 != bt259.2)) else (laws_FnBearings.j2 kj10 l0 t255 t256 bt257.1 bt257.2 true)))) = some r := H
              have A24 := Aside0.mk A240
              clear A240
              replace H := Option.bind_eq_some_iff.mp H
              obtain ⟨⟨t257, t258⟩, A250, H⟩ := H
              replace H : ((spec_BearingTo.f kj10 t255 t256).bind fun bt259 => (if t257 = bt259.1 then (laws_FnBearings.j2 kj10 l0 t255 t256 t257 t258 (t258 != bt259.2)) else (laws_FnBearings.j2 kj10 l0 t255 t256 t257 t258 true))) = some r := H
              have A25 := Aside0.mk A250
              clear A250
              replace H := Option.bind_eq_some_iff.mp H
              obtain ⟨⟨t259, t260⟩, A260, H⟩ := H
              replace H : (if t257 = t259 then (laws_FnBearings.j2 kj10 l0 t255 t256 t257 t258 (t258 != t260)) else (laws_FnBearings.j2 kj10 l0 t255 t256 t257 t258 true)) = some r := H
              have A26 := Aside0.mk A260
              clear A260
              have HC27 := Aside0.mk H
              clear H
              go_upto_region 16 with (first | ((with_reducible refine gate_callee (f := 33) rfl ?_); refine goesL_ (some 93) rfl rfl Tryd.func33 (by kernel_rfl) rfl #[.slice A0 l0.length c0] rfl (by (try simp only [List.map_toArray, List.map_cons, List.map_nil]); first | done | rfl | (simp only [List.length_drop, List.length_take]; rfl)) ?_; (with_reducible refine (spec_DrawBearingTo.calls _ _ l0 t255 t256 _ ?side1 ?side2 A24.out).mono ?_); (case side1 => repeat (first | exact (Kd.C_below HR0.out HB.out) | (with_reducible refine Kd.C_alloc ?_ _) | (with_reducible refine Kd.C_drewN ?_ _) | (with_reducible refine Kd.C_drew ?_))); (case side2 => exact HC0.out); rintro e w28 ⟨rfl, hb⟩; refine ⟨_, rfl, ?_⟩; have n0_ := Aside0.mk (below_step (by repeat (first | (with_reducible first | exact HB.out | apply below_alloc | apply pw_below_drewN | apply below_drew1) | exact HB.out)) hb); clear HB; have HB := n0_; clear n0_; (try clear hb); (try clear hb2); (try clear hk); (try clear hi)) | ((with_reducible refine gate_callee (f := 17) rfl ?_); refine goesL_ (some 99) rfl rfl Tryd.func17 (by kernel_rfl) rfl #[.int .i64 t255, .int .i64 t256] rfl (by (try simp only [List.map_toArray, List.map_cons, List.map_nil]); first | done | rfl | (simp only [List.length_drop, List.length_take]; rfl)) ?_; (with_reducible refine (impl_BearingTo.calls kj10 t255 t256 t257 t258 _ ?sideT A25.out).mono ?_); (case sideT => first | exact HT.out | (refine Tab.drawn HT.out ?_; (repeat (first | exact Drawn0.refl _ | apply Drawn0.step)); done) | (refine Tab.below HT.out ?_; repeat (first | (with_reducible first | exact HB.out | apply below_alloc | apply pw_below_drewN | apply below_drew1) | exact HB.out))); rintro e w' ⟨rfl, ⟨nd, rfl⟩⟩; refine ⟨_, rfl, ?_⟩) | ((with_reducible refine gate_callee (f := 16) rfl ?_); refine goesL_ (some 105) rfl rfl Tryd.func16 (by kernel_rfl) rfl #[.int .i64 t255, .int .i64 t256] rfl (by (try simp only [List.map_toArray, List.map_cons, List.map_nil]); first | done | rfl | (simp only [List.length_drop, List.length_take]; rfl)) ?_; (with_reducible refine (spec_BearingTo.calls kj10 t255 t256 t259 t260 _ A26.out).mono ?_); rintro e w29 ⟨rfl, hb⟩; refine ⟨_, rfl, ?_⟩; have n0_ := Aside0.mk (below_step (by repeat (first | (with_reducible first | exact HB.out | apply below_alloc | apply pw_below_drewN | apply below_drew1) | exact HB.out)) hb); clear HB; have HB := n0_; clear n0_; (try clear hb); (try clear hb2); (try clear hk); (try clear hi)))
              (try simp only [Act.put, List.setIfInBounds_toArray, List.set_cons_zero, List.set_cons_succ])
              go_cut [115] (fun v115 wc => ∃ (kq : Nat) (x115_26 : Bool), v115 = .bool x115_26 ∧ Aside0 (laws_FnBearings.j2 kq l0 t255 t256 t257 t258 x115_26 = some r) ∧ Aside0 (kq ≤ kj10) ∧ Aside0 (Below w.heap.size w wc))
              case first => as_aux_lemma =>
                have H := HC27.out
                clear HC27
                by_cases c30 : t257 = t259
                · rw [if_pos c30] at H
                  have c30b0 : (t257 == t259) = true := beq_iff_eq.mpr c30
                  have c30b1 : (t257 != t259) = false := bne_eq_false_iff_eq.mpr c30
                  clear c30
                  (first | rw [c30b0] | (simp only [i64_w, i32_w]; rw [c30b0]) | skip)
                  have H' := Aside0.mk H
                  clear H
                  go_wp2
                  go_meet
                  case rel => exact ⟨_, ((t258 != t260)), (by first | rfl | (simp; done) | (simp [*]; done)), H', ⟨by have := HJ6.out; have := HJ10.out; first | omega | exact Nat.le_refl _⟩, ⟨by repeat (first | (with_reducible first | exact HB.out | apply below_alloc | apply pw_below_drewN | apply below_drew1) | exact HB.out)⟩⟩
                · rw [if_neg c30] at H
                  have c30b0 : (t257 == t259) = false := beq_eq_false_iff_ne.mpr c30
                  have c30b1 : (t257 != t259) = true := bne_iff_ne.mpr c30
                  (first | rw [c30b0] | (simp only [i64_w, i32_w]; rw [c30b0]) | skip)
                  have H' := Aside0.mk H
                  clear H
                  go_wp2
                  go_meet
                  case rel => exact ⟨_, (true), (by first | rfl | (simp; done) | (simp [*]; done)), H', ⟨by have := HJ6.out; have := HJ10.out; first | omega | exact Nat.le_refl _⟩, ⟨by repeat (first | (with_reducible first | exact HB.out | apply below_alloc | apply pw_below_drewN | apply below_drew1) | exact HB.out)⟩⟩
              case rest => as_aux_lemma =>
                clear HC27
                try clear c1
                try clear c2
                try clear p2
                try clear c3
                try clear c9
                try clear c9b0
                try clear c9b1
                try clear c10
                try clear c12
                try clear c15
                try clear c16
                try clear c16b0
                try clear c16b1
                try clear c17
                try clear c18
                try clear c18b0
                try clear c18b1
                try clear c20
                try clear c28
                try clear c30
                try clear c30b0
                try clear c30b1
                try clear p2
                obtain ⟨kq, x115_26, rfl, HA, HJ26, HB⟩ := hcut
                cases kq with
                | zero => exact absurd HA.out (by simp [laws_FnBearings.j2])
                | succ kj26 =>
                  have H := HA.out
                  clear HA
                  simp only [laws_FnBearings.j2] at H
                  by_cases c31 : x115_26 = true
                  · subst c31
                    have H1 : (some false) = some r := by rw [if_pos rfl] at H; exact H
                    clear H
                    have H := H1
                    clear H1
                    obtain rfl := Option.some.inj H
                    go_wp2
                    go_ret
                    exact ⟨by first | rfl | (simp [errW_none, errW_some] <;> rfl) | (simp [*, errW_none, errW_some] <;> rfl), by repeat (first | (with_reducible first | exact HB.out | apply below_alloc | apply pw_below_drewN | apply below_drew1) | exact HB.out)⟩
                  · replace c31 := Bool.eq_false_iff.mpr c31
                    subst c31
                    have H1 : (if t258 = true then ((impl_SineOf.f t257).bind fun bt261 => ((impl_CosineOf.f t257).bind fun bt263 => (laws_FnBearings.l0 kj26 l0 t255 t256 bt261.1 bt261.2 bt263.1 bt263.2 0))) else (laws_FnBearings.j4 kj26 l0)) = some r := by rw [if_neg (show ¬ (false = true) by decide)] at H; exact H
                    clear H
                    have H := H1
                    clear H1
                    have HC32 := Aside0.mk H
                    clear H
                    go_upto_if 116 with (fail)
                    go_cut [] (fun wc => ∃ (kq : Nat), Aside0 (laws_FnBearings.j4 kq l0 = some r) ∧ Aside0 (kq ≤ kj26) ∧ Aside0 (Below w.heap.size w wc))
                    case first => as_aux_lemma =>
                      have H := HC32.out
                      clear HC32
                      by_cases c33 : t258 = true
                      · subst c33
                        have H1 : ((impl_SineOf.f t257).bind fun bt261 => ((impl_CosineOf.f t257).bind fun bt263 => (laws_FnBearings.l0 kj26 l0 t255 t256 bt261.1 bt261.2 bt263.1 bt263.2 0))) = some r := by rw [if_pos rfl] at H; exact H
                        clear H
                        have H := H1
                        clear H1
                        replace H := Option.bind_eq_some_iff.mp H
                        obtain ⟨⟨t261, t262⟩, A340, H⟩ := H
                        replace H : ((impl_CosineOf.f t257).bind fun bt263 => (laws_FnBearings.l0 kj26 l0 t255 t256 t261 t262 bt263.1 bt263.2 0)) = some r := H
                        have A34 := Aside0.mk A340
                        clear A340
                        replace H := Option.bind_eq_some_iff.mp H
                        obtain ⟨⟨t263, t264⟩, A350, H⟩ := H
                        replace H : (laws_FnBearings.l0 kj26 l0 t255 t256 t261 t262 t263 t264 0) = some r := H
                        have A35 := Aside0.mk A350
                        clear A350
                        have H' := Aside0.mk H
                        clear H
                        go_wp2_with (first | ((with_reducible refine gate_callee (f := 11) rfl ?_); refine goesL_ (some 119) rfl rfl Tryd.func11 (by kernel_rfl) rfl #[.int .i64 t257] rfl (by (try simp only [List.map_toArray, List.map_cons, List.map_nil]); first | done | rfl | (simp only [List.length_drop, List.length_take]; rfl)) ?_; (with_reducible refine (impl_SineOf.calls t257 t261 t262 _ ?sideT A34.out).mono ?_); (case sideT => first | exact HT.out | (refine Tab.drawn HT.out ?_; (repeat (first | exact Drawn0.refl _ | apply Drawn0.step)); done) | (refine Tab.below HT.out ?_; repeat (first | (with_reducible first | exact HB.out | apply below_alloc | apply pw_below_drewN | apply below_drew1) | exact HB.out))); rintro e w' ⟨rfl, ⟨nd, rfl⟩⟩; refine ⟨_, rfl, ?_⟩) | ((with_reducible refine gate_callee (f := 13) rfl ?_); refine goesL_ (some 124) rfl rfl Tryd.func13 (by kernel_rfl) rfl #[.int .i64 t257] rfl (by (try simp only [List.map_toArray, List.map_cons, List.map_nil]); first | done | rfl | (simp only [List.length_drop, List.length_take]; rfl)) ?_; (with_reducible refine (impl_CosineOf.calls t257 t263 t264 _ ?sideT A35.out).mono ?_); (case sideT => first | exact HT.out | (refine Tab.drawn HT.out ?_; (repeat (first | exact Drawn0.refl _ | apply Drawn0.step)); done) | (refine Tab.below HT.out ?_; repeat (first | (with_reducible first | exact HB.out | apply below_alloc | apply pw_below_drewN | apply below_drew1) | exact HB.out))); rintro e w' ⟨rfl, ⟨nd, rfl⟩⟩; refine ⟨_, rfl, ?_⟩))
                        go_loopg [22] kj26 (fun kq v22 w' => ∃ (x22_4 : Int), v22 = .int .i64 x22_4 ∧ Aside0 (laws_FnBearings.l0 kq l0 t255 t256 t261 t262 t263 t264 x22_4 = some r) ∧ Aside0 (kq ≤ kj26) ∧ Aside0 (Below w.heap.size w w'))
                        case atStart => exact ⟨(0), (by first | rfl | (simp; done) | (simp [*]; done)), H', ⟨Nat.le_refl _⟩, ⟨by repeat (first | (with_reducible first | exact HB.out | apply below_alloc | apply pw_below_drewN | apply below_drew1) | exact HB.out)⟩⟩
                        case round =>
                          clear H'
                          try clear c1
                          try clear c2
                          try clear p2
                          try clear c3
                          try clear c9
                          try clear c9b0
                          try clear c9b1
                          try clear c10
                          try clear c11
                          try clear c12
                          try clear c13
                          try clear c15
                          try clear c16
                          try clear c16b0
                          try clear c16b1
                          try clear c17
                          try clear c18
                          try clear c18b0
                          try clear c18b1
                          try clear c20
                          try clear c28
                          try clear c30
                          try clear c30b0
                          try clear c30b1
                          try clear c31
                          try clear c32
                          try clear c33
                          try clear p2
                          obtain ⟨x22_4, rfl, HA, HK4, HB⟩ := hrel
                          cases gk with
                          | zero => exact absurd HA.out (by simp [laws_FnBearings.l0])
                          | succ k4 =>
                            have H := HA.out
                            clear HA
                            simp only [laws_FnBearings.l0] at H
                            by_cases c36 : x22_4 < 360
                            · rw [if_pos c36] at H
                              have c36b0 : decide (x22_4 < 360) = true := decide_eq_true c36
                              clear c36
                              (first | rw [c36b0] | (simp only [i64_w, i32_w]; rw [c36b0]) | skip)
                              replace H := Option.bind_eq_some_iff.mp H
                              obtain ⟨⟨t265, t266⟩, A370, H⟩ := H
                              replace H : ((impl_CosineOf.f x22_4).bind fun bt267 => (if t262 = true then (if t264 = true then (if t266 = true then (if bt267.2 = true then (if (wrap64 ((wrap64 (t255 * t265)) + (wrap64 (t256 * bt267.1)))) > (wrap64 ((wrap64 (t255 * t261)) + (wrap64 (t256 * t263)))) then (some false) else (laws_FnBearings.l0 k4 l0 t255 t256 t261 t262 t263 t264 (wrap64 (x22_4 + 15)))) else (some false)) else (some false)) else (some false)) else (some false))) = some r := H
                              have A37 := Aside0.mk A370
                              clear A370
                              replace H := Option.bind_eq_some_iff.mp H
                              obtain ⟨⟨t267, t268⟩, A380, H⟩ := H
                              replace H : (if t262 = true then (if t264 = true then (if t266 = true then (if t268 = true then (if (wrap64 ((wrap64 (t255 * t265)) + (wrap64 (t256 * t267)))) > (wrap64 ((wrap64 (t255 * t261)) + (wrap64 (t256 * t263)))) then (some false) else (laws_FnBearings.l0 k4 l0 t255 t256 t261 t262 t263 t264 (wrap64 (x22_4 + 15)))) else (some false)) else (some false)) else (some false)) else (some false)) = some r := H
                              have A38 := Aside0.mk A380
                              clear A380
                              by_cases c39 : t262 = true
                              · subst c39
                                have H1 : (if t264 = true then (if t266 = true then (if t268 = true then (if (wrap64 ((wrap64 (t255 * t265)) + (wrap64 (t256 * t267)))) > (wrap64 ((wrap64 (t255 * t261)) + (wrap64 (t256 * t263)))) then (some false) else (laws_FnBearings.l0 k4 l0 t255 t256 t261 true t263 t264 (wrap64 (x22_4 + 15)))) else (some false)) else (some false)) else (some false)) = some r := by rw [if_pos rfl] at H; exact H
                                clear H
                                have H := H1
                                clear H1
                                by_cases c40 : t264 = true
                                · subst c40
                                  have H1 : (if t266 = true then (if t268 = true then (if (wrap64 ((wrap64 (t255 * t265)) + (wrap64 (t256 * t267)))) > (wrap64 ((wrap64 (t255 * t261)) + (wrap64 (t256 * t263)))) then (some false) else (laws_FnBearings.l0 k4 l0 t255 t256 t261 true t263 true (wrap64 (x22_4 + 15)))) else (some false)) else (some false)) = some r := by rw [if_pos rfl] at H; exact H
                                  clear H
                                  have H := H1
                                  clear H1
                                  by_cases c41 : t266 = true
                                  · subst c41
                                    have H1 : (if t268 = true then (if (wrap64 ((wrap64 (t255 * t265)) + (wrap64 (t256 * t267)))) > (wrap64 ((wrap64 (t255 * t261)) + (wrap64 (t256 * t263)))) then (some false) else (laws_FnBearings.l0 k4 l0 t255 t256 t261 true t263 true (wrap64 (x22_4 + 15)))) else (some false)) = some r := by rw [if_pos rfl] at H; exact H
                                    clear H
                                    have H := H1
                                    clear H1
                                    by_cases c42 : t268 = true
                                    · subst c42
                                      have H1 : (if (wrap64 ((wrap64 (t255 * t265)) + (wrap64 (t256 * t267)))) > (wrap64 ((wrap64 (t255 * t261)) + (wrap64 (t256 * t263)))) then (some false) else (laws_FnBearings.l0 k4 l0 t255 t256 t261 true t263 true (wrap64 (x22_4 + 15)))) = some r := by rw [if_pos rfl] at H; exact H
                                      clear H
                                      have H := H1
                                      clear H1
                                      by_cases c43 : (wrap64 ((wrap64 (t255 * t265)) + (wrap64 (t256 * t267)))) > (wrap64 ((wrap64 (t255 * t261)) + (wrap64 (t256 * t263))))
                                      · rw [if_pos c43] at H
                                        have c43b0 : decide ((wrap64 ((wrap64 (t255 * t261)) + (wrap64 (t256 * t263)))) < (wrap64 ((wrap64 (t255 * t265)) + (wrap64 (t256 * t267))))) = true := decide_eq_true c43
                                        clear c43
                                        obtain rfl := Option.some.inj H
                                        go_wp2_with (first | ((with_reducible refine gate_callee (f := 11) rfl ?_); refine goesL_ (some 133) rfl rfl Tryd.func11 (by kernel_rfl) rfl #[.int .i64 x22_4] rfl (by (try simp only [List.map_toArray, List.map_cons, List.map_nil]); first | done | rfl | (simp only [List.length_drop, List.length_take]; rfl)) ?_; (with_reducible refine (impl_SineOf.calls x22_4 t265 true _ ?sideT A37.out).mono ?_); (case sideT => first | exact HT.out | (refine Tab.drawn HT.out ?_; (repeat (first | exact Drawn0.refl _ | apply Drawn0.step)); done) | (refine Tab.below HT.out ?_; repeat (first | (with_reducible first | exact HB.out | apply below_alloc | apply pw_below_drewN | apply below_drew1) | exact HB.out))); rintro e w' ⟨rfl, ⟨nd, rfl⟩⟩; refine ⟨_, rfl, ?_⟩) | ((with_reducible refine gate_callee (f := 13) rfl ?_); refine goesL_ (some 138) rfl rfl Tryd.func13 (by kernel_rfl) rfl #[.int .i64 x22_4] rfl (by (try simp only [List.map_toArray, List.map_cons, List.map_nil]); first | done | rfl | (simp only [List.length_drop, List.length_take]; rfl)) ?_; (with_reducible refine (impl_CosineOf.calls x22_4 t267 true _ ?sideT A38.out).mono ?_); (case sideT => first | exact HT.out | (refine Tab.drawn HT.out ?_; (repeat (first | exact Drawn0.refl _ | apply Drawn0.step)); done) | (refine Tab.below HT.out ?_; repeat (first | (with_reducible first | exact HB.out | apply below_alloc | apply pw_below_drewN | apply below_drew1) | exact HB.out))); rintro e w' ⟨rfl, ⟨nd, rfl⟩⟩; refine ⟨_, rfl, ?_⟩))
                                        go_ret
                                        exact ⟨by first | rfl | (simp [errW_none, errW_some] <;> rfl) | (simp [*, errW_none, errW_some] <;> rfl), by repeat (first | (with_reducible first | exact HB.out | apply below_alloc | apply pw_below_drewN | apply below_drew1) | exact HB.out)⟩
                                      · rw [if_neg c43] at H
                                        have c43b0 : decide ((wrap64 ((wrap64 (t255 * t261)) + (wrap64 (t256 * t263)))) < (wrap64 ((wrap64 (t255 * t265)) + (wrap64 (t256 * t267))))) = false := decide_eq_false c43
                                        clear c43
                                        have H' := Aside0.mk H
                                        clear H
                                        go_wp2_with (first | ((with_reducible refine gate_callee (f := 11) rfl ?_); refine goesL_ (some 133) rfl rfl Tryd.func11 (by kernel_rfl) rfl #[.int .i64 x22_4] rfl (by (try simp only [List.map_toArray, List.map_cons, List.map_nil]); first | done | rfl | (simp only [List.length_drop, List.length_take]; rfl)) ?_; (with_reducible refine (impl_SineOf.calls x22_4 t265 true _ ?sideT A37.out).mono ?_); (case sideT => first | exact HT.out | (refine Tab.drawn HT.out ?_; (repeat (first | exact Drawn0.refl _ | apply Drawn0.step)); done) | (refine Tab.below HT.out ?_; repeat (first | (with_reducible first | exact HB.out | apply below_alloc | apply pw_below_drewN | apply below_drew1) | exact HB.out))); rintro e w' ⟨rfl, ⟨nd, rfl⟩⟩; refine ⟨_, rfl, ?_⟩) | ((with_reducible refine gate_callee (f := 13) rfl ?_); refine goesL_ (some 138) rfl rfl Tryd.func13 (by kernel_rfl) rfl #[.int .i64 x22_4] rfl (by (try simp only [List.map_toArray, List.map_cons, List.map_nil]); first | done | rfl | (simp only [List.length_drop, List.length_take]; rfl)) ?_; (with_reducible refine (impl_CosineOf.calls x22_4 t267 true _ ?sideT A38.out).mono ?_); (case sideT => first | exact HT.out | (refine Tab.drawn HT.out ?_; (repeat (first | exact Drawn0.refl _ | apply Drawn0.step)); done) | (refine Tab.below HT.out ?_; repeat (first | (with_reducible first | exact HB.out | apply below_alloc | apply pw_below_drewN | apply below_drew1) | exact HB.out))); rintro e w' ⟨rfl, ⟨nd, rfl⟩⟩; refine ⟨_, rfl, ?_⟩))
                                        go_roundg k4
                                        case measure => have := HJ6.out; have := HJ10.out; have := HJ26.out; have := HK4.out; omega
                                        case rel => exact ⟨(wrap64 (x22_4 + 15)), (by first | rfl | (simp; done) | (simp [*]; done)), H', ⟨by have := HJ6.out; have := HJ10.out; have := HJ26.out; have := HK4.out; omega⟩, ⟨by repeat (first | (with_reducible first | exact HB.out | apply below_alloc | apply pw_below_drewN | apply below_drew1) | exact HB.out)⟩⟩
                                    · replace c42 := Bool.eq_false_iff.mpr c42
                                      subst c42
                                      have H1 : (some false) = some r := by rw [if_neg (show ¬ (false = true) by decide)] at H; exact H
                                      clear H
                                      have H := H1
                                      clear H1
                                      obtain rfl := Option.some.inj H
                                      go_wp2_with (first | ((with_reducible refine gate_callee (f := 11) rfl ?_); refine goesL_ (some 133) rfl rfl Tryd.func11 (by kernel_rfl) rfl #[.int .i64 x22_4] rfl (by (try simp only [List.map_toArray, List.map_cons, List.map_nil]); first | done | rfl | (simp only [List.length_drop, List.length_take]; rfl)) ?_; (with_reducible refine (impl_SineOf.calls x22_4 t265 true _ ?sideT A37.out).mono ?_); (case sideT => first | exact HT.out | (refine Tab.drawn HT.out ?_; (repeat (first | exact Drawn0.refl _ | apply Drawn0.step)); done) | (refine Tab.below HT.out ?_; repeat (first | (with_reducible first | exact HB.out | apply below_alloc | apply pw_below_drewN | apply below_drew1) | exact HB.out))); rintro e w' ⟨rfl, ⟨nd, rfl⟩⟩; refine ⟨_, rfl, ?_⟩) | ((with_reducible refine gate_callee (f := 13) rfl ?_); refine goesL_ (some 138) rfl rfl Tryd.func13 (by kernel_rfl) rfl #[.int .i64 x22_4] rfl (by (try simp only [List.map_toArray, List.map_cons, List.map_nil]); first | done | rfl | (simp only [List.length_drop, List.length_take]; rfl)) ?_; (with_reducible refine (impl_CosineOf.calls x22_4 t267 false _ ?sideT A38.out).mono ?_); (case sideT => first | exact HT.out | (refine Tab.drawn HT.out ?_; (repeat (first | exact Drawn0.refl _ | apply Drawn0.step)); done) | (refine Tab.below HT.out ?_; repeat (first | (with_reducible first | exact HB.out | apply below_alloc | apply pw_below_drewN | apply below_drew1) | exact HB.out))); rintro e w' ⟨rfl, ⟨nd, rfl⟩⟩; refine ⟨_, rfl, ?_⟩))
                                      go_ret
                                      exact ⟨by first | rfl | (simp [errW_none, errW_some] <;> rfl) | (simp [*, errW_none, errW_some] <;> rfl), by repeat (first | (with_reducible first | exact HB.out | apply below_alloc | apply pw_below_drewN | apply below_drew1) | exact HB.out)⟩
                                  · replace c41 := Bool.eq_false_iff.mpr c41
                                    subst c41
                                    have H1 : (some false) = some r := by rw [if_neg (show ¬ (false = true) by decide)] at H; exact H
                                    clear H
                                    have H := H1
                                    clear H1
                                    obtain rfl := Option.some.inj H
                                    go_wp2_with (first | ((with_reducible refine gate_callee (f := 11) rfl ?_); refine goesL_ (some 133) rfl rfl Tryd.func11 (by kernel_rfl) rfl #[.int .i64 x22_4] rfl (by (try simp only [List.map_toArray, List.map_cons, List.map_nil]); first | done | rfl | (simp only [List.length_drop, List.length_take]; rfl)) ?_; (with_reducible refine (impl_SineOf.calls x22_4 t265 false _ ?sideT A37.out).mono ?_); (case sideT => first | exact HT.out | (refine Tab.drawn HT.out ?_; (repeat (first | exact Drawn0.refl _ | apply Drawn0.step)); done) | (refine Tab.below HT.out ?_; repeat (first | (with_reducible first | exact HB.out | apply below_alloc | apply pw_below_drewN | apply below_drew1) | exact HB.out))); rintro e w' ⟨rfl, ⟨nd, rfl⟩⟩; refine ⟨_, rfl, ?_⟩) | ((with_reducible refine gate_callee (f := 13) rfl ?_); refine goesL_ (some 138) rfl rfl Tryd.func13 (by kernel_rfl) rfl #[.int .i64 x22_4] rfl (by (try simp only [List.map_toArray, List.map_cons, List.map_nil]); first | done | rfl | (simp only [List.length_drop, List.length_take]; rfl)) ?_; (with_reducible refine (impl_CosineOf.calls x22_4 t267 t268 _ ?sideT A38.out).mono ?_); (case sideT => first | exact HT.out | (refine Tab.drawn HT.out ?_; (repeat (first | exact Drawn0.refl _ | apply Drawn0.step)); done) | (refine Tab.below HT.out ?_; repeat (first | (with_reducible first | exact HB.out | apply below_alloc | apply pw_below_drewN | apply below_drew1) | exact HB.out))); rintro e w' ⟨rfl, ⟨nd, rfl⟩⟩; refine ⟨_, rfl, ?_⟩))
                                    go_ret
                                    exact ⟨by first | rfl | (simp [errW_none, errW_some] <;> rfl) | (simp [*, errW_none, errW_some] <;> rfl), by repeat (first | (with_reducible first | exact HB.out | apply below_alloc | apply pw_below_drewN | apply below_drew1) | exact HB.out)⟩
                                · replace c40 := Bool.eq_false_iff.mpr c40
                                  subst c40
                                  have H1 : (some false) = some r := by rw [if_neg (show ¬ (false = true) by decide)] at H; exact H
                                  clear H
                                  have H := H1
                                  clear H1
                                  obtain rfl := Option.some.inj H
                                  go_wp2_with (first | ((with_reducible refine gate_callee (f := 11) rfl ?_); refine goesL_ (some 133) rfl rfl Tryd.func11 (by kernel_rfl) rfl #[.int .i64 x22_4] rfl (by (try simp only [List.map_toArray, List.map_cons, List.map_nil]); first | done | rfl | (simp only [List.length_drop, List.length_take]; rfl)) ?_; (with_reducible refine (impl_SineOf.calls x22_4 t265 t266 _ ?sideT A37.out).mono ?_); (case sideT => first | exact HT.out | (refine Tab.drawn HT.out ?_; (repeat (first | exact Drawn0.refl _ | apply Drawn0.step)); done) | (refine Tab.below HT.out ?_; repeat (first | (with_reducible first | exact HB.out | apply below_alloc | apply pw_below_drewN | apply below_drew1) | exact HB.out))); rintro e w' ⟨rfl, ⟨nd, rfl⟩⟩; refine ⟨_, rfl, ?_⟩) | ((with_reducible refine gate_callee (f := 13) rfl ?_); refine goesL_ (some 138) rfl rfl Tryd.func13 (by kernel_rfl) rfl #[.int .i64 x22_4] rfl (by (try simp only [List.map_toArray, List.map_cons, List.map_nil]); first | done | rfl | (simp only [List.length_drop, List.length_take]; rfl)) ?_; (with_reducible refine (impl_CosineOf.calls x22_4 t267 t268 _ ?sideT A38.out).mono ?_); (case sideT => first | exact HT.out | (refine Tab.drawn HT.out ?_; (repeat (first | exact Drawn0.refl _ | apply Drawn0.step)); done) | (refine Tab.below HT.out ?_; repeat (first | (with_reducible first | exact HB.out | apply below_alloc | apply pw_below_drewN | apply below_drew1) | exact HB.out))); rintro e w' ⟨rfl, ⟨nd, rfl⟩⟩; refine ⟨_, rfl, ?_⟩))
                                  go_ret
                                  exact ⟨by first | rfl | (simp [errW_none, errW_some] <;> rfl) | (simp [*, errW_none, errW_some] <;> rfl), by repeat (first | (with_reducible first | exact HB.out | apply below_alloc | apply pw_below_drewN | apply below_drew1) | exact HB.out)⟩
                              · replace c39 := Bool.eq_false_iff.mpr c39
                                subst c39
                                have H1 : (some false) = some r := by rw [if_neg (show ¬ (false = true) by decide)] at H; exact H
                                clear H
                                have H := H1
                                clear H1
                                obtain rfl := Option.some.inj H
                                go_wp2_with (first | ((with_reducible refine gate_callee (f := 11) rfl ?_); refine goesL_ (some 133) rfl rfl Tryd.func11 (by kernel_rfl) rfl #[.int .i64 x22_4] rfl (by (try simp only [List.map_toArray, List.map_cons, List.map_nil]); first | done | rfl | (simp only [List.length_drop, List.length_take]; rfl)) ?_; (with_reducible refine (impl_SineOf.calls x22_4 t265 t266 _ ?sideT A37.out).mono ?_); (case sideT => first | exact HT.out | (refine Tab.drawn HT.out ?_; (repeat (first | exact Drawn0.refl _ | apply Drawn0.step)); done) | (refine Tab.below HT.out ?_; repeat (first | (with_reducible first | exact HB.out | apply below_alloc | apply pw_below_drewN | apply below_drew1) | exact HB.out))); rintro e w' ⟨rfl, ⟨nd, rfl⟩⟩; refine ⟨_, rfl, ?_⟩) | ((with_reducible refine gate_callee (f := 13) rfl ?_); refine goesL_ (some 138) rfl rfl Tryd.func13 (by kernel_rfl) rfl #[.int .i64 x22_4] rfl (by (try simp only [List.map_toArray, List.map_cons, List.map_nil]); first | done | rfl | (simp only [List.length_drop, List.length_take]; rfl)) ?_; (with_reducible refine (impl_CosineOf.calls x22_4 t267 t268 _ ?sideT A38.out).mono ?_); (case sideT => first | exact HT.out | (refine Tab.drawn HT.out ?_; (repeat (first | exact Drawn0.refl _ | apply Drawn0.step)); done) | (refine Tab.below HT.out ?_; repeat (first | (with_reducible first | exact HB.out | apply below_alloc | apply pw_below_drewN | apply below_drew1) | exact HB.out))); rintro e w' ⟨rfl, ⟨nd, rfl⟩⟩; refine ⟨_, rfl, ?_⟩))
                                go_ret
                                exact ⟨by first | rfl | (simp [errW_none, errW_some] <;> rfl) | (simp [*, errW_none, errW_some] <;> rfl), by repeat (first | (with_reducible first | exact HB.out | apply below_alloc | apply pw_below_drewN | apply below_drew1) | exact HB.out)⟩
                            · rw [if_neg c36] at H
                              have c36b0 : decide (x22_4 < 360) = false := decide_eq_false c36
                              clear c36
                              (first | rw [c36b0] | (simp only [i64_w, i32_w]; rw [c36b0]) | skip)
                              have H' := Aside0.mk H
                              clear H
                              go_wp2
                              go_meet
                              case rel => exact ⟨_, H', ⟨by have := HJ6.out; have := HJ10.out; have := HJ26.out; have := HK4.out; first | omega | exact Nat.le_refl _⟩, ⟨by repeat (first | (with_reducible first | exact HB.out | apply below_alloc | apply pw_below_drewN | apply below_drew1) | exact HB.out)⟩⟩
                      · replace c33 := Bool.eq_false_iff.mpr c33
                        subst c33
                        have H1 : (laws_FnBearings.j4 kj26 l0) = some r := by rw [if_neg (show ¬ (false = true) by decide)] at H; exact H
                        clear H
                        have H := H1
                        clear H1
                        have H' := Aside0.mk H
                        clear H
                        go_wp2
                        go_meet
                        case rel => exact ⟨_, H', ⟨by have := HJ6.out; have := HJ10.out; have := HJ26.out; first | omega | exact Nat.le_refl _⟩, ⟨by repeat (first | (with_reducible first | exact HB.out | apply below_alloc | apply pw_below_drewN | apply below_drew1) | exact HB.out)⟩⟩
                    case rest => as_aux_lemma =>
                      clear HC32
                      try clear c1
                      try clear c2
                      try clear p2
                      try clear c3
                      try clear c4
                      try clear p6
                      try clear c9
                      try clear c9b0
                      try clear c9b1
                      try clear c10
                      try clear c11
                      try clear c12
                      try clear c13
                      try clear c15
                      try clear c16
                      try clear c16b0
                      try clear c16b1
                      try clear c17
                      try clear c18
                      try clear c18b0
                      try clear c18b1
                      try clear c20
                      try clear c28
                      try clear c30
                      try clear c30b0
                      try clear c30b1
                      try clear c31
                      try clear c32
                      try clear c33
                      try clear c36
                      try clear c36b0
                      try clear c39
                      try clear c40
                      try clear c41
                      try clear c42
                      try clear c43
                      try clear c43b0
                      try clear p2
                      obtain ⟨kq, HA, HJ31, HB⟩ := hcut
                      cases kq with
                      | zero => exact absurd HA.out (by simp [laws_FnBearings.j4])
                      | succ kj31 =>
                        have H := HA.out
                        clear HA
                        simp only [laws_FnBearings.j4] at H
                        replace H := Option.bind_eq_some_iff.mp H
                        obtain ⟨⟨t269, t270⟩, A440, H⟩ := H
                        replace H : ((impl_SlopeTo.f kj31 t269 t270).bind fun bt271 => ((spec_SlopeTo.f kj31 t269 t270).bind fun bt273 => (if bt271.1 = bt273.1 then (laws_FnBearings.j5 kj31 l0 t269 t270 bt271.1 bt271.2 (bt271.2 != bt273.2)) else (laws_FnBearings.j5 kj31 l0 t269 t270 bt271.1 bt271.2 true)))) = some r := H
                        have A44 := Aside0.mk A440
                        clear A440
                        replace H := Option.bind_eq_some_iff.mp H
                        obtain ⟨⟨t271, t272⟩, A450, H⟩ := H
                        replace H : ((spec_SlopeTo.f kj31 t269 t270).bind fun bt273 => (if t271 = bt273.1 then (laws_FnBearings.j5 kj31 l0 t269 t270 t271 t272 (t272 != bt273.2)) else (laws_FnBearings.j5 kj31 l0 t269 t270 t271 t272 true))) = some r := H
                        have A45 := Aside0.mk A450
                        clear A450
                        replace H := Option.bind_eq_some_iff.mp H
                        obtain ⟨⟨t273, t274⟩, A460, H⟩ := H
                        replace H : (if t271 = t273 then (laws_FnBearings.j5 kj31 l0 t269 t270 t271 t272 (t272 != t274)) else (laws_FnBearings.j5 kj31 l0 t269 t270 t271 t272 true)) = some r := H
                        have A46 := Aside0.mk A460
                        clear A460
                        have HC47 := Aside0.mk H
                        clear H
                        go_upto_region 31 with (first | ((with_reducible refine gate_callee (f := 34) rfl ?_); refine goesL_ (some 174) rfl rfl Tryd.func34 (by kernel_rfl) rfl #[.slice A0 l0.length c0] rfl (by (try simp only [List.map_toArray, List.map_cons, List.map_nil]); first | done | rfl | (simp only [List.length_drop, List.length_take]; rfl)) ?_; (with_reducible refine (spec_DrawSlopeTo.calls _ _ l0 t269 t270 _ ?side1 ?side2 A44.out).mono ?_); (case side1 => repeat (first | exact (Kd.C_below HR0.out HB.out) | (with_reducible refine Kd.C_alloc ?_ _) | (with_reducible refine Kd.C_drewN ?_ _) | (with_reducible refine Kd.C_drew ?_))); (case side2 => exact HC0.out); rintro e w48 ⟨rfl, hb⟩; refine ⟨_, rfl, ?_⟩; have n0_ := Aside0.mk (below_step (by repeat (first | (with_reducible first | exact HB.out | apply below_alloc | apply pw_below_drewN | apply below_drew1) | exact HB.out)) hb); clear HB; have HB := n0_; clear n0_; (try clear hb); (try clear hb2); (try clear hk); (try clear hi)) | ((with_reducible refine gate_callee (f := 19) rfl ?_); refine goesL_ (some 180) rfl rfl Tryd.func19 (by kernel_rfl) rfl #[.int .i64 t269, .int .i64 t270] rfl (by (try simp only [List.map_toArray, List.map_cons, List.map_nil]); first | done | rfl | (simp only [List.length_drop, List.length_take]; rfl)) ?_; (with_reducible refine (impl_SlopeTo.calls kj31 t269 t270 t271 t272 _ ?sideT A45.out).mono ?_); (case sideT => first | exact HT.out | (refine Tab.drawn HT.out ?_; (repeat (first | exact Drawn0.refl _ | apply Drawn0.step)); done) | (refine Tab.below HT.out ?_; repeat (first | (with_reducible first | exact HB.out | apply below_alloc | apply pw_below_drewN | apply below_drew1) | exact HB.out))); rintro e w49 ⟨rfl, hb⟩; refine ⟨_, rfl, ?_⟩; have n0_ := Aside0.mk (below_step (by repeat (first | (with_reducible first | exact HB.out | apply below_alloc | apply pw_below_drewN | apply below_drew1) | exact HB.out)) hb); clear HB; have HB := n0_; clear n0_; (try clear hb); (try clear hb2); (try clear hk); (try clear hi)) | ((with_reducible refine gate_callee (f := 18) rfl ?_); refine goesL_ (some 186) rfl rfl Tryd.func18 (by kernel_rfl) rfl #[.int .i64 t269, .int .i64 t270] rfl (by (try simp only [List.map_toArray, List.map_cons, List.map_nil]); first | done | rfl | (simp only [List.length_drop, List.length_take]; rfl)) ?_; (with_reducible refine (spec_SlopeTo.calls kj31 t269 t270 t273 t274 _ A46.out).mono ?_); rintro e w50 ⟨rfl, hb⟩; refine ⟨_, rfl, ?_⟩; have n0_ := Aside0.mk (below_step (by repeat (first | (with_reducible first | exact HB.out | apply below_alloc | apply pw_below_drewN | apply below_drew1) | exact HB.out)) hb); clear HB; have HB := n0_; clear n0_; (try clear hb); (try clear hb2); (try clear hk); (try clear hi)))
                        (try simp only [Act.put, List.setIfInBounds_toArray, List.set_cons_zero, List.set_cons_succ])
                        go_cut [196] (fun v196 wc => ∃ (kq : Nat) (x196_46 : Bool), v196 = .bool x196_46 ∧ Aside0 (laws_FnBearings.j5 kq l0 t269 t270 t271 t272 x196_46 = some r) ∧ Aside0 (kq ≤ kj31) ∧ Aside0 (Below w.heap.size w wc))
                        case first => as_aux_lemma =>
                          have H := HC47.out
                          clear HC47
                          by_cases c51 : t271 = t273
                          · rw [if_pos c51] at H
                            have c51b0 : (t271 == t273) = true := beq_iff_eq.mpr c51
                            have c51b1 : (t271 != t273) = false := bne_eq_false_iff_eq.mpr c51
                            clear c51
                            (first | rw [c51b0] | (simp only [i64_w, i32_w]; rw [c51b0]) | skip)
                            have H' := Aside0.mk H
                            clear H
                            go_wp2
                            go_meet
                            case rel => exact ⟨_, ((t272 != t274)), (by first | rfl | (simp; done) | (simp [*]; done)), H', ⟨by have := HJ6.out; have := HJ10.out; have := HJ26.out; have := HJ31.out; first | omega | exact Nat.le_refl _⟩, ⟨by repeat (first | (with_reducible first | exact HB.out | apply below_alloc | apply pw_below_drewN | apply below_drew1) | exact HB.out)⟩⟩
                          · rw [if_neg c51] at H
                            have c51b0 : (t271 == t273) = false := beq_eq_false_iff_ne.mpr c51
                            have c51b1 : (t271 != t273) = true := bne_iff_ne.mpr c51
                            (first | rw [c51b0] | (simp only [i64_w, i32_w]; rw [c51b0]) | skip)
                            have H' := Aside0.mk H
                            clear H
                            go_wp2
                            go_meet
                            case rel => exact ⟨_, (true), (by first | rfl | (simp; done) | (simp [*]; done)), H', ⟨by have := HJ6.out; have := HJ10.out; have := HJ26.out; have := HJ31.out; first | omega | exact Nat.le_refl _⟩, ⟨by repeat (first | (with_reducible first | exact HB.out | apply below_alloc | apply pw_below_drewN | apply below_drew1) | exact HB.out)⟩⟩
                        case rest => as_aux_lemma =>
                          clear HC47
                          try clear c1
                          try clear c2
                          try clear p2
                          try clear c3
                          try clear c4
                          try clear c5
                          try clear p6
                          try clear c9
                          try clear c9b0
                          try clear c9b1
                          try clear c10
                          try clear c11
                          try clear c12
                          try clear c13
                          try clear c15
                          try clear c16
                          try clear c16b0
                          try clear c16b1
                          try clear c17
                          try clear c18
                          try clear c18b0
                          try clear c18b1
                          try clear c19
                          try clear c20
                          try clear c28
                          try clear c30
                          try clear c30b0
                          try clear c30b1
                          try clear c31
                          try clear c32
                          try clear c33
                          try clear c34
                          try clear c36
                          try clear c36b0
                          try clear c39
                          try clear c40
                          try clear c41
                          try clear c42
                          try clear c43
                          try clear c43b0
                          try clear c51
                          try clear c51b0
                          try clear c51b1
                          try clear p2
                          try clear p6
                          obtain ⟨kq, x196_46, rfl, HA, HJ46, HB⟩ := hcut
                          cases kq with
                          | zero => exact absurd HA.out (by simp [laws_FnBearings.j5])
                          | succ kj46 =>
                            have H := HA.out
                            clear HA
                            simp only [laws_FnBearings.j5] at H
                            by_cases c52 : x196_46 = true
                            · subst c52
                              have H1 : (some false) = some r := by rw [if_pos rfl] at H; exact H
                              clear H
                              have H := H1
                              clear H1
                              obtain rfl := Option.some.inj H
                              go_wp2
                              go_ret
                              exact ⟨by first | rfl | (simp [errW_none, errW_some] <;> rfl) | (simp [*, errW_none, errW_some] <;> rfl), by repeat (first | (with_reducible first | exact HB.out | apply below_alloc | apply pw_below_drewN | apply below_drew1) | exact HB.out)⟩
                            · replace c52 := Bool.eq_false_iff.mpr c52
                              subst c52
                              have H1 : (if t272 = true then ((impl_SlopeTo.f kj46 t269 (wrap64 (-t270))).bind fun bt275 => (if bt275.2 = true then (if t269 > 0 then (if bt275.1 = (wrap64 (-t271)) then (if t271 < (-90) then (some false) else (if t271 > 90 then (some false) else (laws_FnBearings.j6 kj46 l0))) else (some false)) else (if t271 < (-90) then (some false) else (if t271 > 90 then (some false) else (laws_FnBearings.j6 kj46 l0)))) else (some false))) else (laws_FnBearings.j6 kj46 l0)) = some r := by rw [if_neg (show ¬ (false = true) by decide)] at H; exact H
                              clear H
                              have H := H1
                              clear H1
                              have HC53 := Aside0.mk H
                              clear H
                              go_upto_if 197 with (fail)
                              go_cut [] (fun wc => ∃ (kq : Nat), Aside0 (laws_FnBearings.j6 kq l0 = some r) ∧ Aside0 (kq ≤ kj46) ∧ Aside0 (Below w.heap.size w wc))
                              case first => as_aux_lemma =>
                                have H := HC53.out
                                clear HC53
                                by_cases c54 : t272 = true
                                · subst c54
                                  have H1 : ((impl_SlopeTo.f kj46 t269 (wrap64 (-t270))).bind fun bt275 => (if bt275.2 = true then (if t269 > 0 then (if bt275.1 = (wrap64 (-t271)) then (if t271 < (-90) then (some false) else (if t271 > 90 then (some false) else (laws_FnBearings.j6 kj46 l0))) else (some false)) else (if t271 < (-90) then (some false) else (if t271 > 90 then (some false) else (laws_FnBearings.j6 kj46 l0)))) else (some false))) = some r := by rw [if_pos rfl] at H; exact H
                                  clear H
                                  have H := H1
                                  clear H1
                                  replace H := Option.bind_eq_some_iff.mp H
                                  obtain ⟨⟨t275, t276⟩, A550, H⟩ := H
                                  replace H : (if t276 = true then (if t269 > 0 then (if t275 = (wrap64 (-t271)) then (if t271 < (-90) then (some false) else (if t271 > 90 then (some false) else (laws_FnBearings.j6 kj46 l0))) else (some false)) else (if t271 < (-90) then (some false) else (if t271 > 90 then (some false) else (laws_FnBearings.j6 kj46 l0)))) else (some false)) = some r := H
                                  have A55 := Aside0.mk A550
                                  clear A550
                                  by_cases c56 : t276 = true
                                  · subst c56
                                    have H1 : (if t269 > 0 then (if t275 = (wrap64 (-t271)) then (if t271 < (-90) then (some false) else (if t271 > 90 then (some false) else (laws_FnBearings.j6 kj46 l0))) else (some false)) else (if t271 < (-90) then (some false) else (if t271 > 90 then (some false) else (laws_FnBearings.j6 kj46 l0)))) = some r := by rw [if_pos rfl] at H; exact H
                                    clear H
                                    have H := H1
                                    clear H1
                                    by_cases c57 : t269 > 0
                                    · rw [if_pos c57] at H
                                      have c57b0 : decide (0 < t269) = true := decide_eq_true c57
                                      clear c57
                                      (first | rw [c57b0] | (simp only [i64_w, i32_w]; rw [c57b0]) | skip)
                                      by_cases c58 : t275 = (wrap64 (-t271))
                                      · rw [if_pos c58] at H
                                        have c58b0 : (t275 == (wrap64 (-t271))) = true := beq_iff_eq.mpr c58
                                        have c58b1 : (t275 != (wrap64 (-t271))) = false := bne_eq_false_iff_eq.mpr c58
                                        clear c58
                                        by_cases c59 : t271 < (-90)
                                        · rw [if_pos c59] at H
                                          have c59b0 : decide (t271 < (-90)) = true := decide_eq_true c59
                                          clear c59
                                          obtain rfl := Option.some.inj H
                                          go_wp2_with (first | ((with_reducible refine gate_callee (f := 19) rfl ?_); refine goesL_ (some 202) rfl rfl Tryd.func19 (by kernel_rfl) rfl #[.int .i64 t269, .int .i64 (wrap64 (-t270))] rfl (by (try simp only [List.map_toArray, List.map_cons, List.map_nil]); first | done | rfl | (simp only [List.length_drop, List.length_take]; rfl)) ?_; (with_reducible refine (impl_SlopeTo.calls kj46 t269 (wrap64 (-t270)) t275 true _ ?sideT A55.out).mono ?_); (case sideT => first | exact HT.out | (refine Tab.drawn HT.out ?_; (repeat (first | exact Drawn0.refl _ | apply Drawn0.step)); done) | (refine Tab.below HT.out ?_; repeat (first | (with_reducible first | exact HB.out | apply below_alloc | apply pw_below_drewN | apply below_drew1) | exact HB.out))); rintro e w60 ⟨rfl, hb⟩; refine ⟨_, rfl, ?_⟩; have n0_ := Aside0.mk (below_step (by repeat (first | (with_reducible first | exact HB.out | apply below_alloc | apply pw_below_drewN | apply below_drew1) | exact HB.out)) hb); clear HB; have HB := n0_; clear n0_; (try clear hb); (try clear hb2); (try clear hk); (try clear hi)))
                                          go_ret
                                          exact ⟨by first | rfl | (simp [errW_none, errW_some] <;> rfl) | (simp [*, errW_none, errW_some] <;> rfl), by repeat (first | (with_reducible first | exact HB.out | apply below_alloc | apply pw_below_drewN | apply below_drew1) | exact HB.out)⟩
                                        · rw [if_neg c59] at H
                                          have c59b0 : decide (t271 < (-90)) = false := decide_eq_false c59
                                          clear c59
                                          by_cases c61 : t271 > 90
                                          · rw [if_pos c61] at H
                                            have c61b0 : decide (90 < t271) = true := decide_eq_true c61
                                            clear c61
                                            obtain rfl := Option.some.inj H
                                            go_wp2_with (first | ((with_reducible refine gate_callee (f := 19) rfl ?_); refine goesL_ (some 202) rfl rfl Tryd.func19 (by kernel_rfl) rfl #[.int .i64 t269, .int .i64 (wrap64 (-t270))] rfl (by (try simp only [List.map_toArray, List.map_cons, List.map_nil]); first | done | rfl | (simp only [List.length_drop, List.length_take]; rfl)) ?_; (with_reducible refine (impl_SlopeTo.calls kj46 t269 (wrap64 (-t270)) t275 true _ ?sideT A55.out).mono ?_); (case sideT => first | exact HT.out | (refine Tab.drawn HT.out ?_; (repeat (first | exact Drawn0.refl _ | apply Drawn0.step)); done) | (refine Tab.below HT.out ?_; repeat (first | (with_reducible first | exact HB.out | apply below_alloc | apply pw_below_drewN | apply below_drew1) | exact HB.out))); rintro e w62 ⟨rfl, hb⟩; refine ⟨_, rfl, ?_⟩; have n0_ := Aside0.mk (below_step (by repeat (first | (with_reducible first | exact HB.out | apply below_alloc | apply pw_below_drewN | apply below_drew1) | exact HB.out)) hb); clear HB; have HB := n0_; clear n0_; (try clear hb); (try clear hb2); (try clear hk); (try clear hi)))
                                            go_ret
                                            exact ⟨by first | rfl | (simp [errW_none, errW_some] <;> rfl) | (simp [*, errW_none, errW_some] <;> rfl), by repeat (first | (with_reducible first | exact HB.out | apply below_alloc | apply pw_below_drewN | apply below_drew1) | exact HB.out)⟩
                                          · rw [if_neg c61] at H
                                            have c61b0 : decide (90 < t271) = false := decide_eq_false c61
                                            clear c61
                                            have H' := Aside0.mk H
                                            clear H
                                            go_wp2_with (first | ((with_reducible refine gate_callee (f := 19) rfl ?_); refine goesL_ (some 202) rfl rfl Tryd.func19 (by kernel_rfl) rfl #[.int .i64 t269, .int .i64 (wrap64 (-t270))] rfl (by (try simp only [List.map_toArray, List.map_cons, List.map_nil]); first | done | rfl | (simp only [List.length_drop, List.length_take]; rfl)) ?_; (with_reducible refine (impl_SlopeTo.calls kj46 t269 (wrap64 (-t270)) t275 true _ ?sideT A55.out).mono ?_); (case sideT => first | exact HT.out | (refine Tab.drawn HT.out ?_; (repeat (first | exact Drawn0.refl _ | apply Drawn0.step)); done) | (refine Tab.below HT.out ?_; repeat (first | (with_reducible first | exact HB.out | apply below_alloc | apply pw_below_drewN | apply below_drew1) | exact HB.out))); rintro e w63 ⟨rfl, hb⟩; refine ⟨_, rfl, ?_⟩; have n0_ := Aside0.mk (below_step (by repeat (first | (with_reducible first | exact HB.out | apply below_alloc | apply pw_below_drewN | apply below_drew1) | exact HB.out)) hb); clear HB; have HB := n0_; clear n0_; (try clear hb); (try clear hb2); (try clear hk); (try clear hi)))
                                            go_meet
                                            case rel => exact ⟨_, H', ⟨by have := HJ6.out; have := HJ10.out; have := HJ26.out; have := HJ31.out; have := HJ46.out; first | omega | exact Nat.le_refl _⟩, ⟨by repeat (first | (with_reducible first | exact HB.out | apply below_alloc | apply pw_below_drewN | apply below_drew1) | exact HB.out)⟩⟩
                                      · rw [if_neg c58] at H
                                        have c58b0 : (t275 == (wrap64 (-t271))) = false := beq_eq_false_iff_ne.mpr c58
                                        have c58b1 : (t275 != (wrap64 (-t271))) = true := bne_iff_ne.mpr c58
                                        obtain rfl := Option.some.inj H
                                        go_wp2_with (first | ((with_reducible refine gate_callee (f := 19) rfl ?_); refine goesL_ (some 202) rfl rfl Tryd.func19 (by kernel_rfl) rfl #[.int .i64 t269, .int .i64 (wrap64 (-t270))] rfl (by (try simp only [List.map_toArray, List.map_cons, List.map_nil]); first | done | rfl | (simp only [List.length_drop, List.length_take]; rfl)) ?_; (with_reducible refine (impl_SlopeTo.calls kj46 t269 (wrap64 (-t270)) t275 true _ ?sideT A55.out).mono ?_); (case sideT => first | exact HT.out | (refine Tab.drawn HT.out ?_; (repeat (first | exact Drawn0.refl _ | apply Drawn0.step)); done) | (refine Tab.below HT.out ?_; repeat (first | (with_reducible first | exact HB.out | apply below_alloc | apply pw_below_drewN | apply below_drew1) | exact HB.out))); rintro e w64 ⟨rfl, hb⟩; refine ⟨_, rfl, ?_⟩; have n0_ := Aside0.mk (below_step (by repeat (first | (with_reducible first | exact HB.out | apply below_alloc | apply pw_below_drewN | apply below_drew1) | exact HB.out)) hb); clear HB; have HB := n0_; clear n0_; (try clear hb); (try clear hb2); (try clear hk); (try clear hi)))
                                        go_ret
                                        exact ⟨by first | rfl | (simp [errW_none, errW_some] <;> rfl) | (simp [*, errW_none, errW_some] <;> rfl), by repeat (first | (with_reducible first | exact HB.out | apply below_alloc | apply pw_below_drewN | apply below_drew1) | exact HB.out)⟩
                                    · rw [if_neg c57] at H
                                      have c57b0 : decide (0 < t269) = false := decide_eq_false c57
                                      clear c57
                                      (first | rw [c57b0] | (simp only [i64_w, i32_w]; rw [c57b0]) | skip)
                                      by_cases c65 : t271 < (-90)
                                      · rw [if_pos c65] at H
                                        have c65b0 : decide (t271 < (-90)) = true := decide_eq_true c65
                                        clear c65
                                        obtain rfl := Option.some.inj H
                                        go_wp2_with (first | ((with_reducible refine gate_callee (f := 19) rfl ?_); refine goesL_ (some 202) rfl rfl Tryd.func19 (by kernel_rfl) rfl #[.int .i64 t269, .int .i64 (wrap64 (-t270))] rfl (by (try simp only [List.map_toArray, List.map_cons, List.map_nil]); first | done | rfl | (simp only [List.length_drop, List.length_take]; rfl)) ?_; (with_reducible refine (impl_SlopeTo.calls kj46 t269 (wrap64 (-t270)) t275 true _ ?sideT A55.out).mono ?_); (case sideT => first | exact HT.out | (refine Tab.drawn HT.out ?_; (repeat (first | exact Drawn0.refl _ | apply Drawn0.step)); done) | (refine Tab.below HT.out ?_; repeat (first | (with_reducible first | exact HB.out | apply below_alloc | apply pw_below_drewN | apply below_drew1) | exact HB.out))); rintro e w66 ⟨rfl, hb⟩; refine ⟨_, rfl, ?_⟩; have n0_ := Aside0.mk (below_step (by repeat (first | (with_reducible first | exact HB.out | apply below_alloc | apply pw_below_drewN | apply below_drew1) | exact HB.out)) hb); clear HB; have HB := n0_; clear n0_; (try clear hb); (try clear hb2); (try clear hk); (try clear hi)))
                                        go_ret
                                        exact ⟨by first | rfl | (simp [errW_none, errW_some] <;> rfl) | (simp [*, errW_none, errW_some] <;> rfl), by repeat (first | (with_reducible first | exact HB.out | apply below_alloc | apply pw_below_drewN | apply below_drew1) | exact HB.out)⟩
                                      · rw [if_neg c65] at H
                                        have c65b0 : decide (t271 < (-90)) = false := decide_eq_false c65
                                        clear c65
                                        by_cases c67 : t271 > 90
                                        · rw [if_pos c67] at H
                                          have c67b0 : decide (90 < t271) = true := decide_eq_true c67
                                          clear c67
                                          obtain rfl := Option.some.inj H
                                          go_wp2_with (first | ((with_reducible refine gate_callee (f := 19) rfl ?_); refine goesL_ (some 202) rfl rfl Tryd.func19 (by kernel_rfl) rfl #[.int .i64 t269, .int .i64 (wrap64 (-t270))] rfl (by (try simp only [List.map_toArray, List.map_cons, List.map_nil]); first | done | rfl | (simp only [List.length_drop, List.length_take]; rfl)) ?_; (with_reducible refine (impl_SlopeTo.calls kj46 t269 (wrap64 (-t270)) t275 true _ ?sideT A55.out).mono ?_); (case sideT => first | exact HT.out | (refine Tab.drawn HT.out ?_; (repeat (first | exact Drawn0.refl _ | apply Drawn0.step)); done) | (refine Tab.below HT.out ?_; repeat (first | (with_reducible first | exact HB.out | apply below_alloc | apply pw_below_drewN | apply below_drew1) | exact HB.out))); rintro e w68 ⟨rfl, hb⟩; refine ⟨_, rfl, ?_⟩; have n0_ := Aside0.mk (below_step (by repeat (first | (with_reducible first | exact HB.out | apply below_alloc | apply pw_below_drewN | apply below_drew1) | exact HB.out)) hb); clear HB; have HB := n0_; clear n0_; (try clear hb); (try clear hb2); (try clear hk); (try clear hi)))
                                          go_ret
                                          exact ⟨by first | rfl | (simp [errW_none, errW_some] <;> rfl) | (simp [*, errW_none, errW_some] <;> rfl), by repeat (first | (with_reducible first | exact HB.out | apply below_alloc | apply pw_below_drewN | apply below_drew1) | exact HB.out)⟩
                                        · rw [if_neg c67] at H
                                          have c67b0 : decide (90 < t271) = false := decide_eq_false c67
                                          clear c67
                                          have H' := Aside0.mk H
                                          clear H
                                          go_wp2_with (first | ((with_reducible refine gate_callee (f := 19) rfl ?_); refine goesL_ (some 202) rfl rfl Tryd.func19 (by kernel_rfl) rfl #[.int .i64 t269, .int .i64 (wrap64 (-t270))] rfl (by (try simp only [List.map_toArray, List.map_cons, List.map_nil]); first | done | rfl | (simp only [List.length_drop, List.length_take]; rfl)) ?_; (with_reducible refine (impl_SlopeTo.calls kj46 t269 (wrap64 (-t270)) t275 true _ ?sideT A55.out).mono ?_); (case sideT => first | exact HT.out | (refine Tab.drawn HT.out ?_; (repeat (first | exact Drawn0.refl _ | apply Drawn0.step)); done) | (refine Tab.below HT.out ?_; repeat (first | (with_reducible first | exact HB.out | apply below_alloc | apply pw_below_drewN | apply below_drew1) | exact HB.out))); rintro e w69 ⟨rfl, hb⟩; refine ⟨_, rfl, ?_⟩; have n0_ := Aside0.mk (below_step (by repeat (first | (with_reducible first | exact HB.out | apply below_alloc | apply pw_below_drewN | apply below_drew1) | exact HB.out)) hb); clear HB; have HB := n0_; clear n0_; (try clear hb); (try clear hb2); (try clear hk); (try clear hi)))
                                          go_meet
                                          case rel => exact ⟨_, H', ⟨by have := HJ6.out; have := HJ10.out; have := HJ26.out; have := HJ31.out; have := HJ46.out; first | omega | exact Nat.le_refl _⟩, ⟨by repeat (first | (with_reducible first | exact HB.out | apply below_alloc | apply pw_below_drewN | apply below_drew1) | exact HB.out)⟩⟩
                                  · replace c56 := Bool.eq_false_iff.mpr c56
                                    subst c56
                                    have H1 : (some false) = some r := by rw [if_neg (show ¬ (false = true) by decide)] at H; exact H
                                    clear H
                                    have H := H1
                                    clear H1
                                    obtain rfl := Option.some.inj H
                                    go_wp2_with (first | ((with_reducible refine gate_callee (f := 19) rfl ?_); refine goesL_ (some 202) rfl rfl Tryd.func19 (by kernel_rfl) rfl #[.int .i64 t269, .int .i64 (wrap64 (-t270))] rfl (by (try simp only [List.map_toArray, List.map_cons, List.map_nil]); first | done | rfl | (simp only [List.length_drop, List.length_take]; rfl)) ?_; (with_reducible refine (impl_SlopeTo.calls kj46 t269 (wrap64 (-t270)) t275 false _ ?sideT A55.out).mono ?_); (case sideT => first | exact HT.out | (refine Tab.drawn HT.out ?_; (repeat (first | exact Drawn0.refl _ | apply Drawn0.step)); done) | (refine Tab.below HT.out ?_; repeat (first | (with_reducible first | exact HB.out | apply below_alloc | apply pw_below_drewN | apply below_drew1) | exact HB.out))); rintro e w70 ⟨rfl, hb⟩; refine ⟨_, rfl, ?_⟩; have n0_ := Aside0.mk (below_step (by repeat (first | (with_reducible first | exact HB.out | apply below_alloc | apply pw_below_drewN | apply below_drew1) | exact HB.out)) hb); clear HB; have HB := n0_; clear n0_; (try clear hb); (try clear hb2); (try clear hk); (try clear hi)))
                                    go_ret
                                    exact ⟨by first | rfl | (simp [errW_none, errW_some] <;> rfl) | (simp [*, errW_none, errW_some] <;> rfl), by repeat (first | (with_reducible first | exact HB.out | apply below_alloc | apply pw_below_drewN | apply below_drew1) | exact HB.out)⟩
                                · replace c54 := Bool.eq_false_iff.mpr c54
                                  subst c54
                                  have H1 : (laws_FnBearings.j6 kj46 l0) = some r := by rw [if_neg (show ¬ (false = true) by decide)] at H; exact H
                                  clear H
                                  have H := H1
                                  clear H1
                                  have H' := Aside0.mk H
                                  clear H
                                  go_wp2
                                  go_meet
                                  case rel => exact ⟨_, H', ⟨by have := HJ6.out; have := HJ10.out; have := HJ26.out; have := HJ31.out; have := HJ46.out; first | omega | exact Nat.le_refl _⟩, ⟨by repeat (first | (with_reducible first | exact HB.out | apply below_alloc | apply pw_below_drewN | apply below_drew1) | exact HB.out)⟩⟩
                              case rest => as_aux_lemma =>
                                clear HC53
                                try clear c1
                                try clear c2
                                try clear p2
                                try clear c3
                                try clear c4
                                try clear c5
                                try clear c6
                                try clear p6
                                try clear c9
                                try clear c9b0
                                try clear c9b1
                                try clear c10
                                try clear c11
                                try clear c12
                                try clear c13
                                try clear c15
                                try clear c16
                                try clear c16b0
                                try clear c16b1
                                try clear c17
                                try clear c18
                                try clear c18b0
                                try clear c18b1
                                try clear c19
                                try clear c20
                                try clear c28
                                try clear c30
                                try clear c30b0
                                try clear c30b1
                                try clear c31
                                try clear c32
                                try clear c33
                                try clear c34
                                try clear c36
                                try clear c36b0
                                try clear c39
                                try clear c40
                                try clear c41
                                try clear c42
                                try clear c43
                                try clear c43b0
                                try clear c51
                                try clear c51b0
                                try clear c51b1
                                try clear c52
                                try clear c54
                                try clear c56
                                try clear c57
                                try clear c57b0
                                try clear c58
                                try clear c58b0
                                try clear c58b1
                                try clear c59
                                try clear c59b0
                                try clear c61
                                try clear c61b0
                                try clear p64
                                try clear c65
                                try clear c65b0
                                try clear c67
                                try clear c67b0
                                try clear p2
                                try clear p6
                                obtain ⟨kq, HA, HJ52, HB⟩ := hcut
                                cases kq with
                                | zero => exact absurd HA.out (by simp [laws_FnBearings.j6])
                                | succ kj52 =>
                                  have H := HA.out
                                  clear HA
                                  simp only [laws_FnBearings.j6] at H
                                  replace H := Option.bind_eq_some_iff.mp H
                                  obtain ⟨⟨t277, t278, t279⟩, A710, H⟩ := H
                                  replace H : ((impl_LengthOf.f kj52 t277 t278 t279).bind fun bt280 => ((spec_LengthOf.f kj52 t277 t278 t279).bind fun bt282 => (if bt280.1 = bt282.1 then (if (bt280.2 != bt282.2) = true then (some false) else (if bt280.2 = true then (if (wrap64 (bt280.1 * bt280.1)) ≤ (wrap64 ((wrap64 ((wrap64 (t277 * t277)) + (wrap64 (t278 * t278)))) + (wrap64 (t279 * t279)))) then (some (decide ((wrap64 ((wrap64 (bt280.1 + 1)) * (wrap64 (bt280.1 + 1)))) > (wrap64 ((wrap64 ((wrap64 (t277 * t277)) + (wrap64 (t278 * t278)))) + (wrap64 (t279 * t279))))))) else (some false)) else (some true))) else (some false)))) = some r := H
                                  have A71 := Aside0.mk A710
                                  clear A710
                                  replace H := Option.bind_eq_some_iff.mp H
                                  obtain ⟨⟨t280, t281⟩, A720, H⟩ := H
                                  replace H : ((spec_LengthOf.f kj52 t277 t278 t279).bind fun bt282 => (if t280 = bt282.1 then (if (t281 != bt282.2) = true then (some false) else (if t281 = true then (if (wrap64 (t280 * t280)) ≤ (wrap64 ((wrap64 ((wrap64 (t277 * t277)) + (wrap64 (t278 * t278)))) + (wrap64 (t279 * t279)))) then (some (decide ((wrap64 ((wrap64 (t280 + 1)) * (wrap64 (t280 + 1)))) > (wrap64 ((wrap64 ((wrap64 (t277 * t277)) + (wrap64 (t278 * t278)))) + (wrap64 (t279 * t279))))))) else (some false)) else (some true))) else (some false))) = some r := H
                                  have A72 := Aside0.mk A720
                                  clear A720
                                  replace H := Option.bind_eq_some_iff.mp H
                                  obtain ⟨⟨t282, t283⟩, A730, H⟩ := H
                                  replace H : (if t280 = t282 then (if (t281 != t283) = true then (some false) else (if t281 = true then (if (wrap64 (t280 * t280)) ≤ (wrap64 ((wrap64 ((wrap64 (t277 * t277)) + (wrap64 (t278 * t278)))) + (wrap64 (t279 * t279)))) then (some (decide ((wrap64 ((wrap64 (t280 + 1)) * (wrap64 (t280 + 1)))) > (wrap64 ((wrap64 ((wrap64 (t277 * t277)) + (wrap64 (t278 * t278)))) + (wrap64 (t279 * t279))))))) else (some false)) else (some true))) else (some false)) = some r := H
                                  have A73 := Aside0.mk A730
                                  clear A730
                                  by_cases c74 : t280 = t282
                                  · rw [if_pos c74] at H
                                    have c74b0 : (t280 == t282) = true := beq_iff_eq.mpr c74
                                    have c74b1 : (t280 != t282) = false := bne_eq_false_iff_eq.mpr c74
                                    clear c74
                                    by_cases c75 : (t281 != t283) = true
                                    · rw [if_pos c75] at H
                                      have c75b0 : (t281 != t283) = true := c75
                                      (try (have c75b1 : decide (t281 = t283) = false := by simpa using c75))
                                      (try (have c75b2 : (t281 == t283) = false := by simpa using c75))
                                      (try (have c75b3 : ¬ (t281 = t283) := by simpa using c75))
                                      clear c75
                                      obtain rfl := Option.some.inj H
                                      go_wp2_with (first | ((with_reducible refine gate_callee (f := 35) rfl ?_); refine goesL_ (some 227) rfl rfl Tryd.func35 (by kernel_rfl) rfl #[.slice A0 l0.length c0] rfl (by (try simp only [List.map_toArray, List.map_cons, List.map_nil]); first | done | rfl | (simp only [List.length_drop, List.length_take]; rfl)) ?_; (with_reducible refine (spec_DrawLengthOf.calls _ _ l0 t277 t278 t279 _ ?side1 ?side2 A71.out).mono ?_); (case side1 => repeat (first | exact (Kd.C_below HR0.out HB.out) | (with_reducible refine Kd.C_alloc ?_ _) | (with_reducible refine Kd.C_drewN ?_ _) | (with_reducible refine Kd.C_drew ?_))); (case side2 => exact HC0.out); rintro e w76 ⟨rfl, hb⟩; refine ⟨_, rfl, ?_⟩; have n0_ := Aside0.mk (below_step (by repeat (first | (with_reducible first | exact HB.out | apply below_alloc | apply pw_below_drewN | apply below_drew1) | exact HB.out)) hb); clear HB; have HB := n0_; clear n0_; (try clear hb); (try clear hb2); (try clear hk); (try clear hi)) | ((with_reducible refine gate_callee (f := 36) rfl ?_); refine goesL_ (some 235) rfl rfl Tryd.func36 (by kernel_rfl) rfl #[.int .i64 t277, .int .i64 t278, .int .i64 t279] rfl (by (try simp only [List.map_toArray, List.map_cons, List.map_nil]); first | done | rfl | (simp only [List.length_drop, List.length_take]; rfl)) ?_; (with_reducible refine (impl_LengthOf.calls kj52 t277 t278 t279 t280 t281 _ A72.out).mono ?_); rintro e w' ⟨rfl, ⟨nd, rfl⟩⟩; refine ⟨_, rfl, ?_⟩) | ((with_reducible refine gate_callee (f := 37) rfl ?_); refine goesL_ (some 242) rfl rfl Tryd.func37 (by kernel_rfl) rfl #[.int .i64 t277, .int .i64 t278, .int .i64 t279] rfl (by (try simp only [List.map_toArray, List.map_cons, List.map_nil]); first | done | rfl | (simp only [List.length_drop, List.length_take]; rfl)) ?_; (with_reducible refine (spec_LengthOf.calls kj52 t277 t278 t279 t282 t283 _ A73.out).mono ?_); rintro e w' ⟨rfl, ⟨nd, rfl⟩⟩; refine ⟨_, rfl, ?_⟩))
                                      go_ret
                                      exact ⟨by first | rfl | (simp [errW_none, errW_some] <;> rfl) | (simp [*, errW_none, errW_some] <;> rfl), by repeat (first | (with_reducible first | exact HB.out | apply below_alloc | apply pw_below_drewN | apply below_drew1) | exact HB.out)⟩
                                    · rw [if_neg c75] at H
                                      have c75b0 : (t281 != t283) = false := by simpa using c75
                                      (try (have c75b1 : decide (t281 = t283) = true := by simpa using c75))
                                      (try (have c75b2 : (t281 == t283) = true := by simpa using c75))
                                      clear c75
                                      by_cases c77 : t281 = true
                                      · subst c77
                                        have H1 : (if (wrap64 (t280 * t280)) ≤ (wrap64 ((wrap64 ((wrap64 (t277 * t277)) + (wrap64 (t278 * t278)))) + (wrap64 (t279 * t279)))) then (some (decide ((wrap64 ((wrap64 (t280 + 1)) * (wrap64 (t280 + 1)))) > (wrap64 ((wrap64 ((wrap64 (t277 * t277)) + (wrap64 (t278 * t278)))) + (wrap64 (t279 * t279))))))) else (some false)) = some r := by rw [if_pos rfl] at H; exact H
                                        clear H
                                        have H := H1
                                        clear H1
                                        by_cases c78 : (wrap64 (t280 * t280)) ≤ (wrap64 ((wrap64 ((wrap64 (t277 * t277)) + (wrap64 (t278 * t278)))) + (wrap64 (t279 * t279))))
                                        · rw [if_pos c78] at H
                                          have c78b0 : decide ((wrap64 (t280 * t280)) ≤ (wrap64 ((wrap64 ((wrap64 (t277 * t277)) + (wrap64 (t278 * t278)))) + (wrap64 (t279 * t279))))) = true := decide_eq_true c78
                                          clear c78
                                          obtain rfl := Option.some.inj H
                                          go_wp2_with (first | ((with_reducible refine gate_callee (f := 35) rfl ?_); refine goesL_ (some 227) rfl rfl Tryd.func35 (by kernel_rfl) rfl #[.slice A0 l0.length c0] rfl (by (try simp only [List.map_toArray, List.map_cons, List.map_nil]); first | done | rfl | (simp only [List.length_drop, List.length_take]; rfl)) ?_; (with_reducible refine (spec_DrawLengthOf.calls _ _ l0 t277 t278 t279 _ ?side1 ?side2 A71.out).mono ?_); (case side1 => repeat (first | exact (Kd.C_below HR0.out HB.out) | (with_reducible refine Kd.C_alloc ?_ _) | (with_reducible refine Kd.C_drewN ?_ _) | (with_reducible refine Kd.C_drew ?_))); (case side2 => exact HC0.out); rintro e w79 ⟨rfl, hb⟩; refine ⟨_, rfl, ?_⟩; have n0_ := Aside0.mk (below_step (by repeat (first | (with_reducible first | exact HB.out | apply below_alloc | apply pw_below_drewN | apply below_drew1) | exact HB.out)) hb); clear HB; have HB := n0_; clear n0_; (try clear hb); (try clear hb2); (try clear hk); (try clear hi)) | ((with_reducible refine gate_callee (f := 36) rfl ?_); refine goesL_ (some 235) rfl rfl Tryd.func36 (by kernel_rfl) rfl #[.int .i64 t277, .int .i64 t278, .int .i64 t279] rfl (by (try simp only [List.map_toArray, List.map_cons, List.map_nil]); first | done | rfl | (simp only [List.length_drop, List.length_take]; rfl)) ?_; (with_reducible refine (impl_LengthOf.calls kj52 t277 t278 t279 t280 true _ A72.out).mono ?_); rintro e w' ⟨rfl, ⟨nd, rfl⟩⟩; refine ⟨_, rfl, ?_⟩) | ((with_reducible refine gate_callee (f := 37) rfl ?_); refine goesL_ (some 242) rfl rfl Tryd.func37 (by kernel_rfl) rfl #[.int .i64 t277, .int .i64 t278, .int .i64 t279] rfl (by (try simp only [List.map_toArray, List.map_cons, List.map_nil]); first | done | rfl | (simp only [List.length_drop, List.length_take]; rfl)) ?_; (with_reducible refine (spec_LengthOf.calls kj52 t277 t278 t279 t282 t283 _ A73.out).mono ?_); rintro e w' ⟨rfl, ⟨nd, rfl⟩⟩; refine ⟨_, rfl, ?_⟩))
                                          go_ret
                                          exact ⟨by first | rfl | (simp [errW_none, errW_some] <;> rfl) | (simp [*, errW_none, errW_some] <;> rfl), by repeat (first | (with_reducible first | exact HB.out | apply below_alloc | apply pw_below_drewN | apply below_drew1) | exact HB.out)⟩
                                        · rw [if_neg c78] at H
                                          have c78b0 : decide ((wrap64 (t280 * t280)) ≤ (wrap64 ((wrap64 ((wrap64 (t277 * t277)) + (wrap64 (t278 * t278)))) + (wrap64 (t279 * t279))))) = false := decide_eq_false c78
                                          clear c78
                                          obtain rfl := Option.some.inj H
                                          go_wp2_with (first | ((with_reducible refine gate_callee (f := 35) rfl ?_); refine goesL_ (some 227) rfl rfl Tryd.func35 (by kernel_rfl) rfl #[.slice A0 l0.length c0] rfl (by (try simp only [List.map_toArray, List.map_cons, List.map_nil]); first | done | rfl | (simp only [List.length_drop, List.length_take]; rfl)) ?_; (with_reducible refine (spec_DrawLengthOf.calls _ _ l0 t277 t278 t279 _ ?side1 ?side2 A71.out).mono ?_); (case side1 => repeat (first | exact (Kd.C_below HR0.out HB.out) | (with_reducible refine Kd.C_alloc ?_ _) | (with_reducible refine Kd.C_drewN ?_ _) | (with_reducible refine Kd.C_drew ?_))); (case side2 => exact HC0.out); rintro e w80 ⟨rfl, hb⟩; refine ⟨_, rfl, ?_⟩; have n0_ := Aside0.mk (below_step (by repeat (first | (with_reducible first | exact HB.out | apply below_alloc | apply pw_below_drewN | apply below_drew1) | exact HB.out)) hb); clear HB; have HB := n0_; clear n0_; (try clear hb); (try clear hb2); (try clear hk); (try clear hi)) | ((with_reducible refine gate_callee (f := 36) rfl ?_); refine goesL_ (some 235) rfl rfl Tryd.func36 (by kernel_rfl) rfl #[.int .i64 t277, .int .i64 t278, .int .i64 t279] rfl (by (try simp only [List.map_toArray, List.map_cons, List.map_nil]); first | done | rfl | (simp only [List.length_drop, List.length_take]; rfl)) ?_; (with_reducible refine (impl_LengthOf.calls kj52 t277 t278 t279 t280 true _ A72.out).mono ?_); rintro e w' ⟨rfl, ⟨nd, rfl⟩⟩; refine ⟨_, rfl, ?_⟩) | ((with_reducible refine gate_callee (f := 37) rfl ?_); refine goesL_ (some 242) rfl rfl Tryd.func37 (by kernel_rfl) rfl #[.int .i64 t277, .int .i64 t278, .int .i64 t279] rfl (by (try simp only [List.map_toArray, List.map_cons, List.map_nil]); first | done | rfl | (simp only [List.length_drop, List.length_take]; rfl)) ?_; (with_reducible refine (spec_LengthOf.calls kj52 t277 t278 t279 t282 t283 _ A73.out).mono ?_); rintro e w' ⟨rfl, ⟨nd, rfl⟩⟩; refine ⟨_, rfl, ?_⟩))
                                          go_ret
                                          exact ⟨by first | rfl | (simp [errW_none, errW_some] <;> rfl) | (simp [*, errW_none, errW_some] <;> rfl), by repeat (first | (with_reducible first | exact HB.out | apply below_alloc | apply pw_below_drewN | apply below_drew1) | exact HB.out)⟩
                                      · replace c77 := Bool.eq_false_iff.mpr c77
                                        subst c77
                                        have H1 : (some true) = some r := by rw [if_neg (show ¬ (false = true) by decide)] at H; exact H
                                        clear H
                                        have H := H1
                                        clear H1
                                        obtain rfl := Option.some.inj H
                                        go_wp2_with (first | ((with_reducible refine gate_callee (f := 35) rfl ?_); refine goesL_ (some 227) rfl rfl Tryd.func35 (by kernel_rfl) rfl #[.slice A0 l0.length c0] rfl (by (try simp only [List.map_toArray, List.map_cons, List.map_nil]); first | done | rfl | (simp only [List.length_drop, List.length_take]; rfl)) ?_; (with_reducible refine (spec_DrawLengthOf.calls _ _ l0 t277 t278 t279 _ ?side1 ?side2 A71.out).mono ?_); (case side1 => repeat (first | exact (Kd.C_below HR0.out HB.out) | (with_reducible refine Kd.C_alloc ?_ _) | (with_reducible refine Kd.C_drewN ?_ _) | (with_reducible refine Kd.C_drew ?_))); (case side2 => exact HC0.out); rintro e w81 ⟨rfl, hb⟩; refine ⟨_, rfl, ?_⟩; have n0_ := Aside0.mk (below_step (by repeat (first | (with_reducible first | exact HB.out | apply below_alloc | apply pw_below_drewN | apply below_drew1) | exact HB.out)) hb); clear HB; have HB := n0_; clear n0_; (try clear hb); (try clear hb2); (try clear hk); (try clear hi)) | ((with_reducible refine gate_callee (f := 36) rfl ?_); refine goesL_ (some 235) rfl rfl Tryd.func36 (by kernel_rfl) rfl #[.int .i64 t277, .int .i64 t278, .int .i64 t279] rfl (by (try simp only [List.map_toArray, List.map_cons, List.map_nil]); first | done | rfl | (simp only [List.length_drop, List.length_take]; rfl)) ?_; (with_reducible refine (impl_LengthOf.calls kj52 t277 t278 t279 t280 false _ A72.out).mono ?_); rintro e w' ⟨rfl, ⟨nd, rfl⟩⟩; refine ⟨_, rfl, ?_⟩) | ((with_reducible refine gate_callee (f := 37) rfl ?_); refine goesL_ (some 242) rfl rfl Tryd.func37 (by kernel_rfl) rfl #[.int .i64 t277, .int .i64 t278, .int .i64 t279] rfl (by (try simp only [List.map_toArray, List.map_cons, List.map_nil]); first | done | rfl | (simp only [List.length_drop, List.length_take]; rfl)) ?_; (with_reducible refine (spec_LengthOf.calls kj52 t277 t278 t279 t282 t283 _ A73.out).mono ?_); rintro e w' ⟨rfl, ⟨nd, rfl⟩⟩; refine ⟨_, rfl, ?_⟩))
                                        go_ret
                                        exact ⟨by first | rfl | (simp [errW_none, errW_some] <;> rfl) | (simp [*, errW_none, errW_some] <;> rfl), by repeat (first | (with_reducible first | exact HB.out | apply below_alloc | apply pw_below_drewN | apply below_drew1) | exact HB.out)⟩
                                  · rw [if_neg c74] at H
                                    have c74b0 : (t280 == t282) = false := beq_eq_false_iff_ne.mpr c74
                                    have c74b1 : (t280 != t282) = true := bne_iff_ne.mpr c74
                                    obtain rfl := Option.some.inj H
                                    go_wp2_with (first | ((with_reducible refine gate_callee (f := 35) rfl ?_); refine goesL_ (some 227) rfl rfl Tryd.func35 (by kernel_rfl) rfl #[.slice A0 l0.length c0] rfl (by (try simp only [List.map_toArray, List.map_cons, List.map_nil]); first | done | rfl | (simp only [List.length_drop, List.length_take]; rfl)) ?_; (with_reducible refine (spec_DrawLengthOf.calls _ _ l0 t277 t278 t279 _ ?side1 ?side2 A71.out).mono ?_); (case side1 => repeat (first | exact (Kd.C_below HR0.out HB.out) | (with_reducible refine Kd.C_alloc ?_ _) | (with_reducible refine Kd.C_drewN ?_ _) | (with_reducible refine Kd.C_drew ?_))); (case side2 => exact HC0.out); rintro e w82 ⟨rfl, hb⟩; refine ⟨_, rfl, ?_⟩; have n0_ := Aside0.mk (below_step (by repeat (first | (with_reducible first | exact HB.out | apply below_alloc | apply pw_below_drewN | apply below_drew1) | exact HB.out)) hb); clear HB; have HB := n0_; clear n0_; (try clear hb); (try clear hb2); (try clear hk); (try clear hi)) | ((with_reducible refine gate_callee (f := 36) rfl ?_); refine goesL_ (some 235) rfl rfl Tryd.func36 (by kernel_rfl) rfl #[.int .i64 t277, .int .i64 t278, .int .i64 t279] rfl (by (try simp only [List.map_toArray, List.map_cons, List.map_nil]); first | done | rfl | (simp only [List.length_drop, List.length_take]; rfl)) ?_; (with_reducible refine (impl_LengthOf.calls kj52 t277 t278 t279 t280 t281 _ A72.out).mono ?_); rintro e w' ⟨rfl, ⟨nd, rfl⟩⟩; refine ⟨_, rfl, ?_⟩) | ((with_reducible refine gate_callee (f := 37) rfl ?_); refine goesL_ (some 242) rfl rfl Tryd.func37 (by kernel_rfl) rfl #[.int .i64 t277, .int .i64 t278, .int .i64 t279] rfl (by (try simp only [List.map_toArray, List.map_cons, List.map_nil]); first | done | rfl | (simp only [List.length_drop, List.length_take]; rfl)) ?_; (with_reducible refine (spec_LengthOf.calls kj52 t277 t278 t279 t282 t283 _ A73.out).mono ?_); rintro e w' ⟨rfl, ⟨nd, rfl⟩⟩; refine ⟨_, rfl, ?_⟩))
                                    go_ret
                                    exact ⟨by first | rfl | (simp [errW_none, errW_some] <;> rfl) | (simp [*, errW_none, errW_some] <;> rfl), by repeat (first | (with_reducible first | exact HB.out | apply below_alloc | apply pw_below_drewN | apply below_drew1) | exact HB.out)⟩

end Go.Proofs.YtphbgedmdohlnaaDoor.XFnBearings
