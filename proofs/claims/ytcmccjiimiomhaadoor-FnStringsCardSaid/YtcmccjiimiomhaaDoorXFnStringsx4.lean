/- Contracts of the functions that the law FnStrings comes to: each is told as a plain function of its arguments, and the machine's call does what that function says; no condition. Written by programs (print.py, xprint.py); Lean checks it. -/
import Derived.Test.YtcmccjiimiomhaaDoorXFnStringsx0
import Derived.Test.YtcmccjiimiomhaaDoorXFnStringsx1
import Derived.Test.YtcmccjiimiomhaaDoorXFnStringsx2
import Derived.Test.YtcmccjiimiomhaaDoorXFnStringsx3
namespace Go.Proofs.YtcmccjiimiomhaaDoor.XFnStrings
open Go.RowKit Go.Proofs.YtcmccjiimiomhaaDoorW.PrintWords Go.Proofs.YtcmccjiimiomhaaDoorW.PrintLast Go.Proofs.YtcmccjiimiomhaaDoorW.PrintMore
attribute [local go_sem] max2_int min2_int max_two min_two max_three min_three max_four min_four   -- for this text's walks alone
set_option linter.unusedVariables false
set_option linter.unusedSimpArgs false

/-! ### laws_FnStrings: function 8 -/
/-- A string with another byte at i: the byte there, xor what the law draws. -/
def flipB (y : ByteArray) (i : Int) (b : Int) : ByteArray := ⟨(y.data.toList.set i.toNat (UInt8.ofNat (Go.bits .xor .u8 ((y.data.toList.getD i.toNat 0).toNat : Int) (IntKind.u8.wrap (wrap64 (1 + Int.tmod b 255)))).toNat)).toArray⟩
theorem bytes_frozen (w : World) (e : TypeId) (s : ByteArray) (j : Nat) (hj : j < s.size) : (Lib.bytesWorld w e s).frozen? ⟨w.heap.size, j, none⟩ = false := by
  have hz : s.size ≤ (Lib.bytesCells w e s).size := by simp [Lib.bytesCells]
  simp only [World.frozen?, Lib.bytesWorld_at_new]
  simp
  omega
def laws_FnStrings.T22 : Bool × List (List Nat × List Nat) := (true, [([], []), ([], []), ([], []), ([], []), ([2, 3], [2, 3]), ([4], [4]), ([], []), ([6], [6]), ([7], [7]), ([8], [8]), ([9], [9]), ([5, 10], [5, 10]), ([0, 1, 0, 1, 2, 3, 4, 5, 6, 7, 8, 9, 10, 11], [0, 1]), ([12, 11, 7, 0, 1, 2, 3, 4, 5, 6, 7, 8, 9, 10, 11], [11, 12])])
def laws_FnStrings.B22 : List Nat := [0, 0, 0, 0, 12, 28, 0, 64, 192, 448, 960, 2044, 4095, 8191]
theorem laws_FnStrings.tab22 : rtab .any (opsOf Tryd.f8 22) = laws_FnStrings.T22 := by kernel_rfl
theorem laws_FnStrings.bits22 : waitsOk laws_FnStrings.T22.2 laws_FnStrings.B22 = true := by kernel_rfl
theorem xor_range (x y : Int) : 0 ≤ Go.bits .xor .u8 x y ∧ Go.bits .xor .u8 x y < 256 := by
  show 0 ≤ IntKind.u8.wrap _ ∧ IntKind.u8.wrap _ < 256
  rw [IntKind.wrap_u8]
  omega
theorem flip_back {W : World} {g cp k : Nat} {y : ByteArray} (hk : k < y.size) {ob : Int} (hob : (((y.data.toList.getD k 0).toNat : Nat) : Int) = ob) (hc : ∀ j, j < y.size → W.cell? ⟨g, j, none⟩ = some (.int .u8 (y.data.toList.getD j 0).toNat)) (b : Int) :
    (convert 35 9 (.slice (some ⟨g, 0, none⟩) y.size cp)).run Tryd.prog (W.setCell ⟨g, k, none⟩ (.int .u8 (Go.bits .xor .u8 ob (IntKind.u8.wrap (wrap64 (1 + Int.tmod b 255)))))) = .ok (.string (flipB y (k : Int) b)) (W.setCell ⟨g, k, none⟩ (.int .u8 (Go.bits .xor .u8 ob (IntKind.u8.wrap (wrap64 (1 + Int.tmod b 255)))))) := by
  have e : flipB y (k : Int) b = ⟨(y.data.toList.set k (UInt8.ofNat (Go.bits .xor .u8 ob (IntKind.u8.wrap (wrap64 (1 + Int.tmod b 255)))).toNat)).toArray⟩ := by
    unfold flipB
    rw [Int.toNat_natCast, hob]
  rw [e]
  have hr := xor_range ob (IntKind.u8.wrap (wrap64 (1 + Int.tmod b 255)))
  generalize Go.bits .xor .u8 ob (IntKind.u8.wrap (wrap64 (1 + Int.tmod b 255))) = nv at hr ⊢
  have hl : (y.data.toList.set k (UInt8.ofNat nv.toNat)).length = y.size := by simp
  have h := run_convert_bytes_back (P := Tryd.prog) (W.setCell ⟨g, k, none⟩ (.int .u8 nv)) 35 9 5 ⟨g, 0, none⟩ cp (y.data.toList.set k (UInt8.ofNat nv.toNat)) Tryd.underlying35 Tryd.underlying5 Tryd.underlying9 (by
    intro j hj
    have hj' : j < y.size := by rw [hl] at hj; exact hj
    have ea : (Addr.add ⟨g, 0, none⟩ j : Addr) = ⟨g, j, none⟩ := by
      simp [Addr.add]
      try omega
    rw [ea]
    by_cases ejk : j = k
    · subst ejk
      rw [World.cell?_setCell_same _ _ _ (hc j hj'), List.getElem_set_self]
      have : (UInt8.ofNat nv.toNat).toNat = nv.toNat := by rw [UInt8.toNat_ofNat']; omega
      rw [this]
      exact congrArg (fun z => some (Value.int .u8 z)) (by omega)
    · rw [World.cell?_setCell_other _ _ _ _ (by intro h; simp only [Addr.mk.injEq] at h; omega), hc j hj', List.getElem_set_ne (by omega)]
      simp [List.getD, hj'])
  rw [hl] at h
  exact h
mutual
def laws_FnStrings.j0 : Nat → List Int → Int → ByteArray → Bool → ByteArray → ByteArray → Bool → Bool → Option (Bool)
  | 0, _, _, _, _, _, _, _, _ => none
  | k + 1, x0, x3, x4, x5, x13, x14, x15, x91 => if x91 = true then (none) else ((impl_ParseInt.f x4).bind fun bt201 => (if x5 = true then (if bt201.2 = true then (laws_FnStrings.j1 k x0 x13 x14 x15 (bt201.1 != x3)) else (laws_FnStrings.j1 k x0 x13 x14 x15 true)) else (laws_FnStrings.j1 k x0 x13 x14 x15 false)))
def laws_FnStrings.j1 : Nat → List Int → ByteArray → ByteArray → Bool → Bool → Option (Bool)
  | 0, _, _, _, _, _ => none
  | k + 1, x0, x13, x14, x15, x106 => if x106 = true then (none) else (if x15 = true then ((impl_VerifyChecksum.f k x14).bind fun bt203 => ((laws_vAt.f x0 9).bind fun t205 => ((laws_vAt.f x0 10).bind fun t206 => (if 0 < x14.size ∧ 0 ≤ t205 then ((impl_VerifyChecksum.f k (flipB x14 (Int.tmod t205 (x14.size : Int)) t206)).bind fun q => (if bt203.2 = true ∧ bt203.1.toList = x13.toList ∧ q.2 = false then (some true) else (none))) else (none))))) else (some (x14.toList == ([] : List UInt8))))
end
def laws_FnStrings.f (k : Nat) (l0 : List Int) : Option (Bool) := (laws_vBig.f l0).bind fun t185 => (if t185 = true then (some true) else ((spec_DrawFormatInt.f l0).bind fun t186 => ((impl_FormatInt.f t186).bind fun bt187 => ((spec_FormatInt.f k t186).bind fun bt189 => ((spec_DrawParseInt.f k l0).bind fun t191 => ((impl_ParseInt.f t191).bind fun bt192 => ((spec_ParseInt.f k t191).bind fun bt194 => ((spec_DrawAppendChecksum.f l0).bind fun t196 => ((impl_AppendChecksum.f k t196).bind fun bt197 => ((spec_AppendChecksum.f k t196).bind fun bt199 => (if bt187.1.toList = bt189.1.toList then (if (bt187.2 != bt189.2) = true then (laws_FnStrings.j0 k l0 t186 bt187.1 bt187.2 t196 bt197.1 bt197.2 true) else (if bt192.1 = bt194.1 then (if (bt192.2 != bt194.2) = true then (laws_FnStrings.j0 k l0 t186 bt187.1 bt187.2 t196 bt197.1 bt197.2 true) else (if bt197.1.toList = bt199.1.toList then (laws_FnStrings.j0 k l0 t186 bt187.1 bt187.2 t196 bt197.1 bt197.2 (bt197.2 != bt199.2)) else (laws_FnStrings.j0 k l0 t186 bt187.1 bt187.2 t196 bt197.1 bt197.2 true))) else (laws_FnStrings.j0 k l0 t186 bt187.1 bt187.2 t196 bt197.1 bt197.2 true))) else (laws_FnStrings.j0 k l0 t186 bt187.1 bt187.2 t196 bt197.1 bt197.2 true))))))))))))
theorem laws_FnStrings.mono_l : ∀ k, (∀ y0 y1 y2 y3 y4 y5 y6 y7, LeO (laws_FnStrings.j0 k y0 y1 y2 y3 y4 y5 y6 y7) (laws_FnStrings.j0 (k + 1) y0 y1 y2 y3 y4 y5 y6 y7)) ∧ (∀ y0 y1 y2 y3 y4, LeO (laws_FnStrings.j1 k y0 y1 y2 y3 y4) (laws_FnStrings.j1 (k + 1) y0 y1 y2 y3 y4))
  | 0 => ⟨fun _ _ _ _ _ _ _ _ r h => by simp [laws_FnStrings.j0] at h, fun _ _ _ _ _ r h => by simp [laws_FnStrings.j1] at h⟩
  | k + 1 => by
    obtain ⟨ih0, ih1⟩ := laws_FnStrings.mono_l k
    refine ⟨?_, ?_⟩
    · intro y0 y1 y2 y3 y4 y5 y6 y7
      unfold laws_FnStrings.j0
      repeat' first
      | (with_reducible exact ih0 _ _ _ _ _ _ _ _)
      | (with_reducible exact ih1 _ _ _ _ _)
      | (with_reducible exact impl_AppendChecksum.mono _ _)
      | (with_reducible exact impl_VerifyChecksum.mono _ _)
      | (with_reducible exact spec_AppendChecksum.mono _ _)
      | (with_reducible exact spec_DrawParseInt.mono _ _)
      | (with_reducible exact spec_FormatInt.mono _ _)
      | (with_reducible exact spec_ParseInt.mono _ _)
      | (with_reducible exact LeO.refl _)
      | (with_reducible exact LeO.none _)
      | (with_reducible refine LeO.ite ?_ ?_)
      | (with_reducible refine LeO.bind ?_ (fun _ => ?_))
      | exact ih0 _ _ _ _ _ _ _ _
      | exact ih1 _ _ _ _ _
      | exact impl_AppendChecksum.mono _ _
      | exact impl_VerifyChecksum.mono _ _
      | exact spec_AppendChecksum.mono _ _
      | exact spec_DrawParseInt.mono _ _
      | exact spec_FormatInt.mono _ _
      | exact spec_ParseInt.mono _ _
      | exact LeO.none _
      | refine LeO.ite ?_ ?_
      | refine LeO.bind ?_ (fun _ => ?_)
    · intro y0 y1 y2 y3 y4
      unfold laws_FnStrings.j1
      repeat' first
      | (with_reducible exact ih0 _ _ _ _ _ _ _ _)
      | (with_reducible exact ih1 _ _ _ _ _)
      | (with_reducible exact impl_AppendChecksum.mono _ _)
      | (with_reducible exact impl_VerifyChecksum.mono _ _)
      | (with_reducible exact spec_AppendChecksum.mono _ _)
      | (with_reducible exact spec_DrawParseInt.mono _ _)
      | (with_reducible exact spec_FormatInt.mono _ _)
      | (with_reducible exact spec_ParseInt.mono _ _)
      | (with_reducible exact LeO.refl _)
      | (with_reducible exact LeO.none _)
      | (with_reducible refine LeO.ite ?_ ?_)
      | (with_reducible refine LeO.bind ?_ (fun _ => ?_))
      | exact ih0 _ _ _ _ _ _ _ _
      | exact ih1 _ _ _ _ _
      | exact impl_AppendChecksum.mono _ _
      | exact impl_VerifyChecksum.mono _ _
      | exact spec_AppendChecksum.mono _ _
      | exact spec_DrawParseInt.mono _ _
      | exact spec_FormatInt.mono _ _
      | exact spec_ParseInt.mono _ _
      | exact LeO.none _
      | refine LeO.ite ?_ ?_
      | refine LeO.bind ?_ (fun _ => ?_)
theorem laws_FnStrings.mono : ∀ a0 k, LeO (laws_FnStrings.f k a0) (laws_FnStrings.f (k + 1) a0) := by
  intro a0 k
  obtain ⟨ih0, ih1⟩ := laws_FnStrings.mono_l k
  unfold laws_FnStrings.f
  repeat' first
      | (with_reducible exact ih0 _ _ _ _ _ _ _ _)
      | (with_reducible exact ih1 _ _ _ _ _)
      | (with_reducible exact impl_AppendChecksum.mono _ _)
      | (with_reducible exact impl_VerifyChecksum.mono _ _)
      | (with_reducible exact spec_AppendChecksum.mono _ _)
      | (with_reducible exact spec_DrawParseInt.mono _ _)
      | (with_reducible exact spec_FormatInt.mono _ _)
      | (with_reducible exact spec_ParseInt.mono _ _)
      | (with_reducible exact LeO.refl _)
      | (with_reducible exact LeO.none _)
      | (with_reducible refine LeO.ite ?_ ?_)
      | (with_reducible refine LeO.bind ?_ (fun _ => ?_))
      | exact ih0 _ _ _ _ _ _ _ _
      | exact ih1 _ _ _ _ _
      | exact impl_AppendChecksum.mono _ _
      | exact impl_VerifyChecksum.mono _ _
      | exact spec_AppendChecksum.mono _ _
      | exact spec_DrawParseInt.mono _ _
      | exact spec_FormatInt.mono _ _
      | exact spec_ParseInt.mono _ _
      | exact LeO.none _
      | refine LeO.ite ?_ ?_
      | refine LeO.bind ?_ (fun _ => ?_)
set_option maxHeartbeats 8000000 in
set_option maxRecDepth 100000 in
theorem laws_FnStrings.calls (k : Nat) (A0 : Option Addr) (c0 : Nat) (l0 : List Int) (r : Bool) (w : World) (hT : Tab w) (hr0 : Kd.C (Kd.int .u8) w A0 l0.length l0) (hc0 : l0.length ≤ c0) (h : laws_FnStrings.f k l0 = some r) :
    Calls Tryd.prog 8 #[.slice A0 l0.length c0] w fun e w' => e = .returned (.bool r) ∧ Below w.heap.size w w' := by
  have HT := Aside0.mk hT
  clear hT
  have HR0 := Aside0.mk hr0
  have HC0 := Aside0.mk hc0
  clear hr0 hc0
  have HB := Aside0.mk (Below.refl w.heap.size w)
  have H : ((laws_vBig.f l0).bind fun t185 => (if t185 = true then (some true) else ((spec_DrawFormatInt.f l0).bind fun t186 => ((impl_FormatInt.f t186).bind fun bt187 => ((spec_FormatInt.f k t186).bind fun bt189 => ((spec_DrawParseInt.f k l0).bind fun t191 => ((impl_ParseInt.f t191).bind fun bt192 => ((spec_ParseInt.f k t191).bind fun bt194 => ((spec_DrawAppendChecksum.f l0).bind fun t196 => ((impl_AppendChecksum.f k t196).bind fun bt197 => ((spec_AppendChecksum.f k t196).bind fun bt199 => (if bt187.1.toList = bt189.1.toList then (if (bt187.2 != bt189.2) = true then (laws_FnStrings.j0 k l0 t186 bt187.1 bt187.2 t196 bt197.1 bt197.2 true) else (if bt192.1 = bt194.1 then (if (bt192.2 != bt194.2) = true then (laws_FnStrings.j0 k l0 t186 bt187.1 bt187.2 t196 bt197.1 bt197.2 true) else (if bt197.1.toList = bt199.1.toList then (laws_FnStrings.j0 k l0 t186 bt187.1 bt187.2 t196 bt197.1 bt197.2 (bt197.2 != bt199.2)) else (laws_FnStrings.j0 k l0 t186 bt187.1 bt187.2 t196 bt197.1 bt197.2 true))) else (laws_FnStrings.j0 k l0 t186 bt187.1 bt187.2 t196 bt197.1 bt197.2 true))) else (laws_FnStrings.j0 k l0 t186 bt187.1 bt187.2 t196 bt197.1 bt197.2 true))))))))))))) = some r := h
  clear h
  replace H := Option.bind_eq_some_iff.mp H
  obtain ⟨t185, A20, H⟩ := H
  replace H : (if t185 = true then (some true) else ((spec_DrawFormatInt.f l0).bind fun t186 => ((impl_FormatInt.f t186).bind fun bt187 => ((spec_FormatInt.f k t186).bind fun bt189 => ((spec_DrawParseInt.f k l0).bind fun t191 => ((impl_ParseInt.f t191).bind fun bt192 => ((spec_ParseInt.f k t191).bind fun bt194 => ((spec_DrawAppendChecksum.f l0).bind fun t196 => ((impl_AppendChecksum.f k t196).bind fun bt197 => ((spec_AppendChecksum.f k t196).bind fun bt199 => (if bt187.1.toList = bt189.1.toList then (if (bt187.2 != bt189.2) = true then (laws_FnStrings.j0 k l0 t186 bt187.1 bt187.2 t196 bt197.1 bt197.2 true) else (if bt192.1 = bt194.1 then (if (bt192.2 != bt194.2) = true then (laws_FnStrings.j0 k l0 t186 bt187.1 bt187.2 t196 bt197.1 bt197.2 true) else (if bt197.1.toList = bt199.1.toList then (laws_FnStrings.j0 k l0 t186 bt187.1 bt187.2 t196 bt197.1 bt197.2 (bt197.2 != bt199.2)) else (laws_FnStrings.j0 k l0 t186 bt187.1 bt187.2 t196 bt197.1 bt197.2 true))) else (laws_FnStrings.j0 k l0 t186 bt187.1 bt187.2 t196 bt197.1 bt197.2 true))) else (laws_FnStrings.j0 k l0 t186 bt187.1 bt187.2 t196 bt197.1 bt197.2 true)))))))))))) = some r := H
  have A2 := Aside0.mk A20
  clear A20
  by_cases c3 : t185 = true
  · subst c3
    have H1 : (some true) = some r := by rw [if_pos rfl] at H; exact H
    clear H
    have H := H1
    clear H1
    obtain rfl := Option.some.inj H
    go_enter Tryd.func8, Tryd.ntmps8
    go_wp2_with (first | ((with_reducible refine gate_callee (f := 21) rfl ?_); refine goesL_ (some 27) rfl rfl Tryd.func21 (by kernel_rfl) rfl #[.slice A0 l0.length c0] rfl (by (try simp only [List.map_toArray, List.map_cons, List.map_nil]); first | done | rfl | (simp only [List.length_drop, List.length_take]; rfl)) ?_; (with_reducible refine (laws_vBig.calls _ _ l0 true _ ?side1 ?side2 A2.out).mono ?_); (case side1 => repeat (first | exact HR0.out | (with_reducible refine Kd.C_alloc ?_ _) | (with_reducible refine Kd.C_drewN ?_ _) | (with_reducible refine Kd.C_drew ?_))); (case side2 => exact HC0.out); rintro e w' ⟨rfl, ⟨nd, rfl⟩⟩; refine ⟨_, rfl, ?_⟩))
    go_ret
    exact ⟨by first | rfl | (simp [errW_none, errW_some] <;> rfl) | (simp [*, errW_none, errW_some] <;> rfl), by repeat (first | (with_reducible first | exact HB.out | apply below_alloc | apply pw_below_drewN | apply below_drew1) | exact HB.out)⟩
  · replace c3 := Bool.eq_false_iff.mpr c3
    subst c3
    have H1 : ((spec_DrawFormatInt.f l0).bind fun t186 => ((impl_FormatInt.f t186).bind fun bt187 => ((spec_FormatInt.f k t186).bind fun bt189 => ((spec_DrawParseInt.f k l0).bind fun t191 => ((impl_ParseInt.f t191).bind fun bt192 => ((spec_ParseInt.f k t191).bind fun bt194 => ((spec_DrawAppendChecksum.f l0).bind fun t196 => ((impl_AppendChecksum.f k t196).bind fun bt197 => ((spec_AppendChecksum.f k t196).bind fun bt199 => (if bt187.1.toList = bt189.1.toList then (if (bt187.2 != bt189.2) = true then (laws_FnStrings.j0 k l0 t186 bt187.1 bt187.2 t196 bt197.1 bt197.2 true) else (if bt192.1 = bt194.1 then (if (bt192.2 != bt194.2) = true then (laws_FnStrings.j0 k l0 t186 bt187.1 bt187.2 t196 bt197.1 bt197.2 true) else (if bt197.1.toList = bt199.1.toList then (laws_FnStrings.j0 k l0 t186 bt187.1 bt187.2 t196 bt197.1 bt197.2 (bt197.2 != bt199.2)) else (laws_FnStrings.j0 k l0 t186 bt187.1 bt187.2 t196 bt197.1 bt197.2 true))) else (laws_FnStrings.j0 k l0 t186 bt187.1 bt187.2 t196 bt197.1 bt197.2 true))) else (laws_FnStrings.j0 k l0 t186 bt187.1 bt187.2 t196 bt197.1 bt197.2 true))))))))))) = some r := by rw [if_neg (show ¬ (false = true) by decide)] at H; exact H
    clear H
    have H := H1
    clear H1
    replace H := Option.bind_eq_some_iff.mp H
    obtain ⟨t186, A40, H⟩ := H
    replace H : ((impl_FormatInt.f t186).bind fun bt187 => ((spec_FormatInt.f k t186).bind fun bt189 => ((spec_DrawParseInt.f k l0).bind fun t191 => ((impl_ParseInt.f t191).bind fun bt192 => ((spec_ParseInt.f k t191).bind fun bt194 => ((spec_DrawAppendChecksum.f l0).bind fun t196 => ((impl_AppendChecksum.f k t196).bind fun bt197 => ((spec_AppendChecksum.f k t196).bind fun bt199 => (if bt187.1.toList = bt189.1.toList then (if (bt187.2 != bt189.2) = true then (laws_FnStrings.j0 k l0 t186 bt187.1 bt187.2 t196 bt197.1 bt197.2 true) else (if bt192.1 = bt194.1 then (if (bt192.2 != bt194.2) = true then (laws_FnStrings.j0 k l0 t186 bt187.1 bt187.2 t196 bt197.1 bt197.2 true) else (if bt197.1.toList = bt199.1.toList then (laws_FnStrings.j0 k l0 t186 bt187.1 bt187.2 t196 bt197.1 bt197.2 (bt197.2 != bt199.2)) else (laws_FnStrings.j0 k l0 t186 bt187.1 bt187.2 t196 bt197.1 bt197.2 true))) else (laws_FnStrings.j0 k l0 t186 bt187.1 bt187.2 t196 bt197.1 bt197.2 true))) else (laws_FnStrings.j0 k l0 t186 bt187.1 bt187.2 t196 bt197.1 bt197.2 true)))))))))) = some r := H
    have A4 := Aside0.mk A40
    clear A40
    replace H := Option.bind_eq_some_iff.mp H
    obtain ⟨⟨t187, t188⟩, A50, H⟩ := H
    replace H : ((spec_FormatInt.f k t186).bind fun bt189 => ((spec_DrawParseInt.f k l0).bind fun t191 => ((impl_ParseInt.f t191).bind fun bt192 => ((spec_ParseInt.f k t191).bind fun bt194 => ((spec_DrawAppendChecksum.f l0).bind fun t196 => ((impl_AppendChecksum.f k t196).bind fun bt197 => ((spec_AppendChecksum.f k t196).bind fun bt199 => (if t187.toList = bt189.1.toList then (if (t188 != bt189.2) = true then (laws_FnStrings.j0 k l0 t186 t187 t188 t196 bt197.1 bt197.2 true) else (if bt192.1 = bt194.1 then (if (bt192.2 != bt194.2) = true then (laws_FnStrings.j0 k l0 t186 t187 t188 t196 bt197.1 bt197.2 true) else (if bt197.1.toList = bt199.1.toList then (laws_FnStrings.j0 k l0 t186 t187 t188 t196 bt197.1 bt197.2 (bt197.2 != bt199.2)) else (laws_FnStrings.j0 k l0 t186 t187 t188 t196 bt197.1 bt197.2 true))) else (laws_FnStrings.j0 k l0 t186 t187 t188 t196 bt197.1 bt197.2 true))) else (laws_FnStrings.j0 k l0 t186 t187 t188 t196 bt197.1 bt197.2 true))))))))) = some r := H
    have A5 := Aside0.mk A50
    clear A50
    replace H := Option.bind_eq_some_iff.mp H
    obtain ⟨⟨t189, t190⟩, A60, H⟩ := H
    replace H : ((spec_DrawParseInt.f k l0).bind fun t191 => ((impl_ParseInt.f t191).bind fun bt192 => ((spec_ParseInt.f k t191).bind fun bt194 => ((spec_DrawAppendChecksum.f l0).bind fun t196 => ((impl_AppendChecksum.f k t196).bind fun bt197 => ((spec_AppendChecksum.f k t196).bind fun bt199 => (if t187.toList = t189.toList then (if (t188 != t190) = true then (laws_FnStrings.j0 k l0 t186 t187 t188 t196 bt197.1 bt197.2 true) else (if bt192.1 = bt194.1 then (if (bt192.2 != bt194.2) = true then (laws_FnStrings.j0 k l0 t186 t187 t188 t196 bt197.1 bt197.2 true) else (if bt197.1.toList = bt199.1.toList then (laws_FnStrings.j0 k l0 t186 t187 t188 t196 bt197.1 bt197.2 (bt197.2 != bt199.2)) else (laws_FnStrings.j0 k l0 t186 t187 t188 t196 bt197.1 bt197.2 true))) else (laws_FnStrings.j0 k l0 t186 t187 t188 t196 bt197.1 bt197.2 true))) else (laws_FnStrings.j0 k l0 t186 t187 t188 t196 bt197.1 bt197.2 true)))))))) = some r := H
    have A6 := Aside0.mk A60
    clear A60
    replace H := Option.bind_eq_some_iff.mp H
    obtain ⟨t191, A70, H⟩ := H
    replace H : ((impl_ParseInt.f t191).bind fun bt192 => ((spec_ParseInt.f k t191).bind fun bt194 => ((spec_DrawAppendChecksum.f l0).bind fun t196 => ((impl_AppendChecksum.f k t196).bind fun bt197 => ((spec_AppendChecksum.f k t196).bind fun bt199 => (if t187.toList = t189.toList then (if (t188 != t190) = true then (laws_FnStrings.j0 k l0 t186 t187 t188 t196 bt197.1 bt197.2 true) else (if bt192.1 = bt194.1 then (if (bt192.2 != bt194.2) = true then (laws_FnStrings.j0 k l0 t186 t187 t188 t196 bt197.1 bt197.2 true) else (if bt197.1.toList = bt199.1.toList then (laws_FnStrings.j0 k l0 t186 t187 t188 t196 bt197.1 bt197.2 (bt197.2 != bt199.2)) else (laws_FnStrings.j0 k l0 t186 t187 t188 t196 bt197.1 bt197.2 true))) else (laws_FnStrings.j0 k l0 t186 t187 t188 t196 bt197.1 bt197.2 true))) else (laws_FnStrings.j0 k l0 t186 t187 t188 t196 bt197.1 bt197.2 true))))))) = some r := H
    have A7 := Aside0.mk A70
    clear A70
    replace H := Option.bind_eq_some_iff.mp H
    obtain ⟨⟨t192, t193⟩, A80, H⟩ := H
    replace H : ((spec_ParseInt.f k t191).bind fun bt194 => ((spec_DrawAppendChecksum.f l0).bind fun t196 => ((impl_AppendChecksum.f k t196).bind fun bt197 => ((spec_AppendChecksum.f k t196).bind fun bt199 => (if t187.toList = t189.toList then (if (t188 != t190) = true then (laws_FnStrings.j0 k l0 t186 t187 t188 t196 bt197.1 bt197.2 true) else (if t192 = bt194.1 then (if (t193 != bt194.2) = true then (laws_FnStrings.j0 k l0 t186 t187 t188 t196 bt197.1 bt197.2 true) else (if bt197.1.toList = bt199.1.toList then (laws_FnStrings.j0 k l0 t186 t187 t188 t196 bt197.1 bt197.2 (bt197.2 != bt199.2)) else (laws_FnStrings.j0 k l0 t186 t187 t188 t196 bt197.1 bt197.2 true))) else (laws_FnStrings.j0 k l0 t186 t187 t188 t196 bt197.1 bt197.2 true))) else (laws_FnStrings.j0 k l0 t186 t187 t188 t196 bt197.1 bt197.2 true)))))) = some r := H
    have A8 := Aside0.mk A80
    clear A80
    replace H := Option.bind_eq_some_iff.mp H
    obtain ⟨⟨t194, t195⟩, A90, H⟩ := H
    replace H : ((spec_DrawAppendChecksum.f l0).bind fun t196 => ((impl_AppendChecksum.f k t196).bind fun bt197 => ((spec_AppendChecksum.f k t196).bind fun bt199 => (if t187.toList = t189.toList then (if (t188 != t190) = true then (laws_FnStrings.j0 k l0 t186 t187 t188 t196 bt197.1 bt197.2 true) else (if t192 = t194 then (if (t193 != t195) = true then (laws_FnStrings.j0 k l0 t186 t187 t188 t196 bt197.1 bt197.2 true) else (if bt197.1.toList = bt199.1.toList then (laws_FnStrings.j0 k l0 t186 t187 t188 t196 bt197.1 bt197.2 (bt197.2 != bt199.2)) else (laws_FnStrings.j0 k l0 t186 t187 t188 t196 bt197.1 bt197.2 true))) else (laws_FnStrings.j0 k l0 t186 t187 t188 t196 bt197.1 bt197.2 true))) else (laws_FnStrings.j0 k l0 t186 t187 t188 t196 bt197.1 bt197.2 true))))) = some r := H
    have A9 := Aside0.mk A90
    clear A90
    replace H := Option.bind_eq_some_iff.mp H
    obtain ⟨t196, A100, H⟩ := H
    replace H : ((impl_AppendChecksum.f k t196).bind fun bt197 => ((spec_AppendChecksum.f k t196).bind fun bt199 => (if t187.toList = t189.toList then (if (t188 != t190) = true then (laws_FnStrings.j0 k l0 t186 t187 t188 t196 bt197.1 bt197.2 true) else (if t192 = t194 then (if (t193 != t195) = true then (laws_FnStrings.j0 k l0 t186 t187 t188 t196 bt197.1 bt197.2 true) else (if bt197.1.toList = bt199.1.toList then (laws_FnStrings.j0 k l0 t186 t187 t188 t196 bt197.1 bt197.2 (bt197.2 != bt199.2)) else (laws_FnStrings.j0 k l0 t186 t187 t188 t196 bt197.1 bt197.2 true))) else (laws_FnStrings.j0 k l0 t186 t187 t188 t196 bt197.1 bt197.2 true))) else (laws_FnStrings.j0 k l0 t186 t187 t188 t196 bt197.1 bt197.2 true)))) = some r := H
    have A10 := Aside0.mk A100
    clear A100
    replace H := Option.bind_eq_some_iff.mp H
    obtain ⟨⟨t197, t198⟩, A110, H⟩ := H
    replace H : ((spec_AppendChecksum.f k t196).bind fun bt199 => (if t187.toList = t189.toList then (if (t188 != t190) = true then (laws_FnStrings.j0 k l0 t186 t187 t188 t196 t197 t198 true) else (if t192 = t194 then (if (t193 != t195) = true then (laws_FnStrings.j0 k l0 t186 t187 t188 t196 t197 t198 true) else (if t197.toList = bt199.1.toList then (laws_FnStrings.j0 k l0 t186 t187 t188 t196 t197 t198 (t198 != bt199.2)) else (laws_FnStrings.j0 k l0 t186 t187 t188 t196 t197 t198 true))) else (laws_FnStrings.j0 k l0 t186 t187 t188 t196 t197 t198 true))) else (laws_FnStrings.j0 k l0 t186 t187 t188 t196 t197 t198 true))) = some r := H
    have A11 := Aside0.mk A110
    clear A110
    replace H := Option.bind_eq_some_iff.mp H
    obtain ⟨⟨t199, t200⟩, A120, H⟩ := H
    replace H : (if t187.toList = t189.toList then (if (t188 != t190) = true then (laws_FnStrings.j0 k l0 t186 t187 t188 t196 t197 t198 true) else (if t192 = t194 then (if (t193 != t195) = true then (laws_FnStrings.j0 k l0 t186 t187 t188 t196 t197 t198 true) else (if t197.toList = t199.toList then (laws_FnStrings.j0 k l0 t186 t187 t188 t196 t197 t198 (t198 != t200)) else (laws_FnStrings.j0 k l0 t186 t187 t188 t196 t197 t198 true))) else (laws_FnStrings.j0 k l0 t186 t187 t188 t196 t197 t198 true))) else (laws_FnStrings.j0 k l0 t186 t187 t188 t196 t197 t198 true)) = some r := H
    have A12 := Aside0.mk A120
    clear A120
    have HC13 := Aside0.mk H
    clear H
    go_enter Tryd.func8, Tryd.ntmps8
    go_upto_region 12 with (first | ((with_reducible refine gate_callee (f := 21) rfl ?_); refine goesL_ (some 27) rfl rfl Tryd.func21 (by kernel_rfl) rfl #[.slice A0 l0.length c0] rfl (by (try simp only [List.map_toArray, List.map_cons, List.map_nil]); first | done | rfl | (simp only [List.length_drop, List.length_take]; rfl)) ?_; (with_reducible refine (laws_vBig.calls _ _ l0 false _ ?side1 ?side2 A2.out).mono ?_); (case side1 => repeat (first | exact HR0.out | (with_reducible refine Kd.C_alloc ?_ _) | (with_reducible refine Kd.C_drewN ?_ _) | (with_reducible refine Kd.C_drew ?_))); (case side2 => exact HC0.out); rintro e w' ⟨rfl, ⟨nd, rfl⟩⟩; refine ⟨_, rfl, ?_⟩) | ((with_reducible refine gate_callee (f := 22) rfl ?_); refine goesL_ (some 29) rfl rfl Tryd.func22 (by kernel_rfl) rfl #[.slice A0 l0.length c0] rfl (by (try simp only [List.map_toArray, List.map_cons, List.map_nil]); first | done | rfl | (simp only [List.length_drop, List.length_take]; rfl)) ?_; (with_reducible refine (spec_DrawFormatInt.calls _ _ l0 t186 _ ?side1 ?side2 A4.out).mono ?_); (case side1 => repeat (first | exact HR0.out | (with_reducible refine Kd.C_alloc ?_ _) | (with_reducible refine Kd.C_drewN ?_ _) | (with_reducible refine Kd.C_drew ?_))); (case side2 => exact HC0.out); rintro e w14 ⟨rfl, hb⟩; refine ⟨_, rfl, ?_⟩; have n0_ := Aside0.mk (below_step (by repeat (first | (with_reducible first | exact HB.out | apply below_alloc | apply pw_below_drewN | apply below_drew1) | exact HB.out)) hb); clear HB; have HB := n0_; clear n0_; (try clear hb); (try clear hb2); (try clear hk); (try clear hi)) | ((with_reducible refine gate_callee (f := 11) rfl ?_); refine goesL_ (some 32) rfl rfl Tryd.func11 (by kernel_rfl) rfl #[.int .i64 t186] rfl (by (try simp only [List.map_toArray, List.map_cons, List.map_nil]); first | done | rfl | (simp only [List.length_drop, List.length_take]; rfl)) ?_; (with_reducible refine (impl_FormatInt.calls t186 t187 t188 _ ?sideT A5.out).mono ?_); (case sideT => first | exact HT.out | (refine Tab.drawn HT.out ?_; (repeat (first | exact Drawn0.refl _ | apply Drawn0.step)); done) | (refine Tab.below HT.out ?_; repeat (first | (with_reducible first | exact HB.out | apply below_alloc | apply pw_below_drewN | apply below_drew1) | exact HB.out))); rintro e w15 ⟨rfl, hb⟩; refine ⟨_, rfl, ?_⟩; have n0_ := Aside0.mk (below_step (by repeat (first | (with_reducible first | exact HB.out | apply below_alloc | apply pw_below_drewN | apply below_drew1) | exact HB.out)) hb); clear HB; have HB := n0_; clear n0_; (try clear hb); (try clear hb2); (try clear hk); (try clear hi)) | ((with_reducible refine gate_callee (f := 10) rfl ?_); refine goesL_ (some 37) rfl rfl Tryd.func10 (by kernel_rfl) rfl #[.int .i64 t186] rfl (by (try simp only [List.map_toArray, List.map_cons, List.map_nil]); first | done | rfl | (simp only [List.length_drop, List.length_take]; rfl)) ?_; (with_reducible refine (spec_FormatInt.calls k t186 t189 t190 _ A6.out).mono ?_); rintro e w16 ⟨rfl, hb⟩; refine ⟨_, rfl, ?_⟩; have n0_ := Aside0.mk (below_step (by repeat (first | (with_reducible first | exact HB.out | apply below_alloc | apply pw_below_drewN | apply below_drew1) | exact HB.out)) hb); clear HB; have HB := n0_; clear n0_; (try clear hb); (try clear hb2); (try clear hk); (try clear hi)) | ((with_reducible refine gate_callee (f := 23) rfl ?_); refine goesL_ (some 41) rfl rfl Tryd.func23 (by kernel_rfl) rfl #[.slice A0 l0.length c0] rfl (by (try simp only [List.map_toArray, List.map_cons, List.map_nil]); first | done | rfl | (simp only [List.length_drop, List.length_take]; rfl)) ?_; (with_reducible refine (spec_DrawParseInt.calls k _ _ l0 t191 _ ?side1 ?side2 A7.out).mono ?_); (case side1 => repeat (first | exact (Kd.C_below HR0.out HB.out) | (with_reducible refine Kd.C_alloc ?_ _) | (with_reducible refine Kd.C_drewN ?_ _) | (with_reducible refine Kd.C_drew ?_))); (case side2 => exact HC0.out); rintro e w17 ⟨rfl, hb⟩; refine ⟨_, rfl, ?_⟩; have n0_ := Aside0.mk (below_step (by repeat (first | (with_reducible first | exact HB.out | apply below_alloc | apply pw_below_drewN | apply below_drew1) | exact HB.out)) hb); clear HB; have HB := n0_; clear n0_; (try clear hb); (try clear hb2); (try clear hk); (try clear hi)) | ((with_reducible refine gate_callee (f := 20) rfl ?_); refine goesL_ (some 44) rfl rfl Tryd.func20 (by kernel_rfl) rfl #[.string t191] rfl (by (try simp only [List.map_toArray, List.map_cons, List.map_nil]); first | done | rfl | (simp only [List.length_drop, List.length_take]; rfl)) ?_; (with_reducible refine (impl_ParseInt.calls t191 t192 t193 _ ?sideT A8.out).mono ?_); (case sideT => first | exact HT.out | (refine Tab.drawn HT.out ?_; (repeat (first | exact Drawn0.refl _ | apply Drawn0.step)); done) | (refine Tab.below HT.out ?_; repeat (first | (with_reducible first | exact HB.out | apply below_alloc | apply pw_below_drewN | apply below_drew1) | exact HB.out))); rintro e w18 ⟨rfl, hb⟩; refine ⟨_, rfl, ?_⟩; have n0_ := Aside0.mk (below_step (by repeat (first | (with_reducible first | exact HB.out | apply below_alloc | apply pw_below_drewN | apply below_drew1) | exact HB.out)) hb); clear HB; have HB := n0_; clear n0_; (try clear hb); (try clear hb2); (try clear hk); (try clear hi)) | ((with_reducible refine gate_callee (f := 19) rfl ?_); refine goesL_ (some 49) rfl rfl Tryd.func19 (by kernel_rfl) rfl #[.string t191] rfl (by (try simp only [List.map_toArray, List.map_cons, List.map_nil]); first | done | rfl | (simp only [List.length_drop, List.length_take]; rfl)) ?_; (with_reducible refine (spec_ParseInt.calls k t191 t194 t195 _ A9.out).mono ?_); rintro e w19 ⟨rfl, hb⟩; refine ⟨_, rfl, ?_⟩; have n0_ := Aside0.mk (below_step (by repeat (first | (with_reducible first | exact HB.out | apply below_alloc | apply pw_below_drewN | apply below_drew1) | exact HB.out)) hb); clear HB; have HB := n0_; clear n0_; (try clear hb); (try clear hb2); (try clear hk); (try clear hi)) | ((with_reducible refine gate_callee (f := 24) rfl ?_); refine goesL_ (some 53) rfl rfl Tryd.func24 (by kernel_rfl) rfl #[.slice A0 l0.length c0] rfl (by (try simp only [List.map_toArray, List.map_cons, List.map_nil]); first | done | rfl | (simp only [List.length_drop, List.length_take]; rfl)) ?_; (with_reducible refine (spec_DrawAppendChecksum.calls _ _ l0 t196 _ ?side1 ?side2 A10.out).mono ?_); (case side1 => repeat (first | exact (Kd.C_below HR0.out HB.out) | (with_reducible refine Kd.C_alloc ?_ _) | (with_reducible refine Kd.C_drewN ?_ _) | (with_reducible refine Kd.C_drew ?_))); (case side2 => exact HC0.out); rintro e w20 ⟨rfl, hb⟩; refine ⟨_, rfl, ?_⟩; have n0_ := Aside0.mk (below_step (by repeat (first | (with_reducible first | exact HB.out | apply below_alloc | apply pw_below_drewN | apply below_drew1) | exact HB.out)) hb); clear HB; have HB := n0_; clear n0_; (try clear hb); (try clear hb2); (try clear hk); (try clear hi)) | ((with_reducible refine gate_callee (f := 16) rfl ?_); refine goesL_ (some 56) rfl rfl Tryd.func16 (by kernel_rfl) rfl #[.string t196] rfl (by (try simp only [List.map_toArray, List.map_cons, List.map_nil]); first | done | rfl | (simp only [List.length_drop, List.length_take]; rfl)) ?_; (with_reducible refine (impl_AppendChecksum.calls k t196 t197 t198 _ ?sideT A11.out).mono ?_); (case sideT => first | exact HT.out | (refine Tab.drawn HT.out ?_; (repeat (first | exact Drawn0.refl _ | apply Drawn0.step)); done) | (refine Tab.below HT.out ?_; repeat (first | (with_reducible first | exact HB.out | apply below_alloc | apply pw_below_drewN | apply below_drew1) | exact HB.out))); rintro e w21 ⟨rfl, hb⟩; refine ⟨_, rfl, ?_⟩; have n0_ := Aside0.mk (below_step (by repeat (first | (with_reducible first | exact HB.out | apply below_alloc | apply pw_below_drewN | apply below_drew1) | exact HB.out)) hb); clear HB; have HB := n0_; clear n0_; (try clear hb); (try clear hb2); (try clear hk); (try clear hi)) | ((with_reducible refine gate_callee (f := 15) rfl ?_); refine goesL_ (some 61) rfl rfl Tryd.func15 (by kernel_rfl) rfl #[.string t196] rfl (by (try simp only [List.map_toArray, List.map_cons, List.map_nil]); first | done | rfl | (simp only [List.length_drop, List.length_take]; rfl)) ?_; (with_reducible refine (spec_AppendChecksum.calls k t196 t199 t200 _ A12.out).mono ?_); rintro e w22 ⟨rfl, hb⟩; refine ⟨_, rfl, ?_⟩; have n0_ := Aside0.mk (below_step (by repeat (first | (with_reducible first | exact HB.out | apply below_alloc | apply pw_below_drewN | apply below_drew1) | exact HB.out)) hb); clear HB; have HB := n0_; clear n0_; (try clear hb); (try clear hb2); (try clear hk); (try clear hi)))
    (try simp only [Act.put, List.setIfInBounds_toArray, List.set_cons_zero, List.set_cons_succ])
    go_cut [91] (fun v91 wc => ∃ (kq : Nat) (x91_12 : Bool), v91 = .bool x91_12 ∧ Aside0 (laws_FnStrings.j0 kq l0 t186 t187 t188 t196 t197 t198 x91_12 = some r) ∧ Aside0 (kq ≤ k) ∧ Aside0 (Below w.heap.size w wc))
    case first =>
      have H := HC13.out
      clear HC13
      by_cases c23 : t187.toList = t189.toList
      · rw [if_pos c23] at H
        have c23b0 : (t187.toList == t189.toList) = true := beq_iff_eq.mpr c23
        have c23b1 : (t187.toList != t189.toList) = false := bne_eq_false_iff_eq.mpr c23
        clear c23
        (first | rw [c23b0] | (simp only [i64_w, i32_w]; rw [c23b0]) | skip)
        by_cases c24 : (t188 != t190) = true
        · rw [if_pos c24] at H
          have c24b0 : (t188 != t190) = true := c24
          (try (have c24b1 : decide (t188 = t190) = false := by simpa using c24))
          (try (have c24b2 : (t188 == t190) = false := by simpa using c24))
          (try (have c24b3 : ¬ (t188 = t190) := by simpa using c24))
          clear c24
          have H' := Aside0.mk H
          clear H
          go_wp2
          go_meet
          case rel => exact ⟨_, (true), (by first | rfl | (simp; done) | (simp [*]; done)), H', ⟨by first | omega | exact Nat.le_refl _⟩, ⟨by repeat (first | (with_reducible first | exact HB.out | apply below_alloc | apply pw_below_drewN | apply below_drew1) | exact HB.out)⟩⟩
        · rw [if_neg c24] at H
          have c24b0 : (t188 != t190) = false := by simpa using c24
          (try (have c24b1 : decide (t188 = t190) = true := by simpa using c24))
          (try (have c24b2 : (t188 == t190) = true := by simpa using c24))
          clear c24
          by_cases c25 : t192 = t194
          · rw [if_pos c25] at H
            have c25b0 : (t192 == t194) = true := beq_iff_eq.mpr c25
            have c25b1 : (t192 != t194) = false := bne_eq_false_iff_eq.mpr c25
            clear c25
            by_cases c26 : (t193 != t195) = true
            · rw [if_pos c26] at H
              have c26b0 : (t193 != t195) = true := c26
              (try (have c26b1 : decide (t193 = t195) = false := by simpa using c26))
              (try (have c26b2 : (t193 == t195) = false := by simpa using c26))
              (try (have c26b3 : ¬ (t193 = t195) := by simpa using c26))
              clear c26
              have H' := Aside0.mk H
              clear H
              go_wp2
              go_meet
              case rel => exact ⟨_, (true), (by first | rfl | (simp; done) | (simp [*]; done)), H', ⟨by first | omega | exact Nat.le_refl _⟩, ⟨by repeat (first | (with_reducible first | exact HB.out | apply below_alloc | apply pw_below_drewN | apply below_drew1) | exact HB.out)⟩⟩
            · rw [if_neg c26] at H
              have c26b0 : (t193 != t195) = false := by simpa using c26
              (try (have c26b1 : decide (t193 = t195) = true := by simpa using c26))
              (try (have c26b2 : (t193 == t195) = true := by simpa using c26))
              clear c26
              by_cases c27 : t197.toList = t199.toList
              · rw [if_pos c27] at H
                have c27b0 : (t197.toList == t199.toList) = true := beq_iff_eq.mpr c27
                have c27b1 : (t197.toList != t199.toList) = false := bne_eq_false_iff_eq.mpr c27
                clear c27
                have H' := Aside0.mk H
                clear H
                go_wp2
                go_meet
                case rel => exact ⟨_, ((t198 != t200)), (by first | rfl | (simp; done) | (simp [*]; done)), H', ⟨by first | omega | exact Nat.le_refl _⟩, ⟨by repeat (first | (with_reducible first | exact HB.out | apply below_alloc | apply pw_below_drewN | apply below_drew1) | exact HB.out)⟩⟩
              · rw [if_neg c27] at H
                have c27b0 : (t197.toList == t199.toList) = false := beq_eq_false_iff_ne.mpr c27
                have c27b1 : (t197.toList != t199.toList) = true := bne_iff_ne.mpr c27
                have H' := Aside0.mk H
                clear H
                go_wp2
                go_meet
                case rel => exact ⟨_, (true), (by first | rfl | (simp; done) | (simp [*]; done)), H', ⟨by first | omega | exact Nat.le_refl _⟩, ⟨by repeat (first | (with_reducible first | exact HB.out | apply below_alloc | apply pw_below_drewN | apply below_drew1) | exact HB.out)⟩⟩
          · rw [if_neg c25] at H
            have c25b0 : (t192 == t194) = false := beq_eq_false_iff_ne.mpr c25
            have c25b1 : (t192 != t194) = true := bne_iff_ne.mpr c25
            have H' := Aside0.mk H
            clear H
            go_wp2
            go_meet
            case rel => exact ⟨_, (true), (by first | rfl | (simp; done) | (simp [*]; done)), H', ⟨by first | omega | exact Nat.le_refl _⟩, ⟨by repeat (first | (with_reducible first | exact HB.out | apply below_alloc | apply pw_below_drewN | apply below_drew1) | exact HB.out)⟩⟩
      · rw [if_neg c23] at H
        have c23b0 : (t187.toList == t189.toList) = false := beq_eq_false_iff_ne.mpr c23
        have c23b1 : (t187.toList != t189.toList) = true := bne_iff_ne.mpr c23
        (first | rw [c23b0] | (simp only [i64_w, i32_w]; rw [c23b0]) | skip)
        have H' := Aside0.mk H
        clear H
        go_wp2
        go_meet
        case rel => exact ⟨_, (true), (by first | rfl | (simp; done) | (simp [*]; done)), H', ⟨by first | omega | exact Nat.le_refl _⟩, ⟨by repeat (first | (with_reducible first | exact HB.out | apply below_alloc | apply pw_below_drewN | apply below_drew1) | exact HB.out)⟩⟩
    case rest =>
      clear HC13
      try clear c1
      try clear c2
      try clear p2
      try clear c3
      try clear c8
      try clear c10
      try clear c11
      try clear c15
      try clear c16
      try clear c19
      try clear c20
      try clear c21
      try clear c22
      try clear c23
      try clear c23b0
      try clear c23b1
      try clear c24
      try clear c24b0
      try clear c24b1
      try clear c24b2
      try clear c25
      try clear c25b0
      try clear c25b1
      try clear c26
      try clear c26b0
      try clear c26b1
      try clear c26b2
      try clear c27
      try clear c27b0
      try clear c27b1
      obtain ⟨kq, x91_12, rfl, HA, HJ12, HB⟩ := hcut
      cases kq with
      | zero => exact absurd HA.out (by simp [laws_FnStrings.j0])
      | succ kj12 =>
        have H := HA.out
        clear HA
        simp only [laws_FnStrings.j0] at H
        by_cases c28 : x91_12 = true
        · subst c28
          have H1 : (none) = some r := by rw [if_pos rfl] at H; exact H
          clear H
          have H := H1
          clear H1
          exact absurd H (by simp)
        · replace c28 := Bool.eq_false_iff.mpr c28
          subst c28
          have H1 : ((impl_ParseInt.f t187).bind fun bt201 => (if t188 = true then (if bt201.2 = true then (laws_FnStrings.j1 kj12 l0 t196 t197 t198 (bt201.1 != t186)) else (laws_FnStrings.j1 kj12 l0 t196 t197 t198 true)) else (laws_FnStrings.j1 kj12 l0 t196 t197 t198 false))) = some r := by rw [if_neg (show ¬ (false = true) by decide)] at H; exact H
          clear H
          have H := H1
          clear H1
          replace H := Option.bind_eq_some_iff.mp H
          obtain ⟨⟨t201, t202⟩, A290, H⟩ := H
          replace H : (if t188 = true then (if t202 = true then (laws_FnStrings.j1 kj12 l0 t196 t197 t198 (t201 != t186)) else (laws_FnStrings.j1 kj12 l0 t196 t197 t198 true)) else (laws_FnStrings.j1 kj12 l0 t196 t197 t198 false)) = some r := H
          have A29 := Aside0.mk A290
          clear A290
          have HC30 := Aside0.mk H
          clear H
          go_upto_region 15 with (first | ((with_reducible refine gate_callee (f := 20) rfl ?_); refine goesL_ (some 94) rfl rfl Tryd.func20 (by kernel_rfl) rfl #[.string t187] rfl (by (try simp only [List.map_toArray, List.map_cons, List.map_nil]); first | done | rfl | (simp only [List.length_drop, List.length_take]; rfl)) ?_; (with_reducible refine (impl_ParseInt.calls t187 t201 t202 _ ?sideT A29.out).mono ?_); (case sideT => first | exact HT.out | (refine Tab.drawn HT.out ?_; (repeat (first | exact Drawn0.refl _ | apply Drawn0.step)); done) | (refine Tab.below HT.out ?_; repeat (first | (with_reducible first | exact HB.out | apply below_alloc | apply pw_below_drewN | apply below_drew1) | exact HB.out))); rintro e w31 ⟨rfl, hb⟩; refine ⟨_, rfl, ?_⟩; have n0_ := Aside0.mk (below_step (by repeat (first | (with_reducible first | exact HB.out | apply below_alloc | apply pw_below_drewN | apply below_drew1) | exact HB.out)) hb); clear HB; have HB := n0_; clear n0_; (try clear hb); (try clear hb2); (try clear hk); (try clear hi)))
          (try simp only [Act.put, List.setIfInBounds_toArray, List.set_cons_zero, List.set_cons_succ])
          go_cut [106] (fun v106 wc => ∃ (kq : Nat) (x106_29 : Bool), v106 = .bool x106_29 ∧ Aside0 (laws_FnStrings.j1 kq l0 t196 t197 t198 x106_29 = some r) ∧ Aside0 (kq ≤ kj12) ∧ Aside0 (Below w.heap.size w wc))
          case first =>
            have H := HC30.out
            clear HC30
            by_cases c32 : t188 = true
            · subst c32
              have H1 : (if t202 = true then (laws_FnStrings.j1 kj12 l0 t196 t197 t198 (t201 != t186)) else (laws_FnStrings.j1 kj12 l0 t196 t197 t198 true)) = some r := by rw [if_pos rfl] at H; exact H
              clear H
              have H := H1
              clear H1
              by_cases c33 : t202 = true
              · subst c33
                have H1 : (laws_FnStrings.j1 kj12 l0 t196 t197 t198 (t201 != t186)) = some r := by rw [if_pos rfl] at H; exact H
                clear H
                have H := H1
                clear H1
                have H' := Aside0.mk H
                clear H
                go_wp2
                go_meet
                case rel => exact ⟨_, ((t201 != t186)), (by first | rfl | (simp; done) | (simp [*]; done)), H', ⟨by have := HJ12.out; first | omega | exact Nat.le_refl _⟩, ⟨by repeat (first | (with_reducible first | exact HB.out | apply below_alloc | apply pw_below_drewN | apply below_drew1) | exact HB.out)⟩⟩
              · replace c33 := Bool.eq_false_iff.mpr c33
                subst c33
                have H1 : (laws_FnStrings.j1 kj12 l0 t196 t197 t198 true) = some r := by rw [if_neg (show ¬ (false = true) by decide)] at H; exact H
                clear H
                have H := H1
                clear H1
                have H' := Aside0.mk H
                clear H
                go_wp2
                go_meet
                case rel => exact ⟨_, (true), (by first | rfl | (simp; done) | (simp [*]; done)), H', ⟨by have := HJ12.out; first | omega | exact Nat.le_refl _⟩, ⟨by repeat (first | (with_reducible first | exact HB.out | apply below_alloc | apply pw_below_drewN | apply below_drew1) | exact HB.out)⟩⟩
            · replace c32 := Bool.eq_false_iff.mpr c32
              subst c32
              have H1 : (laws_FnStrings.j1 kj12 l0 t196 t197 t198 false) = some r := by rw [if_neg (show ¬ (false = true) by decide)] at H; exact H
              clear H
              have H := H1
              clear H1
              have H' := Aside0.mk H
              clear H
              go_wp2
              go_meet
              case rel => exact ⟨_, (false), (by first | rfl | (simp; done) | (simp [*]; done)), H', ⟨by have := HJ12.out; first | omega | exact Nat.le_refl _⟩, ⟨by repeat (first | (with_reducible first | exact HB.out | apply below_alloc | apply pw_below_drewN | apply below_drew1) | exact HB.out)⟩⟩
          case rest =>
            clear HC30
            try clear c1
            try clear c2
            try clear p2
            try clear c3
            try clear c8
            try clear c10
            try clear c11
            try clear c15
            try clear c16
            try clear c19
            try clear c20
            try clear c21
            try clear c22
            try clear c23
            try clear c23b0
            try clear c23b1
            try clear c24
            try clear c24b0
            try clear c24b1
            try clear c24b2
            try clear c25
            try clear c25b0
            try clear c25b1
            try clear c26
            try clear c26b0
            try clear c26b1
            try clear c26b2
            try clear c27
            try clear c27b0
            try clear c27b1
            try clear c28
            try clear c32
            try clear c33
            try clear p2
            obtain ⟨kq, x106_29, rfl, HA, HJ29, HB⟩ := hcut
            cases kq with
            | zero => exact absurd HA.out (by simp [laws_FnStrings.j1])
            | succ kj29 =>
              have H := HA.out
              clear HA
              simp only [laws_FnStrings.j1] at H
              by_cases c34 : x106_29 = true
              · subst c34
                have H1 : (none) = some r := by rw [if_pos rfl] at H; exact H
                clear H
                have H := H1
                clear H1
                exact absurd H (by simp)
              · replace c34 := Bool.eq_false_iff.mpr c34
                subst c34
                have H1 : (if t198 = true then ((impl_VerifyChecksum.f kj29 t197).bind fun bt203 => ((laws_vAt.f l0 9).bind fun t205 => ((laws_vAt.f l0 10).bind fun t206 => (if 0 < t197.size ∧ 0 ≤ t205 then ((impl_VerifyChecksum.f kj29 (flipB t197 (Int.tmod t205 (t197.size : Int)) t206)).bind fun q => (if bt203.2 = true ∧ bt203.1.toList = t196.toList ∧ q.2 = false then (some true) else (none))) else (none))))) else (some (t197.toList == ([] : List UInt8)))) = some r := by rw [if_neg (show ¬ (false = true) by decide)] at H; exact H
                clear H
                have H := H1
                clear H1
                by_cases c35 : t198 = true
                · subst c35
                  have H1 : ((impl_VerifyChecksum.f kj29 t197).bind fun bt203 => ((laws_vAt.f l0 9).bind fun t205 => ((laws_vAt.f l0 10).bind fun t206 => (if 0 < t197.size ∧ 0 ≤ t205 then ((impl_VerifyChecksum.f kj29 (flipB t197 (Int.tmod t205 (t197.size : Int)) t206)).bind fun q => (if bt203.2 = true ∧ bt203.1.toList = t196.toList ∧ q.2 = false then (some true) else (none))) else (none))))) = some r := by rw [if_pos rfl] at H; exact H
                  clear H
                  have H := H1
                  clear H1
                  replace H := Option.bind_eq_some_iff.mp H
                  obtain ⟨⟨t203, t204⟩, A360, H⟩ := H
                  replace H : ((laws_vAt.f l0 9).bind fun t205 => ((laws_vAt.f l0 10).bind fun t206 => (if 0 < t197.size ∧ 0 ≤ t205 then ((impl_VerifyChecksum.f kj29 (flipB t197 (Int.tmod t205 (t197.size : Int)) t206)).bind fun q => (if t204 = true ∧ t203.toList = t196.toList ∧ q.2 = false then (some true) else (none))) else (none)))) = some r := H
                  have A36 := Aside0.mk A360
                  clear A360
                  replace H := Option.bind_eq_some_iff.mp H
                  obtain ⟨t205, A370, H⟩ := H
                  replace H : ((laws_vAt.f l0 10).bind fun t206 => (if 0 < t197.size ∧ 0 ≤ t205 then ((impl_VerifyChecksum.f kj29 (flipB t197 (Int.tmod t205 (t197.size : Int)) t206)).bind fun q => (if t204 = true ∧ t203.toList = t196.toList ∧ q.2 = false then (some true) else (none))) else (none))) = some r := H
                  have A37 := Aside0.mk A370
                  clear A370
                  replace H := Option.bind_eq_some_iff.mp H
                  obtain ⟨t206, A380, H⟩ := H
                  replace H : (if 0 < t197.size ∧ 0 ≤ t205 then ((impl_VerifyChecksum.f kj29 (flipB t197 (Int.tmod t205 (t197.size : Int)) t206)).bind fun q => (if t204 = true ∧ t203.toList = t196.toList ∧ q.2 = false then (some true) else (none))) else (none)) = some r := H
                  have A38 := Aside0.mk A380
                  clear A380
                  by_cases cz : 0 < t197.size ∧ 0 ≤ t205
                  case neg => rw [if_neg cz] at H; cases H
                  rw [if_pos cz] at H
                  obtain ⟨⟨q1, q2⟩, A990, H⟩ := Option.bind_eq_some_iff.mp H
                  have A99 := Aside0.mk A990
                  clear A990
                  by_cases cq : t204 = true ∧ t203.toList = t196.toList ∧ q2 = false
                  case neg => rw [if_neg cq] at H; cases H
                  rw [if_pos cq] at H
                  obtain rfl := Option.some.inj H
                  clear H
                  obtain ⟨rfl, cq1, rfl⟩ := cq
                  have CQ := Aside0.mk cq1
                  obtain ⟨kN, hkN⟩ : ∃ kN : Nat, Int.tmod t205 (t197.size : Int) = (kN : Int) := ⟨(Int.tmod t205 (t197.size : Int)).toNat, by rw [Int.tmod_eq_emod_of_nonneg cz.2]; have := Int.emod_nonneg t205 (show (t197.size : Int) ≠ 0 by omega); omega⟩
                  have hkL : kN < t197.size := by
                    have h := Int.emod_lt_of_pos t205 (show (0 : Int) < (t197.size : Int) by omega)
                    rw [← Int.tmod_eq_emod_of_nonneg cz.2, hkN] at h
                    omega
                  rw [hkN] at A99
                  have HKN := Aside0.mk hkN
                  have HKL := Aside0.mk hkL
                  have hz0 : ((t197.size : Int) == 0) = false := beq_eq_false_iff_ne.mpr (by omega)
                  have hz1 : ((t197.size : Int) = 0) = False := eq_false (by omega)
                  have hz2 : (t197.size = 0) = False := eq_false (by omega)
                  clear cq1 cz hkN hkL
                  try clear H
                  go_wp2_with (first | ((with_reducible refine gate_callee (f := 18) rfl ?_); refine goesL_ (some 113) rfl rfl Tryd.func18 (by kernel_rfl) rfl #[.string t197] rfl (by (try simp only [List.map_toArray, List.map_cons, List.map_nil]); first | done | rfl | (simp only [List.length_drop, List.length_take]; rfl)) ?_; (with_reducible refine (impl_VerifyChecksum.calls kj29 t197 t203 true _ ?sideT A36.out).mono ?_); (case sideT => first | exact HT.out | (refine Tab.drawn HT.out ?_; (repeat (first | exact Drawn0.refl _ | apply Drawn0.step)); done) | (refine Tab.below HT.out ?_; repeat (first | (with_reducible first | exact HB.out | apply below_alloc | apply pw_below_drewN | apply below_drew1) | exact HB.out))); rintro e w39 ⟨rfl, hb⟩; refine ⟨_, rfl, ?_⟩; have n0_ := Aside0.mk (below_step (by repeat (first | (with_reducible first | exact HB.out | apply below_alloc | apply pw_below_drewN | apply below_drew1) | exact HB.out)) hb); clear HB; have HB := n0_; clear n0_; (try clear hb); (try clear hb2); (try clear hk); (try clear hi)) | ((with_reducible refine gate_callee (f := 25) rfl ?_); refine goesL_ (some 119) rfl rfl Tryd.func25 (by kernel_rfl) rfl #[.slice A0 l0.length c0, .int .i64 9] rfl (by (try simp only [List.map_toArray, List.map_cons, List.map_nil]); first | done | rfl | (simp only [List.length_drop, List.length_take]; rfl)) ?_; (with_reducible refine (laws_vAt.calls _ _ l0 9 t205 _ ?side1 ?side2 A37.out).mono ?_); (case side1 => repeat (first | exact (Kd.C_below HR0.out HB.out) | (with_reducible refine Kd.C_alloc ?_ _) | (with_reducible refine Kd.C_drewN ?_ _) | (with_reducible refine Kd.C_drew ?_))); (case side2 => exact HC0.out); rintro e w' ⟨rfl, ⟨nd, rfl⟩⟩; refine ⟨_, rfl, ?_⟩) | ((with_reducible refine gate_callee (f := 25) rfl ?_); refine goesL_ (some 130) rfl rfl Tryd.func25 (by kernel_rfl) rfl #[.slice A0 l0.length c0, .int .i64 10] rfl (by (try simp only [List.map_toArray, List.map_cons, List.map_nil]); first | done | rfl | (simp only [List.length_drop, List.length_take]; rfl)) ?_; (with_reducible refine (laws_vAt.calls _ _ l0 10 t206 _ ?side1 ?side2 A38.out).mono ?_); (case side1 => repeat (first | exact (Kd.C_below HR0.out (by repeat (first | (with_reducible first | exact HB.out | apply below_alloc | apply pw_below_drewN | apply below_drew1) | exact HB.out))) | (with_reducible refine Kd.C_alloc ?_ _) | (with_reducible refine Kd.C_drewN ?_ _) | (with_reducible refine Kd.C_drew ?_))); (case side2 => exact HC0.out); rintro e w' ⟨rfl, ⟨nd, rfl⟩⟩; refine ⟨_, rfl, ?_⟩))
                  obtain ⟨W1, hW1⟩ : ∃ W1, W1 = Lib.bytesWorld w39 5 t197 := ⟨_, rfl⟩
                  have hc1 : (convert 9 35 (.string t197)).run Tryd.prog w39 = .ok (.slice (some ⟨w39.heap.size, 0, none⟩) t197.size (grownCap w39 t197.size 0 5)) W1 := by rw [hW1]; exact Lib.run_convert_string_bytes w39 9 35 5 t197 Tryd.underlying9 Tryd.underlying35 Tryd.underlying5
                  have HCL := Aside0.mk (fun j (hj : j < t197.size) => (show W1.cell? ⟨w39.heap.size, j, none⟩ = some (.int .u8 (t197.data.toList.getD j 0).toNat) by rw [hW1]; exact Lib.bytesWorld_cell w39 5 t197 j hj))
                  have HFR := Aside0.mk (fun j (hj : j < t197.size) => (show W1.frozen? ⟨w39.heap.size, j, none⟩ = false by rw [hW1]; exact bytes_frozen w39 5 t197 j hj))
                  have HGE := Aside0.mk (show w.heap.size ≤ w39.heap.size from below_size HB.out)
                  have n0_ := Aside0.mk (below_step HB.out (show Below w39.heap.size w39 W1 by rw [hW1]; exact Lib.bytesWorld_below w39 5 t197))
                  clear HB
                  have HB := n0_
                  clear n0_ hW1
                  generalize grownCap w39 t197.size 0 5 = cp at hc1
                  generalize hgB : w39.heap.size = gB at hc1 HCL HFR HGE
                  clear hgB
                  rw [hc1]
                  clear hc1
                  go_wp2_with (first | ((with_reducible refine gate_callee (f := 18) rfl ?_); refine goesL_ (some 113) rfl rfl Tryd.func18 (by kernel_rfl) rfl #[.string t197] rfl (by (try simp only [List.map_toArray, List.map_cons, List.map_nil]); first | done | rfl | (simp only [List.length_drop, List.length_take]; rfl)) ?_; (with_reducible refine (impl_VerifyChecksum.calls kj29 t197 t203 true _ ?sideT A36.out).mono ?_); (case sideT => first | exact HT.out | (refine Tab.drawn HT.out ?_; (repeat (first | exact Drawn0.refl _ | apply Drawn0.step)); done) | (refine Tab.below HT.out ?_; repeat (first | (with_reducible first | exact HB.out | apply below_alloc | apply pw_below_drewN | apply below_drew1) | exact HB.out))); rintro e w39 ⟨rfl, hb⟩; refine ⟨_, rfl, ?_⟩; have n0_ := Aside0.mk (below_step (by repeat (first | (with_reducible first | exact HB.out | apply below_alloc | apply pw_below_drewN | apply below_drew1) | exact HB.out)) hb); clear HB; have HB := n0_; clear n0_; (try clear hb); (try clear hb2); (try clear hk); (try clear hi)) | ((with_reducible refine gate_callee (f := 25) rfl ?_); refine goesL_ (some 119) rfl rfl Tryd.func25 (by kernel_rfl) rfl #[.slice A0 l0.length c0, .int .i64 9] rfl (by (try simp only [List.map_toArray, List.map_cons, List.map_nil]); first | done | rfl | (simp only [List.length_drop, List.length_take]; rfl)) ?_; (with_reducible refine (laws_vAt.calls _ _ l0 9 t205 _ ?side1 ?side2 A37.out).mono ?_); (case side1 => repeat (first | exact (Kd.C_below HR0.out HB.out) | (with_reducible refine Kd.C_alloc ?_ _) | (with_reducible refine Kd.C_drewN ?_ _) | (with_reducible refine Kd.C_drew ?_))); (case side2 => exact HC0.out); rintro e w' ⟨rfl, ⟨nd, rfl⟩⟩; refine ⟨_, rfl, ?_⟩) | ((with_reducible refine gate_callee (f := 25) rfl ?_); refine goesL_ (some 130) rfl rfl Tryd.func25 (by kernel_rfl) rfl #[.slice A0 l0.length c0, .int .i64 10] rfl (by (try simp only [List.map_toArray, List.map_cons, List.map_nil]); first | done | rfl | (simp only [List.length_drop, List.length_take]; rfl)) ?_; (with_reducible refine (laws_vAt.calls _ _ l0 10 t206 _ ?side1 ?side2 A38.out).mono ?_); (case side1 => repeat (first | exact (Kd.C_below HR0.out (by repeat (first | (with_reducible first | exact HB.out | apply below_alloc | apply pw_below_drewN | apply below_drew1) | exact HB.out))) | (with_reducible refine Kd.C_alloc ?_ _) | (with_reducible refine Kd.C_drewN ?_ _) | (with_reducible refine Kd.C_drew ?_))); (case side2 => exact HC0.out); rintro e w' ⟨rfl, ⟨nd, rfl⟩⟩; refine ⟨_, rfl, ?_⟩))
                  simp only [HKN.out]
                  have hp_ : (0 ≤ (kN : Int)) = True := eq_true (by omega)
                  have hq_ : ((kN : Int) < (t197.size : Int)) = True := eq_true (by have := HKL.out; omega)
                  have hqi_ : (kN < t197.size) = True := eq_true HKL.out
                  obtain ⟨ob, hob⟩ : ∃ ob : Int, (((t197.data.toList.getD kN 0).toNat : Nat) : Int) = ob := ⟨_, rfl⟩
                  have HOB := Aside0.mk hob
                  have hx0 : W1.cell? ⟨gB, kN, none⟩ = some (.int .u8 ob) := by rw [← hob]; exact HCL.out kN HKL.out
                  have hf0 : W1.frozen? ⟨gB, kN, none⟩ = false := HFR.out kN HKL.out
                  clear hob
                  refine start_ (n := 14) (S := fun w' => w'.cell? ⟨gB, kN, none⟩ = some (.int .u8 ob)) (ds := [13]) #[false, false, false, false, false, false, false, false, false, false, false, false, false, false] (by kernel_rfl) rfl rfl hx0 (fun hHeld => ?_)
                  refine with_tabW laws_FnStrings.tab22 laws_FnStrings.bits22 (fun HT_ HW_ => ?_)
                  clear hx0 hf0
                  generalize hWW : (W1.drewN nd).drew = W2 at hHeld ⊢
                  have m0_ : Aside0 (∀ j, j < t197.size → W2.cell? ⟨gB, j, none⟩ = some (.int .u8 (t197.data.toList.getD j 0).toNat)) := ⟨by rw [← hWW]; exact HCL.out⟩
                  have m1_ : Aside0 (∀ j, j < t197.size → W2.frozen? ⟨gB, j, none⟩ = false) := ⟨by rw [← hWW]; exact HFR.out⟩
                  have m2_ : Aside0 (Below w.heap.size w W2) := ⟨by rw [← hWW]; exact below_drew1 (pw_below_drewN HB.out nd)⟩
                  clear HCL HFR HB hWW
                  have HCL := m0_
                  have HFR := m1_
                  have HB := m2_
                  clear m0_ m1_ m2_
                  refine pure_ (i := 0) (N := some 123) (v := ?_) (a' := ?_) #[true, false, false, false, false, false, false, false, false, false, false, false, false, false] rfl rfl (any_of HT_.out (by kernel_rfl)) (fun _ _ _ h => h) (Or.inl ⟨by rfl, ?_⟩) ?_ ?_
                  rotate_left
                  · intro w'
                    go_simp
                    with_reducible rfl
                  rotate_left
                  · simp only [Act.put, List.setIfInBounds_toArray, List.set_cons_zero, List.set_cons_succ, i64_w, i32_w]
                    rfl
                  refine pure_ (i := 1) (N := some 124) (v := ?_) (a' := ?_) #[true, true, false, false, false, false, false, false, false, false, false, false, false, false] rfl rfl (any_of HT_.out (by kernel_rfl)) (fun _ _ _ h => h) (Or.inl ⟨by rfl, ?_⟩) ?_ ?_
                  rotate_left
                  · intro w'
                    go_simp
                    with_reducible rfl
                  rotate_left
                  · simp only [Act.put, List.setIfInBounds_toArray, List.set_cons_zero, List.set_cons_succ, i64_w, i32_w]
                    rfl
                  refine pure_ (i := 2) (N := some 125) (v := ?_) (a' := ?_) #[true, true, true, false, false, false, false, false, false, false, false, false, false, false] rfl rfl (any_of HT_.out (by kernel_rfl)) (fun _ _ _ h => h) (Or.inl ⟨by rfl, ?_⟩) ?_ ?_
                  rotate_left
                  · intro w'
                    go_simp
                    with_reducible rfl
                  rotate_left
                  · simp only [Act.put, List.setIfInBounds_toArray, List.set_cons_zero, List.set_cons_succ, i64_w, i32_w]
                    rfl
                  refine pure_ (i := 3) (N := some 126) (v := ?_) (a' := ?_) #[true, true, true, true, false, false, false, false, false, false, false, false, false, false] rfl rfl (any_of HT_.out (by kernel_rfl)) (fun _ _ _ h => h) (Or.inl ⟨by rfl, ?_⟩) ?_ ?_
                  rotate_left
                  · intro w'
                    go_simp
                    with_reducible rfl
                  rotate_left
                  · simp only [Act.put, List.setIfInBounds_toArray, List.set_cons_zero, List.set_cons_succ, i64_w, i32_w]
                    rfl
                  refine pure_ (i := 4) (N := some 127) (v := ?_) (a' := ?_) #[true, true, true, true, true, false, false, false, false, false, false, false, false, false] rfl rfl (any_of HT_.out (by kernel_rfl)) (fun _ _ _ h => h) (Or.inl ⟨by rfl, ?_⟩) ?_ ?_
                  rotate_left
                  · intro w'
                    go_simp
                    with_reducible rfl
                  rotate_left
                  · simp only [Act.put, List.setIfInBounds_toArray, List.set_cons_zero, List.set_cons_succ, i64_w, i32_w]
                    rfl
                  refine pure_ (i := 6) (N := some 129) (v := ?_) (a' := ?_) #[true, true, true, true, true, false, true, false, false, false, false, false, false, false] rfl rfl (any_of HT_.out (by kernel_rfl)) (fun _ _ _ h => h) (Or.inl ⟨by rfl, ?_⟩) ?_ ?_
                  rotate_left
                  · intro w'
                    go_simp
                    with_reducible rfl
                  rotate_left
                  · simp only [Act.put, List.setIfInBounds_toArray, List.set_cons_zero, List.set_cons_succ, i64_w, i32_w]
                    rfl
                  refine take_ (i := 5) (N := some 128) (v := ?_) (a' := ?_) #[true, true, true, true, true, true, true, false, false, false, false, false, false, false] rfl rfl (take_ofW HT_.out HW_.out (by kernel_rfl)) (fun _ _ _ h => h) (Or.inl ⟨by rfl, ?_⟩) hHeld ?_ ?_
                  rotate_left
                  · intro w' s0
                    go_simp
                    with_reducible rfl
                  rotate_left
                  · simp only [Act.put, List.setIfInBounds_toArray, List.set_cons_zero, List.set_cons_succ, i64_w, i32_w]
                    rfl
                  refine one_ (i := 7) (N := some 130) #[true, true, true, true, true, true, true, true, false, false, false, false, false, false] rfl rfl (one_of HT_.out (by kernel_rfl)) (by decide) (fun K hK => ?_)
                  refine goes_ Tryd.func25 (by kernel_rfl) rfl #[.slice A0 l0.length c0, .int .i64 10] (by rfl) rfl rfl (by (try simp only [List.map_toArray, List.map_cons, List.map_nil]); first | done | rfl) ?_
                  refine (laws_vAt.calls _ _ l0 10 t206 _ ?side1 ?side2 A38.out).mono ?_
                  case side1 => exact Kd.C_below HR0.out HB.out
                  case side2 => exact HC0.out
                  rintro e w' ⟨rfl, ⟨nd2, rfl⟩⟩
                  refine ⟨_, rfl, ?_⟩
                  refine hK.out _ _ (show (W2.drewN nd2).cell? ⟨gB, kN, none⟩ = some (.int .u8 ob) from hHeld) (fun hHeld => ?_)
                  clear hK K
                  generalize hWW : W2.drewN nd2 = W3 at hHeld ⊢
                  have m0_ : Aside0 (∀ j, j < t197.size → W3.cell? ⟨gB, j, none⟩ = some (.int .u8 (t197.data.toList.getD j 0).toNat)) := ⟨by rw [← hWW]; exact HCL.out⟩
                  have m1_ : Aside0 (∀ j, j < t197.size → W3.frozen? ⟨gB, j, none⟩ = false) := ⟨by rw [← hWW]; exact HFR.out⟩
                  have m2_ : Aside0 (Below w.heap.size w W3) := ⟨by rw [← hWW]; exact pw_below_drewN HB.out nd2⟩
                  clear HCL HFR HB hWW
                  have HCL := m0_
                  have HFR := m1_
                  have HB := m2_
                  clear m0_ m1_ m2_
                  refine norm_ (a' := ?_) ?_ ?_
                  rotate_left
                  · show Act.put _ (some 130) _ = _
                    simp only [Act.put, List.setIfInBounds_toArray, List.set_cons_zero, List.set_cons_succ, i64_w, i32_w]
                    rfl
                  refine pure_ (i := 8) (N := some 131) (v := ?_) (a' := ?_) #[true, true, true, true, true, true, true, true, true, false, false, false, false, false] rfl rfl (any_of HT_.out (by kernel_rfl)) (fun _ _ _ h => h) (Or.inl ⟨by rfl, ?_⟩) ?_ ?_
                  rotate_left
                  · intro w'
                    go_simp
                    with_reducible rfl
                  rotate_left
                  · simp only [Act.put, List.setIfInBounds_toArray, List.set_cons_zero, List.set_cons_succ, i64_w, i32_w]
                    rfl
                  refine pure_ (i := 9) (N := some 132) (v := ?_) (a' := ?_) #[true, true, true, true, true, true, true, true, true, true, false, false, false, false] rfl rfl (any_of HT_.out (by kernel_rfl)) (fun _ _ _ h => h) (Or.inl ⟨by rfl, ?_⟩) ?_ ?_
                  rotate_left
                  · intro w'
                    go_simp
                    with_reducible rfl
                  rotate_left
                  · simp only [Act.put, List.setIfInBounds_toArray, List.set_cons_zero, List.set_cons_succ, i64_w, i32_w]
                    rfl
                  refine pure_ (i := 10) (N := some 133) (v := ?_) (a' := ?_) #[true, true, true, true, true, true, true, true, true, true, true, false, false, false] rfl rfl (any_of HT_.out (by kernel_rfl)) (fun _ _ _ h => h) (Or.inl ⟨by rfl, ?_⟩) ?_ ?_
                  rotate_left
                  · intro w'
                    go_simp
                    with_reducible rfl
                  rotate_left
                  · simp only [Act.put, List.setIfInBounds_toArray, List.set_cons_zero, List.set_cons_succ, i64_w, i32_w]
                    rfl
                  refine pure_ (i := 11) (N := some 134) (v := ?_) (a' := ?_) #[true, true, true, true, true, true, true, true, true, true, true, true, false, false] rfl rfl (any_of HT_.out (by kernel_rfl)) (fun _ _ _ h => h) (Or.inl ⟨by rfl, ?_⟩) ?_ ?_
                  rotate_left
                  · intro w'
                    go_simp
                    with_reducible rfl
                  rotate_left
                  · simp only [Act.put, List.setIfInBounds_toArray, List.set_cons_zero, List.set_cons_succ, i64_w, i32_w]
                    rfl
                  refine pure_ (i := 12) (N := some 135) (v := ?_) (a' := ?_) #[true, true, true, true, true, true, true, true, true, true, true, true, true, false] rfl rfl (any_of HT_.out (by kernel_rfl)) (fun _ _ _ h => h) (Or.inl ⟨by rfl, ?_⟩) ?_ ?_
                  rotate_left
                  · intro w'
                    go_simp
                    with_reducible rfl
                  rotate_left
                  · simp only [Act.put, List.setIfInBounds_toArray, List.set_cons_zero, List.set_cons_succ, i64_w, i32_w]
                    rfl
                  have hf0 : W3.frozen? ⟨gB, kN, none⟩ = false := HFR.out kN HKL.out
                  refine last_ (i := 13) (N := none) #[true, true, true, true, true, true, true, true, true, true, true, true, true, true] rfl rfl (one_of HT_.out (by kernel_rfl)) (by decide) (fun K hK => ?_)
                  have hs_ : W3.cell? ⟨gB, kN, none⟩ = some (.int .u8 ob) := hHeld
                  refine skip_ (w1 := ?_) (by rfl) rfl ?_ ?_
                  rotate_left
                  · go_simp
                    rfl
                  refine hK.out _ _ ?_
                  clear hK K
                  refine done_ (done_of HT_.out (by kernel_rfl)) ?_
                  have hc2 := flip_back (W := W3) (g := gB) (cp := cp) HKL.out HOB.out HCL.out t206
                  have m2_ := Aside0.mk (below_set (j := kN) (v := .int .u8 (Go.bits .xor .u8 ob (IntKind.u8.wrap (wrap64 (1 + Int.tmod t206 255))))) HB.out HGE.out)
                  clear hHeld hs_ hf0 HCL HFR HB
                  have HB := m2_
                  clear m2_
                  generalize (W3.setCell ⟨gB, kN, none⟩ (.int .u8 (Go.bits .xor .u8 ob (IntKind.u8.wrap (wrap64 (1 + Int.tmod t206 255)))))) = W4 at hc2 HB ⊢
                  have hzx : (t203.toList == t196.toList) = true := beq_iff_eq.mpr CQ.out
                  go_wp2_with (first | ((with_reducible refine gate_callee (f := 18) rfl ?_); refine goesL_ (some 139) rfl rfl Tryd.func18 (by kernel_rfl) rfl #[.string (flipB t197 (kN : Int) t206)] rfl (by (try simp only [List.map_toArray, List.map_cons, List.map_nil]); first | done | rfl | (simp only [List.length_drop, List.length_take]; rfl)) ?_; (with_reducible refine (impl_VerifyChecksum.calls kj29 (flipB t197 (kN : Int) t206) q1 false _ ?sideT A99.out).mono ?_); (case sideT => first | exact HT.out | (refine Tab.drawn HT.out ?_; (repeat (first | exact Drawn0.refl _ | apply Drawn0.step)); done) | (refine Tab.below HT.out ?_; repeat (first | (with_reducible first | exact HB.out | apply below_alloc | apply pw_below_drewN | apply below_drew1) | exact HB.out))); rintro e w49 ⟨rfl, hb⟩; refine ⟨_, rfl, ?_⟩; have n0_ := Aside0.mk (below_step (by repeat (first | (with_reducible first | exact HB.out | apply below_alloc | apply pw_below_drewN | apply below_drew1) | exact HB.out)) hb); clear HB; have HB := n0_; clear n0_; (try clear hb); (try clear hb2); (try clear hk); (try clear hi)))
                  go_ret
                  exact ⟨by first | rfl | (simp [*]; done), HB.out⟩
                · replace c35 := Bool.eq_false_iff.mpr c35
                  subst c35
                  have H1 : (some (t197.toList == ([] : List UInt8))) = some r := by rw [if_neg (show ¬ (false = true) by decide)] at H; exact H
                  clear H
                  have H := H1
                  clear H1
                  obtain rfl := Option.some.inj H
                  go_wp2
                  go_ret
                  exact ⟨by first | rfl | (simp [errW_none, errW_some] <;> rfl) | (simp [*, errW_none, errW_some] <;> rfl), by repeat (first | (with_reducible first | exact HB.out | apply below_alloc | apply pw_below_drewN | apply below_drew1) | exact HB.out)⟩

end Go.Proofs.YtcmccjiimiomhaaDoor.XFnStrings
