/- Contracts of the functions that the law FnSplitJoin comes to: each is told as a plain function of its arguments, and the machine's call does what that function says; no condition. Written by programs (print.py, xprint.py); Lean checks it. -/
import Derived.Test.YtpfmhoikhnhdcaaXFnSplitJoinx0
import Derived.Test.YtpfmhoikhnhdcaaXFnSplitJoinx1
import Derived.Test.YtpfmhoikhnhdcaaXFnSplitJoinx2
namespace Go.Proofs.Ytpfmhoikhnhdcaa.XFnSplitJoin
open Go.RowKit Go.Proofs.YtpfmhoikhnhdcaaW.PrintWords Go.Proofs.YtpfmhoikhnhdcaaW.PrintLast Go.Proofs.YtpfmhoikhnhdcaaW.PrintMore
attribute [local go_sem] max2_int min2_int max_two min_two max_three min_three max_four min_four   -- for this text's walks alone
set_option linter.unusedVariables false
set_option linter.unusedSimpArgs false

/-! ### spec_DrawLessString_in: function 27 -/
def spec_DrawLessString_in.f (s0_0 : List Int) (s0_1 : Int) (s0_2 : Int) : Option (ByteArray × ByteArray × Int × Int) := (spec_l1Cur_any1.f s0_0 s0_1 s0_2).bind fun bt180 => ((spec_l1Cur_any1.f s0_0 bt180.2.1 bt180.2.2).bind fun bt183 => (some (bt180.1, bt183.1, bt183.2.1, bt183.2.2)))
set_option maxHeartbeats 8000000 in
set_option maxRecDepth 100000 in
theorem spec_DrawLessString_in.calls (A0 : Option Addr) (c0 : Nat) (l0 : List Int) (r1 : ByteArray) (r2 : ByteArray) (r3 : Int) (r4 : Int) (w : World) (hr0 : Kd.C (Kd.int .u8) w A0 l0.length l0) (hc0 : l0.length ≤ c0) (h : spec_DrawLessString_in.f l0 0 0 = some (r1, r2, r3, r4)) :
    Calls Try.prog 27 #[.slice A0 l0.length c0] w fun e w' => e = .returned (.tuple #[.string r1, .string r2]) ∧ IsS101 w w' w.heap.size l0 r3 r4 ∧ Below w.heap.size w w' ∧ KeepBut (w.alloc (.cells #[.slice A0 l0.length c0, .int .i64 0, .int .u64 0] 101)) w' w.heap.size none := by
  have hI : IsS101 w (w.alloc (.cells #[.slice A0 l0.length c0, .int .i64 0, .int .u64 0] 101)) w.heap.size l0 0 0 := ⟨A0, c0, heap_alloc_new w _, Nat.le_refl _, hr0⟩
  have hB : Below w.heap.size w (w.alloc (.cells #[.slice A0 l0.length c0, .int .i64 0, .int .u64 0] 101)) := below_alloc (Below.refl _ _) _
  clear hr0
  have HI0 := Aside0.mk hI
  have HK := Aside0.mk (KeepBut.refl (w.alloc (.cells #[.slice A0 l0.length c0, .int .i64 0, .int .u64 0] 101)) w.heap.size none)
  have HL := Aside0.mk hB.size
  clear hI
  have HW0 := Aside0.mk hB.size
  have HB := Aside0.mk hB
  clear hB
  have H : ((spec_l1Cur_any1.f l0 0 0).bind fun bt180 => ((spec_l1Cur_any1.f l0 bt180.2.1 bt180.2.2).bind fun bt183 => (some (bt180.1, bt183.1, bt183.2.1, bt183.2.2)))) = some (r1, r2, r3, r4) := h
  clear h
  replace H := Option.bind_eq_some_iff.mp H
  obtain ⟨⟨t180, t181, t182⟩, A20, H⟩ := H
  replace H : ((spec_l1Cur_any1.f l0 t181 t182).bind fun bt183 => (some (t180, bt183.1, bt183.2.1, bt183.2.2))) = some (r1, r2, r3, r4) := H
  have A2 := Aside0.mk A20
  clear A20
  replace H := Option.bind_eq_some_iff.mp H
  obtain ⟨⟨t183, t184, t185⟩, A30, H⟩ := H
  replace H : (some (t180, t183, t184, t185)) = some (r1, r2, r3, r4) := H
  have A3 := Aside0.mk A30
  clear A30
  simp only [Option.some.injEq, Prod.mk.injEq] at H
  obtain ⟨rfl, rfl, rfl, rfl⟩ := H
  go_enter Try.func27, Try.ntmps27
  go_wp2_with (first | ((with_reducible refine gate_callee (f := 82) rfl ?_); refine goesL_ (some 10) rfl rfl Try.func82 (by kernel_rfl) rfl #[.pointer (some ⟨w.heap.size, 0, none⟩)] rfl (by (try simp only [List.map_toArray, List.map_cons, List.map_nil]); first | done | rfl | (simp only [List.length_drop, List.length_take]; rfl)) ?_; (with_reducible refine (spec_l1Cur_any1.calls w.heap.size l0 0 0 t180 t181 t182 w _ ?side1 ?side2 A2.out).mono ?_); (case side1 => repeat (first | (with_reducible first | exact HI0.out | apply IsS101.alloc | apply IsS101.drewN | apply IsS101.drew | apply IsS101.set_1 | apply IsS101.set_2) | exact HI0.out)); (case side2 => repeat (first | (with_reducible first | exact HB.out | apply below_alloc | apply pw_below_drewN | apply below_drew1 | refine below_set ?_ (IsS101.ge HI0.out)) | exact HB.out)); rintro e w4 ⟨rfl, hi, hb, hk⟩; refine ⟨_, rfl, ?_⟩; have n0_ := Aside0.mk (KeepBut.trans (by repeat (first | (with_reducible first | exact HK.out | apply KeepBut.set_ | apply keep_drewN | apply keep_drew | apply keep_alloc) | exact HK.out)) hk (.inl rfl)); have n1_ := Aside0.mk (hb); have n2_ := Aside0.mk (hi); clear HK; clear HB; clear HI0; have HK := n0_; have HB := n1_; have HI0 := n2_; clear n0_ n1_ n2_; (try clear hb); (try clear hb2); (try clear hk); (try clear hi)) | ((with_reducible refine gate_callee (f := 82) rfl ?_); refine goesL_ (some 13) rfl rfl Try.func82 (by kernel_rfl) rfl #[.pointer (some ⟨w.heap.size, 0, none⟩)] rfl (by (try simp only [List.map_toArray, List.map_cons, List.map_nil]); first | done | rfl | (simp only [List.length_drop, List.length_take]; rfl)) ?_; (with_reducible refine (spec_l1Cur_any1.calls w.heap.size l0 t181 t182 t183 t184 t185 w _ ?side1 ?side2 A3.out).mono ?_); (case side1 => repeat (first | (with_reducible first | exact HI0.out | apply IsS101.alloc | apply IsS101.drewN | apply IsS101.drew | apply IsS101.set_1 | apply IsS101.set_2) | exact HI0.out)); (case side2 => repeat (first | (with_reducible first | exact HB.out | apply below_alloc | apply pw_below_drewN | apply below_drew1 | refine below_set ?_ (IsS101.ge HI0.out)) | exact HB.out)); rintro e w5 ⟨rfl, hi, hb, hk⟩; refine ⟨_, rfl, ?_⟩; have n0_ := Aside0.mk (KeepBut.trans (by repeat (first | (with_reducible first | exact HK.out | apply KeepBut.set_ | apply keep_drewN | apply keep_drew | apply keep_alloc) | exact HK.out)) hk (.inl rfl)); have n1_ := Aside0.mk (hb); have n2_ := Aside0.mk (hi); clear HK; clear HB; clear HI0; have HK := n0_; have HB := n1_; have HI0 := n2_; clear n0_ n1_ n2_; (try clear hb); (try clear hb2); (try clear hk); (try clear hi)))
  go_ret2
  exact ⟨by first | rfl | (simp [errW_none, errW_some] <;> rfl) | (simp [*, errW_none, errW_some] <;> rfl), by repeat (first | (with_reducible first | exact HI0.out | apply IsS101.alloc | apply IsS101.drewN | apply IsS101.drew | apply IsS101.set_1 | apply IsS101.set_2) | exact HI0.out), by repeat (first | (with_reducible first | exact HB.out | apply below_alloc | apply pw_below_drewN | apply below_drew1 | refine below_set ?_ (IsS101.ge HI0.out)) | exact HB.out), by repeat (first | (with_reducible first | exact HK.out | apply KeepBut.set_ | apply keep_drewN | apply keep_drew | apply keep_alloc) | exact HK.out)⟩

/-! ### spec_DrawLessString: function 27 -/
def spec_DrawLessString.f (l0 : List Int) : Option (ByteArray × ByteArray) := (spec_DrawLessString_in.f l0 0 0).bind fun t => some (t.1, t.2.1)
theorem spec_DrawLessString.calls (A0 : Option Addr) (c0 : Nat) (l0 : List Int) (r1 : ByteArray) (r2 : ByteArray) (w : World) (hr0 : Kd.C (Kd.int .u8) w A0 l0.length l0) (hc0 : l0.length ≤ c0) (h : spec_DrawLessString.f l0 = some (r1, r2)) :
    Calls Try.prog 27 #[.slice A0 l0.length c0] w fun e w' => e = .returned (.tuple #[.string r1, .string r2]) ∧ Below w.heap.size w w' := by
  unfold spec_DrawLessString.f at h
  obtain ⟨⟨r1, r2, r3, r4⟩, h1, h2⟩ := Option.bind_eq_some_iff.mp h
  simp only [Option.some.injEq, Prod.mk.injEq] at h2
  obtain ⟨rfl, rfl⟩ := h2
  exact (spec_DrawLessString_in.calls A0 c0 l0 r1 r2 r3 r4 w hr0 hc0 h1).mono fun e w' hp => ⟨hp.1, hp.2.2.1⟩

/-! ### impl_LessString: function 28 -/
def impl_LessString.f (a0 : ByteArray) (a1 : ByteArray) : Option (Bool) := some (Op.bytesLess a0.toList a1.toList)
set_option maxHeartbeats 8000000 in
set_option maxRecDepth 100000 in
theorem impl_LessString.calls (a0 : ByteArray) (a1 : ByteArray) (r : Bool) (w : World) (h : impl_LessString.f a0 a1 = some r) :
    Calls Try.prog 28 #[.string a0, .string a1] w fun e w' => e = .returned (.bool r) ∧ Drawn0 w w' := by
  have H : (some (Op.bytesLess a0.toList a1.toList)) = some r := h
  clear h
  obtain rfl := Option.some.inj H
  go_enter Try.func28, Try.ntmps28
  go_wp2
  go_ret
  exact ⟨by first | rfl | (simp; done) | (simp [*]; done), by repeat (first | exact Drawn0.refl _ | apply Drawn0.step)⟩

/-! ### spec_LessString: function 29 -/
def spec_LessString.f (a0 : ByteArray) (a1 : ByteArray) : Option (Bool) := some (Op.bytesLess a0.toList a1.toList)
set_option maxHeartbeats 8000000 in
set_option maxRecDepth 100000 in
theorem spec_LessString.calls (a0 : ByteArray) (a1 : ByteArray) (r : Bool) (w : World) (h : spec_LessString.f a0 a1 = some r) :
    Calls Try.prog 29 #[.string a0, .string a1] w fun e w' => e = .returned (.bool r) ∧ Drawn0 w w' := by
  have H : (some (Op.bytesLess a0.toList a1.toList)) = some r := h
  clear h
  obtain rfl := Option.some.inj H
  go_enter Try.func29, Try.ntmps29
  go_wp2
  go_ret
  exact ⟨by first | rfl | (simp; done) | (simp [*]; done), by repeat (first | exact Drawn0.refl _ | apply Drawn0.step)⟩

/-! ### laws_FnSplitJoin: function 5 -/
def laws_FnSplitJoin.j0 : Nat → ByteArray → ByteArray → List ByteArray → Bool → Bool → Option (Bool)
  | 0, _, _, _, _, _ => none
  | k + 1, x3, x4, x5, x6, x78 => if x78 = true then (some false) else (if (x4.size : Int) = 1 then ((impl_JoinStrings.f k x5 x4).bind fun bt207 => (if x6 = true then (if bt207.2 = true then (some (bt207.1.toList == x3.toList)) else (some false)) else (some false))) else (if x6 = true then (some false) else (some ((x5.length : Int) == 0))))
def laws_FnSplitJoin.f (k : Nat) (l0 : List Int) : Option (Bool) := (laws_vBig.f l0).bind fun t186 => (if t186 = true then (some true) else ((spec_DrawSplitString.f l0).bind fun bt187 => ((impl_SplitString.f k bt187.1 bt187.2).bind fun bt189 => ((spec_DrawJoinStrings.f k l0).bind fun bt193 => ((impl_JoinStrings.f k bt193.1 bt193.2).bind fun bt197 => ((spec_JoinStrings.f k bt193.1 bt193.2).bind fun bt199 => ((spec_DrawLessString.f l0).bind fun bt201 => (if bt197.1.toList = bt199.1.toList then (if (bt197.2 != bt199.2) = true then (laws_FnSplitJoin.j0 k bt187.1 bt187.2 bt189.1 bt189.2 true) else ((impl_LessString.f bt201.1 bt201.2).bind fun t203 => ((spec_LessString.f bt201.1 bt201.2).bind fun t204 => (if (t203 != t204) = true then (laws_FnSplitJoin.j0 k bt187.1 bt187.2 bt189.1 bt189.2 true) else ((impl_LessString.f bt201.1 bt201.2).bind fun t205 => (if t205 = true then ((impl_LessString.f bt201.2 bt201.1).bind fun t206 => (laws_FnSplitJoin.j0 k bt187.1 bt187.2 bt189.1 bt189.2 t206)) else (laws_FnSplitJoin.j0 k bt187.1 bt187.2 bt189.1 bt189.2 false))))))) else (laws_FnSplitJoin.j0 k bt187.1 bt187.2 bt189.1 bt189.2 true)))))))))
theorem laws_FnSplitJoin.mono_l : ∀ k, (∀ y0 y1 y2 y3 y4, LeO (laws_FnSplitJoin.j0 k y0 y1 y2 y3 y4) (laws_FnSplitJoin.j0 (k + 1) y0 y1 y2 y3 y4))
  | 0 => fun _ _ _ _ _ r h => by simp [laws_FnSplitJoin.j0] at h
  | k + 1 => by
    have ih0 := laws_FnSplitJoin.mono_l k
    · intro y0 y1 y2 y3 y4
      unfold laws_FnSplitJoin.j0
      repeat' first
      | (with_reducible exact ih0 _ _ _ _ _)
      | (with_reducible exact impl_JoinStrings.mono _ _ _)
      | (with_reducible exact impl_SplitString.mono _ _ _)
      | (with_reducible exact spec_DrawJoinStrings.mono _ _)
      | (with_reducible exact spec_JoinStrings.mono _ _ _)
      | (with_reducible exact LeO.refl _)
      | (with_reducible exact LeO.none _)
      | (with_reducible refine LeO.ite ?_ ?_)
      | (with_reducible refine LeO.bind ?_ (fun _ => ?_))
      | exact ih0 _ _ _ _ _
      | exact impl_JoinStrings.mono _ _ _
      | exact impl_SplitString.mono _ _ _
      | exact spec_DrawJoinStrings.mono _ _
      | exact spec_JoinStrings.mono _ _ _
      | exact LeO.none _
      | refine LeO.ite ?_ ?_
      | refine LeO.bind ?_ (fun _ => ?_)
theorem laws_FnSplitJoin.mono : ∀ a0 k, LeO (laws_FnSplitJoin.f k a0) (laws_FnSplitJoin.f (k + 1) a0) := by
  intro a0 k
  have ih0 := laws_FnSplitJoin.mono_l k
  unfold laws_FnSplitJoin.f
  repeat' first
      | (with_reducible exact ih0 _ _ _ _ _)
      | (with_reducible exact impl_JoinStrings.mono _ _ _)
      | (with_reducible exact impl_SplitString.mono _ _ _)
      | (with_reducible exact spec_DrawJoinStrings.mono _ _)
      | (with_reducible exact spec_JoinStrings.mono _ _ _)
      | (with_reducible exact LeO.refl _)
      | (with_reducible exact LeO.none _)
      | (with_reducible refine LeO.ite ?_ ?_)
      | (with_reducible refine LeO.bind ?_ (fun _ => ?_))
      | exact ih0 _ _ _ _ _
      | exact impl_JoinStrings.mono _ _ _
      | exact impl_SplitString.mono _ _ _
      | exact spec_DrawJoinStrings.mono _ _
      | exact spec_JoinStrings.mono _ _ _
      | exact LeO.none _
      | refine LeO.ite ?_ ?_
      | refine LeO.bind ?_ (fun _ => ?_)
set_option maxHeartbeats 8000000 in
set_option maxRecDepth 100000 in
theorem laws_FnSplitJoin.calls (k : Nat) (A0 : Option Addr) (c0 : Nat) (l0 : List Int) (r : Bool) (w : World) (hr0 : Kd.C (Kd.int .u8) w A0 l0.length l0) (hc0 : l0.length ≤ c0) (h : laws_FnSplitJoin.f k l0 = some r) :
    Calls Try.prog 5 #[.slice A0 l0.length c0] w fun e w' => e = .returned (.bool r) ∧ Below w.heap.size w w' := by
  have HR0 := Aside0.mk hr0
  have HC0 := Aside0.mk hc0
  clear hr0 hc0
  have HB := Aside0.mk (Below.refl w.heap.size w)
  have H : ((laws_vBig.f l0).bind fun t186 => (if t186 = true then (some true) else ((spec_DrawSplitString.f l0).bind fun bt187 => ((impl_SplitString.f k bt187.1 bt187.2).bind fun bt189 => ((spec_DrawJoinStrings.f k l0).bind fun bt193 => ((impl_JoinStrings.f k bt193.1 bt193.2).bind fun bt197 => ((spec_JoinStrings.f k bt193.1 bt193.2).bind fun bt199 => ((spec_DrawLessString.f l0).bind fun bt201 => (if bt197.1.toList = bt199.1.toList then (if (bt197.2 != bt199.2) = true then (laws_FnSplitJoin.j0 k bt187.1 bt187.2 bt189.1 bt189.2 true) else ((impl_LessString.f bt201.1 bt201.2).bind fun t203 => ((spec_LessString.f bt201.1 bt201.2).bind fun t204 => (if (t203 != t204) = true then (laws_FnSplitJoin.j0 k bt187.1 bt187.2 bt189.1 bt189.2 true) else ((impl_LessString.f bt201.1 bt201.2).bind fun t205 => (if t205 = true then ((impl_LessString.f bt201.2 bt201.1).bind fun t206 => (laws_FnSplitJoin.j0 k bt187.1 bt187.2 bt189.1 bt189.2 t206)) else (laws_FnSplitJoin.j0 k bt187.1 bt187.2 bt189.1 bt189.2 false))))))) else (laws_FnSplitJoin.j0 k bt187.1 bt187.2 bt189.1 bt189.2 true)))))))))) = some r := h
  clear h
  replace H := Option.bind_eq_some_iff.mp H
  obtain ⟨t186, A20, H⟩ := H
  replace H : (if t186 = true then (some true) else ((spec_DrawSplitString.f l0).bind fun bt187 => ((impl_SplitString.f k bt187.1 bt187.2).bind fun bt189 => ((spec_DrawJoinStrings.f k l0).bind fun bt193 => ((impl_JoinStrings.f k bt193.1 bt193.2).bind fun bt197 => ((spec_JoinStrings.f k bt193.1 bt193.2).bind fun bt199 => ((spec_DrawLessString.f l0).bind fun bt201 => (if bt197.1.toList = bt199.1.toList then (if (bt197.2 != bt199.2) = true then (laws_FnSplitJoin.j0 k bt187.1 bt187.2 bt189.1 bt189.2 true) else ((impl_LessString.f bt201.1 bt201.2).bind fun t203 => ((spec_LessString.f bt201.1 bt201.2).bind fun t204 => (if (t203 != t204) = true then (laws_FnSplitJoin.j0 k bt187.1 bt187.2 bt189.1 bt189.2 true) else ((impl_LessString.f bt201.1 bt201.2).bind fun t205 => (if t205 = true then ((impl_LessString.f bt201.2 bt201.1).bind fun t206 => (laws_FnSplitJoin.j0 k bt187.1 bt187.2 bt189.1 bt189.2 t206)) else (laws_FnSplitJoin.j0 k bt187.1 bt187.2 bt189.1 bt189.2 false))))))) else (laws_FnSplitJoin.j0 k bt187.1 bt187.2 bt189.1 bt189.2 true))))))))) = some r := H
  have A2 := Aside0.mk A20
  clear A20
  by_cases c3 : t186 = true
  · subst c3
    have H1 : (some true) = some r := by rw [if_pos rfl] at H; exact H
    clear H
    have H := H1
    clear H1
    obtain rfl := Option.some.inj H
    go_enter Try.func5, Try.ntmps5
    go_wp2_with (first | ((with_reducible refine gate_callee (f := 24) rfl ?_); refine goesL_ (some 18) rfl rfl Try.func24 (by kernel_rfl) rfl #[.slice A0 l0.length c0] rfl (by (try simp only [List.map_toArray, List.map_cons, List.map_nil]); first | done | rfl | (simp only [List.length_drop, List.length_take]; rfl)) ?_; (with_reducible refine (laws_vBig.calls _ _ l0 true _ ?side1 ?side2 A2.out).mono ?_); (case side1 => repeat (first | exact HR0.out | (with_reducible refine Kd.C_alloc ?_ _) | (with_reducible refine Kd.C_drewN ?_ _) | (with_reducible refine Kd.C_drew ?_))); (case side2 => exact HC0.out); rintro e w' ⟨rfl, ⟨nd, rfl⟩⟩; refine ⟨_, rfl, ?_⟩))
    go_ret
    exact ⟨by first | rfl | (simp [errW_none, errW_some] <;> rfl) | (simp [*, errW_none, errW_some] <;> rfl), by repeat (first | (with_reducible first | exact HB.out | apply below_alloc | apply pw_below_drewN | apply below_drew1) | exact HB.out)⟩
  · replace c3 := Bool.eq_false_iff.mpr c3
    subst c3
    have H1 : ((spec_DrawSplitString.f l0).bind fun bt187 => ((impl_SplitString.f k bt187.1 bt187.2).bind fun bt189 => ((spec_DrawJoinStrings.f k l0).bind fun bt193 => ((impl_JoinStrings.f k bt193.1 bt193.2).bind fun bt197 => ((spec_JoinStrings.f k bt193.1 bt193.2).bind fun bt199 => ((spec_DrawLessString.f l0).bind fun bt201 => (if bt197.1.toList = bt199.1.toList then (if (bt197.2 != bt199.2) = true then (laws_FnSplitJoin.j0 k bt187.1 bt187.2 bt189.1 bt189.2 true) else ((impl_LessString.f bt201.1 bt201.2).bind fun t203 => ((spec_LessString.f bt201.1 bt201.2).bind fun t204 => (if (t203 != t204) = true then (laws_FnSplitJoin.j0 k bt187.1 bt187.2 bt189.1 bt189.2 true) else ((impl_LessString.f bt201.1 bt201.2).bind fun t205 => (if t205 = true then ((impl_LessString.f bt201.2 bt201.1).bind fun t206 => (laws_FnSplitJoin.j0 k bt187.1 bt187.2 bt189.1 bt189.2 t206)) else (laws_FnSplitJoin.j0 k bt187.1 bt187.2 bt189.1 bt189.2 false))))))) else (laws_FnSplitJoin.j0 k bt187.1 bt187.2 bt189.1 bt189.2 true)))))))) = some r := by rw [if_neg (show ¬ (false = true) by decide)] at H; exact H
    clear H
    have H := H1
    clear H1
    replace H := Option.bind_eq_some_iff.mp H
    obtain ⟨⟨t187, t188⟩, A40, H⟩ := H
    replace H : ((impl_SplitString.f k t187 t188).bind fun bt189 => ((spec_DrawJoinStrings.f k l0).bind fun bt193 => ((impl_JoinStrings.f k bt193.1 bt193.2).bind fun bt197 => ((spec_JoinStrings.f k bt193.1 bt193.2).bind fun bt199 => ((spec_DrawLessString.f l0).bind fun bt201 => (if bt197.1.toList = bt199.1.toList then (if (bt197.2 != bt199.2) = true then (laws_FnSplitJoin.j0 k t187 t188 bt189.1 bt189.2 true) else ((impl_LessString.f bt201.1 bt201.2).bind fun t203 => ((spec_LessString.f bt201.1 bt201.2).bind fun t204 => (if (t203 != t204) = true then (laws_FnSplitJoin.j0 k t187 t188 bt189.1 bt189.2 true) else ((impl_LessString.f bt201.1 bt201.2).bind fun t205 => (if t205 = true then ((impl_LessString.f bt201.2 bt201.1).bind fun t206 => (laws_FnSplitJoin.j0 k t187 t188 bt189.1 bt189.2 t206)) else (laws_FnSplitJoin.j0 k t187 t188 bt189.1 bt189.2 false))))))) else (laws_FnSplitJoin.j0 k t187 t188 bt189.1 bt189.2 true))))))) = some r := H
    have A4 := Aside0.mk A40
    clear A40
    replace H := Option.bind_eq_some_iff.mp H
    obtain ⟨⟨t189, t190⟩, A50, H⟩ := H
    replace H : ((spec_DrawJoinStrings.f k l0).bind fun bt193 => ((impl_JoinStrings.f k bt193.1 bt193.2).bind fun bt197 => ((spec_JoinStrings.f k bt193.1 bt193.2).bind fun bt199 => ((spec_DrawLessString.f l0).bind fun bt201 => (if bt197.1.toList = bt199.1.toList then (if (bt197.2 != bt199.2) = true then (laws_FnSplitJoin.j0 k t187 t188 t189 t190 true) else ((impl_LessString.f bt201.1 bt201.2).bind fun t203 => ((spec_LessString.f bt201.1 bt201.2).bind fun t204 => (if (t203 != t204) = true then (laws_FnSplitJoin.j0 k t187 t188 t189 t190 true) else ((impl_LessString.f bt201.1 bt201.2).bind fun t205 => (if t205 = true then ((impl_LessString.f bt201.2 bt201.1).bind fun t206 => (laws_FnSplitJoin.j0 k t187 t188 t189 t190 t206)) else (laws_FnSplitJoin.j0 k t187 t188 t189 t190 false))))))) else (laws_FnSplitJoin.j0 k t187 t188 t189 t190 true)))))) = some r := H
    have A5 := Aside0.mk A50
    clear A50
    replace H := Option.bind_eq_some_iff.mp H
    obtain ⟨⟨t193, t194⟩, A60, H⟩ := H
    replace H : ((impl_JoinStrings.f k t193 t194).bind fun bt197 => ((spec_JoinStrings.f k t193 t194).bind fun bt199 => ((spec_DrawLessString.f l0).bind fun bt201 => (if bt197.1.toList = bt199.1.toList then (if (bt197.2 != bt199.2) = true then (laws_FnSplitJoin.j0 k t187 t188 t189 t190 true) else ((impl_LessString.f bt201.1 bt201.2).bind fun t203 => ((spec_LessString.f bt201.1 bt201.2).bind fun t204 => (if (t203 != t204) = true then (laws_FnSplitJoin.j0 k t187 t188 t189 t190 true) else ((impl_LessString.f bt201.1 bt201.2).bind fun t205 => (if t205 = true then ((impl_LessString.f bt201.2 bt201.1).bind fun t206 => (laws_FnSplitJoin.j0 k t187 t188 t189 t190 t206)) else (laws_FnSplitJoin.j0 k t187 t188 t189 t190 false))))))) else (laws_FnSplitJoin.j0 k t187 t188 t189 t190 true))))) = some r := H
    have A6 := Aside0.mk A60
    clear A60
    replace H := Option.bind_eq_some_iff.mp H
    obtain ⟨⟨t197, t198⟩, A70, H⟩ := H
    replace H : ((spec_JoinStrings.f k t193 t194).bind fun bt199 => ((spec_DrawLessString.f l0).bind fun bt201 => (if t197.toList = bt199.1.toList then (if (t198 != bt199.2) = true then (laws_FnSplitJoin.j0 k t187 t188 t189 t190 true) else ((impl_LessString.f bt201.1 bt201.2).bind fun t203 => ((spec_LessString.f bt201.1 bt201.2).bind fun t204 => (if (t203 != t204) = true then (laws_FnSplitJoin.j0 k t187 t188 t189 t190 true) else ((impl_LessString.f bt201.1 bt201.2).bind fun t205 => (if t205 = true then ((impl_LessString.f bt201.2 bt201.1).bind fun t206 => (laws_FnSplitJoin.j0 k t187 t188 t189 t190 t206)) else (laws_FnSplitJoin.j0 k t187 t188 t189 t190 false))))))) else (laws_FnSplitJoin.j0 k t187 t188 t189 t190 true)))) = some r := H
    have A7 := Aside0.mk A70
    clear A70
    replace H := Option.bind_eq_some_iff.mp H
    obtain ⟨⟨t199, t200⟩, A80, H⟩ := H
    replace H : ((spec_DrawLessString.f l0).bind fun bt201 => (if t197.toList = t199.toList then (if (t198 != t200) = true then (laws_FnSplitJoin.j0 k t187 t188 t189 t190 true) else ((impl_LessString.f bt201.1 bt201.2).bind fun t203 => ((spec_LessString.f bt201.1 bt201.2).bind fun t204 => (if (t203 != t204) = true then (laws_FnSplitJoin.j0 k t187 t188 t189 t190 true) else ((impl_LessString.f bt201.1 bt201.2).bind fun t205 => (if t205 = true then ((impl_LessString.f bt201.2 bt201.1).bind fun t206 => (laws_FnSplitJoin.j0 k t187 t188 t189 t190 t206)) else (laws_FnSplitJoin.j0 k t187 t188 t189 t190 false))))))) else (laws_FnSplitJoin.j0 k t187 t188 t189 t190 true))) = some r := H
    have A8 := Aside0.mk A80
    clear A80
    replace H := Option.bind_eq_some_iff.mp H
    obtain ⟨⟨t201, t202⟩, A90, H⟩ := H
    replace H : (if t197.toList = t199.toList then (if (t198 != t200) = true then (laws_FnSplitJoin.j0 k t187 t188 t189 t190 true) else ((impl_LessString.f t201 t202).bind fun t203 => ((spec_LessString.f t201 t202).bind fun t204 => (if (t203 != t204) = true then (laws_FnSplitJoin.j0 k t187 t188 t189 t190 true) else ((impl_LessString.f t201 t202).bind fun t205 => (if t205 = true then ((impl_LessString.f t202 t201).bind fun t206 => (laws_FnSplitJoin.j0 k t187 t188 t189 t190 t206)) else (laws_FnSplitJoin.j0 k t187 t188 t189 t190 false))))))) else (laws_FnSplitJoin.j0 k t187 t188 t189 t190 true)) = some r := H
    have A9 := Aside0.mk A90
    clear A90
    have HC10 := Aside0.mk H
    clear H
    go_enter Try.func5, Try.ntmps5
    go_upto_region 9 with (first | ((with_reducible refine gate_callee (f := 24) rfl ?_); refine goesL_ (some 18) rfl rfl Try.func24 (by kernel_rfl) rfl #[.slice A0 l0.length c0] rfl (by (try simp only [List.map_toArray, List.map_cons, List.map_nil]); first | done | rfl | (simp only [List.length_drop, List.length_take]; rfl)) ?_; (with_reducible refine (laws_vBig.calls _ _ l0 false _ ?side1 ?side2 A2.out).mono ?_); (case side1 => repeat (first | exact HR0.out | (with_reducible refine Kd.C_alloc ?_ _) | (with_reducible refine Kd.C_drewN ?_ _) | (with_reducible refine Kd.C_drew ?_))); (case side2 => exact HC0.out); rintro e w' ⟨rfl, ⟨nd, rfl⟩⟩; refine ⟨_, rfl, ?_⟩) | ((with_reducible refine gate_callee (f := 25) rfl ?_); refine goesL_ (some 21) rfl rfl Try.func25 (by kernel_rfl) rfl #[.slice A0 l0.length c0] rfl (by (try simp only [List.map_toArray, List.map_cons, List.map_nil]); first | done | rfl | (simp only [List.length_drop, List.length_take]; rfl)) ?_; (with_reducible refine (spec_DrawSplitString.calls _ _ l0 t187 t188 _ ?side1 ?side2 A4.out).mono ?_); (case side1 => repeat (first | exact HR0.out | (with_reducible refine Kd.C_alloc ?_ _) | (with_reducible refine Kd.C_drewN ?_ _) | (with_reducible refine Kd.C_drew ?_))); (case side2 => exact HC0.out); rintro e w11 ⟨rfl, hb⟩; refine ⟨_, rfl, ?_⟩; have n0_ := Aside0.mk (below_step (by repeat (first | (with_reducible first | exact HB.out | apply below_alloc | apply pw_below_drewN | apply below_drew1) | exact HB.out)) hb); clear HB; have HB := n0_; clear n0_; (try clear hb); (try clear hb2); (try clear hk); (try clear hi)) | ((with_reducible refine gate_callee (f := 16) rfl ?_); refine goesL_ (some 27) rfl rfl Try.func16 (by kernel_rfl) rfl #[.string t187, .string t188] rfl (by (try simp only [List.map_toArray, List.map_cons, List.map_nil]); first | done | rfl | (simp only [List.length_drop, List.length_take]; rfl)) ?_; (with_reducible refine (impl_SplitString.calls k t187 t188 t189 t190 _ A5.out).mono ?_); rintro e w12 ⟨v191, rfl, ho0, hb⟩; refine ⟨_, rfl, ?_⟩; have n0_ := Aside0.mk (Kd.R_lower ho0 (below_size (by repeat (first | (with_reducible first | exact HB.out | apply below_alloc | apply pw_below_drewN | apply below_drew1) | exact HB.out)))); have n1_ := Aside0.mk (below_step (by repeat (first | (with_reducible first | exact HB.out | apply below_alloc | apply pw_below_drewN | apply below_drew1) | exact HB.out)) hb); clear HB; have HO192 := n0_; have HB := n1_; clear n0_ n1_; (try clear hb); (try clear hb2); (try clear hk); (try clear hi); (try clear ho0)) | ((with_reducible refine gate_callee (f := 26) rfl ?_); refine goesL_ (some 32) rfl rfl Try.func26 (by kernel_rfl) rfl #[.slice A0 l0.length c0] rfl (by (try simp only [List.map_toArray, List.map_cons, List.map_nil]); first | done | rfl | (simp only [List.length_drop, List.length_take]; rfl)) ?_; (with_reducible refine (spec_DrawJoinStrings.calls k _ _ l0 t193 t194 _ ?side1 ?side2 A6.out).mono ?_); (case side1 => repeat (first | exact (Kd.C_below HR0.out HB.out) | (with_reducible refine Kd.C_alloc ?_ _) | (with_reducible refine Kd.C_drewN ?_ _) | (with_reducible refine Kd.C_drew ?_))); (case side2 => exact HC0.out); rintro e w13 ⟨v195, rfl, ho0, hb⟩; refine ⟨_, rfl, ?_⟩; have n0_ := Aside0.mk (Kd.R_elder' (by (with_reducible repeat (first | apply Kd.R_alloc | apply Kd.R_drewN | apply Kd.R_drew)); exact HO192.out) (Kd.R_base ho0) hb); have n1_ := Aside0.mk (Kd.R_lower (Kd.R_new' ho0 (Kd.R_lt (by (with_reducible repeat (first | apply Kd.R_alloc | apply Kd.R_drewN | apply Kd.R_drew)); exact HO192.out))) (below_size (by repeat (first | (with_reducible first | exact HB.out | apply below_alloc | apply pw_below_drewN | apply below_drew1) | exact HB.out)))); have n2_ := Aside0.mk (below_step (by repeat (first | (with_reducible first | exact HB.out | apply below_alloc | apply pw_below_drewN | apply below_drew1) | exact HB.out)) hb); clear HO192; clear HB; have HO192 := n0_; have HO196 := n1_; have HB := n2_; clear n0_ n1_ n2_; (try clear hb); (try clear hb2); (try clear hk); (try clear hi); (try clear ho0); obtain ⟨Ao14, co14, eo14⟩ := Kd.R_slice HO196.out; subst eo14) | ((with_reducible refine gate_callee (f := 23) rfl ?_); refine goesL_ (some 38) rfl rfl Try.func23 (by kernel_rfl) rfl #[.slice Ao14 t193.length co14, .string t194] rfl (by (try simp only [List.map_toArray, List.map_cons, List.map_nil]); first | done | rfl | (simp only [List.length_drop, List.length_take]; rfl)) ?_; (with_reducible refine (impl_JoinStrings.calls k _ _ t193 t194 t197 t198 _ ?side1 ?side2 A7.out).mono ?_); (case side1 => repeat (first | exact (Kd.R_reads' HO196.out).2.2 | (with_reducible refine Kd.C_alloc ?_ _) | (with_reducible refine Kd.C_drewN ?_ _) | (with_reducible refine Kd.C_drew ?_))); (case side2 => exact (Kd.R_reads' HO196.out).2.1); rintro e w15 ⟨rfl, hb⟩; refine ⟨_, rfl, ?_⟩; have n0_ := Aside0.mk (Kd.R_below (by (with_reducible repeat (first | apply Kd.R_alloc | apply Kd.R_drewN | apply Kd.R_drew)); exact HO192.out) hb); have n1_ := Aside0.mk (Kd.R_below (by (with_reducible repeat (first | apply Kd.R_alloc | apply Kd.R_drewN | apply Kd.R_drew)); exact HO196.out) hb); have n2_ := Aside0.mk (below_step (by repeat (first | (with_reducible first | exact HB.out | apply below_alloc | apply pw_below_drewN | apply below_drew1) | exact HB.out)) hb); clear HO192; clear HO196; clear HB; have HO192 := n0_; have HO196 := n1_; have HB := n2_; clear n0_ n1_ n2_; (try clear hb); (try clear hb2); (try clear hk); (try clear hi)) | ((with_reducible refine gate_callee (f := 21) rfl ?_); refine goesL_ (some 44) rfl rfl Try.func21 (by kernel_rfl) rfl #[.slice Ao14 t193.length co14, .string t194] rfl (by (try simp only [List.map_toArray, List.map_cons, List.map_nil]); first | done | rfl | (simp only [List.length_drop, List.length_take]; rfl)) ?_; (with_reducible refine (spec_JoinStrings.calls k _ _ t193 t194 t199 t200 _ ?side1 ?side2 A8.out).mono ?_); (case side1 => repeat (first | exact (Kd.R_reads' HO196.out).2.2 | (with_reducible refine Kd.C_alloc ?_ _) | (with_reducible refine Kd.C_drewN ?_ _) | (with_reducible refine Kd.C_drew ?_))); (case side2 => exact (Kd.R_reads' HO196.out).2.1); rintro e w' ⟨rfl, ⟨nd, rfl⟩⟩; refine ⟨_, rfl, ?_⟩) | ((with_reducible refine gate_callee (f := 27) rfl ?_); refine goesL_ (some 49) rfl rfl Try.func27 (by kernel_rfl) rfl #[.slice A0 l0.length c0] rfl (by (try simp only [List.map_toArray, List.map_cons, List.map_nil]); first | done | rfl | (simp only [List.length_drop, List.length_take]; rfl)) ?_; (with_reducible refine (spec_DrawLessString.calls _ _ l0 t201 t202 _ ?side1 ?side2 A9.out).mono ?_); (case side1 => repeat (first | exact (Kd.C_below HR0.out (by repeat (first | (with_reducible first | exact HB.out | apply below_alloc | apply pw_below_drewN | apply below_drew1) | exact HB.out))) | (with_reducible refine Kd.C_alloc ?_ _) | (with_reducible refine Kd.C_drewN ?_ _) | (with_reducible refine Kd.C_drew ?_))); (case side2 => exact HC0.out); rintro e w16 ⟨rfl, hb⟩; refine ⟨_, rfl, ?_⟩; have n0_ := Aside0.mk (Kd.R_below (by (with_reducible repeat (first | apply Kd.R_alloc | apply Kd.R_drewN | apply Kd.R_drew)); exact HO192.out) hb); have n1_ := Aside0.mk (Kd.R_below (by (with_reducible repeat (first | apply Kd.R_alloc | apply Kd.R_drewN | apply Kd.R_drew)); exact HO196.out) hb); have n2_ := Aside0.mk (below_step (by repeat (first | (with_reducible first | exact HB.out | apply below_alloc | apply pw_below_drewN | apply below_drew1) | exact HB.out)) hb); clear HO192; clear HO196; clear HB; have HO192 := n0_; have HO196 := n1_; have HB := n2_; clear n0_ n1_ n2_; (try clear hb); (try clear hb2); (try clear hk); (try clear hi)))
    (try simp only [Act.put, List.setIfInBounds_toArray, List.set_cons_zero, List.set_cons_succ])
    go_cut [78] (fun v78 wc => ∃ (kq : Nat) (x78_9 : Bool), v78 = .bool x78_9 ∧ Aside0 (laws_FnSplitJoin.j0 kq t187 t188 t189 t190 x78_9 = some r) ∧ Aside0 (kq ≤ k) ∧ Aside0 (Kd.R Kd.string 9 wc w.heap.size (fun _ => True) v191 t189) ∧ Aside0 (Below w.heap.size w wc))
    case first =>
      have H := HC10.out
      clear HC10
      by_cases c17 : t197.toList = t199.toList
      · rw [if_pos c17] at H
        have c17b0 : (t197.toList == t199.toList) = true := beq_iff_eq.mpr c17
        have c17b1 : (t197.toList != t199.toList) = false := bne_eq_false_iff_eq.mpr c17
        clear c17
        (first | rw [c17b0] | (simp only [i64_w, i32_w]; rw [c17b0]) | skip)
        by_cases c18 : (t198 != t200) = true
        · rw [if_pos c18] at H
          have c18b0 : (t198 != t200) = true := c18
          (try (have c18b1 : decide (t198 = t200) = false := by simpa using c18))
          (try (have c18b2 : (t198 == t200) = false := by simpa using c18))
          (try (have c18b3 : ¬ (t198 = t200) := by simpa using c18))
          clear c18
          have H' := Aside0.mk H
          clear H
          go_wp2
          go_meet
          case rel => exact ⟨_, (true), (by first | rfl | (simp; done) | (simp [*]; done)), H', ⟨by first | omega | exact Nat.le_refl _⟩, ⟨by (with_reducible repeat (first | apply Kd.R_alloc | apply Kd.R_drewN | apply Kd.R_drew)); exact Kd.R_mono HO192.out (fun _ hk => trivial)⟩, ⟨by repeat (first | (with_reducible first | exact HB.out | apply below_alloc | apply pw_below_drewN | apply below_drew1) | exact HB.out)⟩⟩
        · rw [if_neg c18] at H
          have c18b0 : (t198 != t200) = false := by simpa using c18
          (try (have c18b1 : decide (t198 = t200) = true := by simpa using c18))
          (try (have c18b2 : (t198 == t200) = true := by simpa using c18))
          clear c18
          replace H := Option.bind_eq_some_iff.mp H
          obtain ⟨t203, A190, H⟩ := H
          replace H : ((spec_LessString.f t201 t202).bind fun t204 => (if (t203 != t204) = true then (laws_FnSplitJoin.j0 k t187 t188 t189 t190 true) else ((impl_LessString.f t201 t202).bind fun t205 => (if t205 = true then ((impl_LessString.f t202 t201).bind fun t206 => (laws_FnSplitJoin.j0 k t187 t188 t189 t190 t206)) else (laws_FnSplitJoin.j0 k t187 t188 t189 t190 false))))) = some r := H
          have A19 := Aside0.mk A190
          clear A190
          replace H := Option.bind_eq_some_iff.mp H
          obtain ⟨t204, A200, H⟩ := H
          replace H : (if (t203 != t204) = true then (laws_FnSplitJoin.j0 k t187 t188 t189 t190 true) else ((impl_LessString.f t201 t202).bind fun t205 => (if t205 = true then ((impl_LessString.f t202 t201).bind fun t206 => (laws_FnSplitJoin.j0 k t187 t188 t189 t190 t206)) else (laws_FnSplitJoin.j0 k t187 t188 t189 t190 false)))) = some r := H
          have A20 := Aside0.mk A200
          clear A200
          by_cases c21 : (t203 != t204) = true
          · rw [if_pos c21] at H
            have c21b0 : (t203 != t204) = true := c21
            (try (have c21b1 : decide (t203 = t204) = false := by simpa using c21))
            (try (have c21b2 : (t203 == t204) = false := by simpa using c21))
            (try (have c21b3 : ¬ (t203 = t204) := by simpa using c21))
            clear c21
            have H' := Aside0.mk H
            clear H
            go_wp2_with (first | (go_at_call 28; (with_reducible refine (impl_LessString.calls t201 t202 t203 _ A19.out).mono ?_); rintro e w' ⟨rfl, ⟨nd, rfl⟩⟩) | (go_at_call 29; (with_reducible refine (spec_LessString.calls t201 t202 t204 _ A20.out).mono ?_); rintro e w' ⟨rfl, ⟨nd, rfl⟩⟩))
            go_meet
            case rel => exact ⟨_, (true), (by first | rfl | (simp; done) | (simp [*]; done)), H', ⟨by first | omega | exact Nat.le_refl _⟩, ⟨by (with_reducible repeat (first | apply Kd.R_alloc | apply Kd.R_drewN | apply Kd.R_drew)); exact Kd.R_mono HO192.out (fun _ hk => trivial)⟩, ⟨by repeat (first | (with_reducible first | exact HB.out | apply below_alloc | apply pw_below_drewN | apply below_drew1) | exact HB.out)⟩⟩
          · rw [if_neg c21] at H
            have c21b0 : (t203 != t204) = false := by simpa using c21
            (try (have c21b1 : decide (t203 = t204) = true := by simpa using c21))
            (try (have c21b2 : (t203 == t204) = true := by simpa using c21))
            clear c21
            replace H := Option.bind_eq_some_iff.mp H
            obtain ⟨t205, A220, H⟩ := H
            replace H : (if t205 = true then ((impl_LessString.f t202 t201).bind fun t206 => (laws_FnSplitJoin.j0 k t187 t188 t189 t190 t206)) else (laws_FnSplitJoin.j0 k t187 t188 t189 t190 false)) = some r := H
            have A22 := Aside0.mk A220
            clear A220
            obtain rfl : t205 = t203 := Option.some.inj (A22.out.symm.trans A19.out)
            by_cases c23 : t205 = true
            · subst c23
              have H1 : ((impl_LessString.f t202 t201).bind fun t206 => (laws_FnSplitJoin.j0 k t187 t188 t189 t190 t206)) = some r := by rw [if_pos rfl] at H; exact H
              clear H
              have H := H1
              clear H1
              replace H := Option.bind_eq_some_iff.mp H
              obtain ⟨t206, A240, H⟩ := H
              replace H : (laws_FnSplitJoin.j0 k t187 t188 t189 t190 t206) = some r := H
              have A24 := Aside0.mk A240
              clear A240
              have H' := Aside0.mk H
              clear H
              go_wp2_with (first | (go_at_call 28; (with_reducible refine (impl_LessString.calls t201 t202 t203 _ A19.out).mono ?_); rintro e w' ⟨rfl, ⟨nd, rfl⟩⟩) | (go_at_call 29; (with_reducible refine (spec_LessString.calls t201 t202 t204 _ A20.out).mono ?_); rintro e w' ⟨rfl, ⟨nd, rfl⟩⟩) | (go_at_call 28; (with_reducible refine (impl_LessString.calls t201 t202 true _ A22.out).mono ?_); rintro e w' ⟨rfl, ⟨nd, rfl⟩⟩) | (go_at_call 28; (with_reducible refine (impl_LessString.calls t202 t201 t206 _ A24.out).mono ?_); rintro e w' ⟨rfl, ⟨nd, rfl⟩⟩))
              go_meet
              case rel => exact ⟨_, (t206), (by first | rfl | (simp; done) | (simp [*]; done)), H', ⟨by first | omega | exact Nat.le_refl _⟩, ⟨by (with_reducible repeat (first | apply Kd.R_alloc | apply Kd.R_drewN | apply Kd.R_drew)); exact Kd.R_mono HO192.out (fun _ hk => trivial)⟩, ⟨by repeat (first | (with_reducible first | exact HB.out | apply below_alloc | apply pw_below_drewN | apply below_drew1) | exact HB.out)⟩⟩
            · replace c23 := Bool.eq_false_iff.mpr c23
              subst c23
              have H1 : (laws_FnSplitJoin.j0 k t187 t188 t189 t190 false) = some r := by rw [if_neg (show ¬ (false = true) by decide)] at H; exact H
              clear H
              have H := H1
              clear H1
              have H' := Aside0.mk H
              clear H
              go_wp2_with (first | (go_at_call 28; (with_reducible refine (impl_LessString.calls t201 t202 t203 _ A19.out).mono ?_); rintro e w' ⟨rfl, ⟨nd, rfl⟩⟩) | (go_at_call 29; (with_reducible refine (spec_LessString.calls t201 t202 t204 _ A20.out).mono ?_); rintro e w' ⟨rfl, ⟨nd, rfl⟩⟩) | (go_at_call 28; (with_reducible refine (impl_LessString.calls t201 t202 false _ A22.out).mono ?_); rintro e w' ⟨rfl, ⟨nd, rfl⟩⟩))
              go_meet
              case rel => exact ⟨_, (false), (by first | rfl | (simp; done) | (simp [*]; done)), H', ⟨by first | omega | exact Nat.le_refl _⟩, ⟨by (with_reducible repeat (first | apply Kd.R_alloc | apply Kd.R_drewN | apply Kd.R_drew)); exact Kd.R_mono HO192.out (fun _ hk => trivial)⟩, ⟨by repeat (first | (with_reducible first | exact HB.out | apply below_alloc | apply pw_below_drewN | apply below_drew1) | exact HB.out)⟩⟩
      · rw [if_neg c17] at H
        have c17b0 : (t197.toList == t199.toList) = false := beq_eq_false_iff_ne.mpr c17
        have c17b1 : (t197.toList != t199.toList) = true := bne_iff_ne.mpr c17
        (first | rw [c17b0] | (simp only [i64_w, i32_w]; rw [c17b0]) | skip)
        have H' := Aside0.mk H
        clear H
        go_wp2
        go_meet
        case rel => exact ⟨_, (true), (by first | rfl | (simp; done) | (simp [*]; done)), H', ⟨by first | omega | exact Nat.le_refl _⟩, ⟨by (with_reducible repeat (first | apply Kd.R_alloc | apply Kd.R_drewN | apply Kd.R_drew)); exact Kd.R_mono HO192.out (fun _ hk => trivial)⟩, ⟨by repeat (first | (with_reducible first | exact HB.out | apply below_alloc | apply pw_below_drewN | apply below_drew1) | exact HB.out)⟩⟩
    case rest =>
      clear HC10
      try clear c1
      try clear c2
      try clear p2
      try clear c3
      try clear c5
      try clear c16
      try clear c17
      try clear c17b0
      try clear c17b1
      try clear c18
      try clear c18b0
      try clear c18b1
      try clear c18b2
      try clear c21
      try clear c21b0
      try clear c21b1
      try clear c21b2
      try clear c23
      try clear c24
      obtain ⟨kq, x78_9, rfl, HA, HJ9, HO_5, HB⟩ := hcut
      cases kq with
      | zero => exact absurd HA.out (by simp [laws_FnSplitJoin.j0])
      | succ kj9 =>
        have H := HA.out
        clear HA
        simp only [laws_FnSplitJoin.j0] at H
        by_cases c25 : x78_9 = true
        · subst c25
          have H1 : (some false) = some r := by rw [if_pos rfl] at H; exact H
          clear H
          have H := H1
          clear H1
          obtain rfl := Option.some.inj H
          go_wp2
          go_ret
          exact ⟨by first | rfl | (simp [errW_none, errW_some] <;> rfl) | (simp [*, errW_none, errW_some] <;> rfl), by repeat (first | (with_reducible first | exact HB.out | apply below_alloc | apply pw_below_drewN | apply below_drew1) | exact HB.out)⟩
        · replace c25 := Bool.eq_false_iff.mpr c25
          subst c25
          have H1 : (if (t188.size : Int) = 1 then ((impl_JoinStrings.f kj9 t189 t188).bind fun bt207 => (if t190 = true then (if bt207.2 = true then (some (bt207.1.toList == t187.toList)) else (some false)) else (some false))) else (if t190 = true then (some false) else (some ((t189.length : Int) == 0)))) = some r := by rw [if_neg (show ¬ (false = true) by decide)] at H; exact H
          clear H
          have H := H1
          clear H1
          by_cases c26 : (t188.size : Int) = 1
          · rw [if_pos c26] at H
            have c26b0 : ((t188.size : Int) == 1) = true := beq_iff_eq.mpr c26
            have c26b1 : ((t188.size : Int) != 1) = false := bne_eq_false_iff_eq.mpr c26
            clear c26
            replace H := Option.bind_eq_some_iff.mp H
            obtain ⟨⟨t207, t208⟩, A270, H⟩ := H
            replace H : (if t190 = true then (if t208 = true then (some (t207.toList == t187.toList)) else (some false)) else (some false)) = some r := H
            have A27 := Aside0.mk A270
            clear A270
            by_cases c28 : t190 = true
            · subst c28
              have H1 : (if t208 = true then (some (t207.toList == t187.toList)) else (some false)) = some r := by rw [if_pos rfl] at H; exact H
              clear H
              have H := H1
              clear H1
              by_cases c29 : t208 = true
              · subst c29
                have H1 : (some (t207.toList == t187.toList)) = some r := by rw [if_pos rfl] at H; exact H
                clear H
                have H := H1
                clear H1
                obtain rfl := Option.some.inj H
                obtain ⟨Ao30, co30, eo30⟩ := Kd.R_slice HO_5.out
                subst eo30
                go_wp2_with (first | ((with_reducible refine gate_callee (f := 23) rfl ?_); refine goesL_ (some 92) rfl rfl Try.func23 (by kernel_rfl) rfl #[.slice Ao30 t189.length co30, .string t188] rfl (by (try simp only [List.map_toArray, List.map_cons, List.map_nil]); first | done | rfl | (simp only [List.length_drop, List.length_take]; rfl)) ?_; (with_reducible refine (impl_JoinStrings.calls kj9 _ _ t189 t188 t207 true _ ?side1 ?side2 A27.out).mono ?_); (case side1 => repeat (first | exact (Kd.R_reads' HO_5.out).2.2 | (with_reducible refine Kd.C_alloc ?_ _) | (with_reducible refine Kd.C_drewN ?_ _) | (with_reducible refine Kd.C_drew ?_))); (case side2 => exact (Kd.R_reads' HO_5.out).2.1); rintro e w31 ⟨rfl, hb⟩; refine ⟨_, rfl, ?_⟩; have n0_ := Aside0.mk (Kd.R_below (by (with_reducible repeat (first | apply Kd.R_alloc | apply Kd.R_drewN | apply Kd.R_drew)); exact HO_5.out) hb); have n1_ := Aside0.mk (below_step (by repeat (first | (with_reducible first | exact HB.out | apply below_alloc | apply pw_below_drewN | apply below_drew1) | exact HB.out)) hb); clear HO_5; clear HB; have HO_5 := n0_; have HB := n1_; clear n0_ n1_; (try clear hb); (try clear hb2); (try clear hk); (try clear hi)))
                go_ret
                exact ⟨by first | rfl | (simp [errW_none, errW_some] <;> rfl) | (simp [*, errW_none, errW_some] <;> rfl), by repeat (first | (with_reducible first | exact HB.out | apply below_alloc | apply pw_below_drewN | apply below_drew1) | exact HB.out)⟩
              · replace c29 := Bool.eq_false_iff.mpr c29
                subst c29
                have H1 : (some false) = some r := by rw [if_neg (show ¬ (false = true) by decide)] at H; exact H
                clear H
                have H := H1
                clear H1
                obtain rfl := Option.some.inj H
                obtain ⟨Ao32, co32, eo32⟩ := Kd.R_slice HO_5.out
                subst eo32
                go_wp2_with (first | ((with_reducible refine gate_callee (f := 23) rfl ?_); refine goesL_ (some 92) rfl rfl Try.func23 (by kernel_rfl) rfl #[.slice Ao32 t189.length co32, .string t188] rfl (by (try simp only [List.map_toArray, List.map_cons, List.map_nil]); first | done | rfl | (simp only [List.length_drop, List.length_take]; rfl)) ?_; (with_reducible refine (impl_JoinStrings.calls kj9 _ _ t189 t188 t207 false _ ?side1 ?side2 A27.out).mono ?_); (case side1 => repeat (first | exact (Kd.R_reads' HO_5.out).2.2 | (with_reducible refine Kd.C_alloc ?_ _) | (with_reducible refine Kd.C_drewN ?_ _) | (with_reducible refine Kd.C_drew ?_))); (case side2 => exact (Kd.R_reads' HO_5.out).2.1); rintro e w33 ⟨rfl, hb⟩; refine ⟨_, rfl, ?_⟩; have n0_ := Aside0.mk (Kd.R_below (by (with_reducible repeat (first | apply Kd.R_alloc | apply Kd.R_drewN | apply Kd.R_drew)); exact HO_5.out) hb); have n1_ := Aside0.mk (below_step (by repeat (first | (with_reducible first | exact HB.out | apply below_alloc | apply pw_below_drewN | apply below_drew1) | exact HB.out)) hb); clear HO_5; clear HB; have HO_5 := n0_; have HB := n1_; clear n0_ n1_; (try clear hb); (try clear hb2); (try clear hk); (try clear hi)))
                go_ret
                exact ⟨by first | rfl | (simp [errW_none, errW_some] <;> rfl) | (simp [*, errW_none, errW_some] <;> rfl), by repeat (first | (with_reducible first | exact HB.out | apply below_alloc | apply pw_below_drewN | apply below_drew1) | exact HB.out)⟩
            · replace c28 := Bool.eq_false_iff.mpr c28
              subst c28
              have H1 : (some false) = some r := by rw [if_neg (show ¬ (false = true) by decide)] at H; exact H
              clear H
              have H := H1
              clear H1
              obtain rfl := Option.some.inj H
              obtain ⟨Ao34, co34, eo34⟩ := Kd.R_slice HO_5.out
              subst eo34
              go_wp2_with (first | ((with_reducible refine gate_callee (f := 23) rfl ?_); refine goesL_ (some 92) rfl rfl Try.func23 (by kernel_rfl) rfl #[.slice Ao34 t189.length co34, .string t188] rfl (by (try simp only [List.map_toArray, List.map_cons, List.map_nil]); first | done | rfl | (simp only [List.length_drop, List.length_take]; rfl)) ?_; (with_reducible refine (impl_JoinStrings.calls kj9 _ _ t189 t188 t207 t208 _ ?side1 ?side2 A27.out).mono ?_); (case side1 => repeat (first | exact (Kd.R_reads' HO_5.out).2.2 | (with_reducible refine Kd.C_alloc ?_ _) | (with_reducible refine Kd.C_drewN ?_ _) | (with_reducible refine Kd.C_drew ?_))); (case side2 => exact (Kd.R_reads' HO_5.out).2.1); rintro e w35 ⟨rfl, hb⟩; refine ⟨_, rfl, ?_⟩; have n0_ := Aside0.mk (Kd.R_below (by (with_reducible repeat (first | apply Kd.R_alloc | apply Kd.R_drewN | apply Kd.R_drew)); exact HO_5.out) hb); have n1_ := Aside0.mk (below_step (by repeat (first | (with_reducible first | exact HB.out | apply below_alloc | apply pw_below_drewN | apply below_drew1) | exact HB.out)) hb); clear HO_5; clear HB; have HO_5 := n0_; have HB := n1_; clear n0_ n1_; (try clear hb); (try clear hb2); (try clear hk); (try clear hi)))
              go_ret
              exact ⟨by first | rfl | (simp [errW_none, errW_some] <;> rfl) | (simp [*, errW_none, errW_some] <;> rfl), by repeat (first | (with_reducible first | exact HB.out | apply below_alloc | apply pw_below_drewN | apply below_drew1) | exact HB.out)⟩
          · rw [if_neg c26] at H
            have c26b0 : ((t188.size : Int) == 1) = false := beq_eq_false_iff_ne.mpr c26
            have c26b1 : ((t188.size : Int) != 1) = true := bne_iff_ne.mpr c26
            by_cases c36 : t190 = true
            · subst c36
              have H1 : (some false) = some r := by rw [if_pos rfl] at H; exact H
              clear H
              have H := H1
              clear H1
              obtain rfl := Option.some.inj H
              go_wp2
              go_ret
              exact ⟨by first | rfl | (simp [errW_none, errW_some] <;> rfl) | (simp [*, errW_none, errW_some] <;> rfl), by repeat (first | (with_reducible first | exact HB.out | apply below_alloc | apply pw_below_drewN | apply below_drew1) | exact HB.out)⟩
            · replace c36 := Bool.eq_false_iff.mpr c36
              subst c36
              have H1 : (some ((t189.length : Int) == 0)) = some r := by rw [if_neg (show ¬ (false = true) by decide)] at H; exact H
              clear H
              have H := H1
              clear H1
              obtain rfl := Option.some.inj H
              obtain ⟨Ao37, co37, eo37⟩ := Kd.R_slice HO_5.out
              subst eo37
              go_wp2
              go_ret
              exact ⟨by first | rfl | (simp [errW_none, errW_some] <;> rfl) | (simp [*, errW_none, errW_some] <;> rfl), by repeat (first | (with_reducible first | exact HB.out | apply below_alloc | apply pw_below_drewN | apply below_drew1) | exact HB.out)⟩

end Go.Proofs.Ytpfmhoikhnhdcaa.XFnSplitJoin
