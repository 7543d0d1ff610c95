/- The pure statement of the law of LegText: true for every five numbers; no condition. -/
import Derived.Test.YtcmccjiimiomhaaDoorAskFnExactLegText
import Derived.Lib.ItoaLen
namespace Go.Proofs.YtcmccjiimiomhaaDoor.Pure
open Go.RowKit Go.Proofs.YtcmccjiimiomhaaDoor.XFnExactLegText Go.Proofs.YtcmccjiimiomhaaDoor.AskFnExactLegText Go.Proofs.YtcmccjiimiomhaaDoorW.PrintWords Go.Proofs.YtcmccjiimiomhaaDoorW.PrintLast
set_option linter.unusedVariables false
set_option linter.unusedSimpArgs false

theorem w64 {x : Int} (h0 : -9223372036854775808 ≤ x) (h1 : x ≤ 9223372036854775807) : wrap64 x = x := by
  unfold wrap64
  omega

theorem td {x y : Int} (h : 0 ≤ x) : Int.tdiv x y = x / y := Int.tdiv_eq_ediv_of_nonneg h
theorem tm {x y : Int} (h : 0 ≤ x) : Int.tmod x y = x % y := Int.tmod_eq_emod_of_nonneg h

/-- The decimal text of a whole number. -/
def numT (n : Int) : ByteArray := ⟨(Lib.itoa n).toArray⟩
theorem numT_data (n : Int) : (numT n).data.toList = Lib.itoa n := by simp [numT]
theorem piece10 : ∀ i : Fin 10, ((⟨#[48, 49, 50, 51, 52, 53, 54, 55, 56, 57]⟩ : ByteArray).extract i.val (i.val + 1)).data.toList = [UInt8.ofNat (48 + i.val)] := by decide +kernel
theorem bytes_ext (a b : ByteArray) (h : a.data.toList = b.data.toList) : a = b := by
  apply ByteArray.ext
  exact Array.toList_inj.mp h
theorem decDigits_le (n : Nat) (h : n ≤ 9223372036854775807) : (Lib.decDigits n).length ≤ 20 := by
  rw [Lib.decDigits_length]
  exact Lib.nDigits_le20 n (by omega)
theorem num_nat (n : Nat) : ∀ k : Nat, n ≤ 9223372036854775806 → n < k → spec_l1Num.f k (n : Int) = some ⟨(Lib.decDigits n).toArray⟩ := by
  induction n using Nat.strongRecOn with
  | ind n ih =>
    intro k hn hk
    obtain ⟨k, rfl⟩ : ∃ m, k = m + 1 := ⟨k - 1, by omega⟩
    have c0 : ¬ (n : Int) < 0 := by omega
    simp only [spec_l1Num.f, if_neg c0]
    by_cases h10 : n < 10
    · have e1 : wrap64 ((n : Int) + 1) = ((n + 1 : Nat) : Int) := (w64 (by omega) (by omega)).trans (by omega)
      have c1 : (n : Int) < 10 := by omega
      have c2 : (0 : Int) ≤ (n : Int) := by omega
      have c3 : (n : Int) ≤ ((n + 1 : Nat) : Int) := by omega
      have c4 : ((n + 1 : Nat) : Int) ≤ 10 := by omega
      rw [e1, if_pos c1, if_pos c2, if_pos c3, if_pos c4, Int.toNat_natCast, Int.toNat_natCast]
      refine congrArg some (bytes_ext _ _ ?_)
      rw [piece10 ⟨n, h10⟩, Lib.decDigits_one h10]
    · have e0 : (0 : Int) ≤ (n : Int) := by omega
      have hd : wrap64 ((n : Int).tdiv 10) = ((n / 10 : Nat) : Int) := by
        rw [td e0]
        exact (w64 (by omega) (by omega)).trans (by omega)
      have hm : (n : Int).tmod 10 = ((n % 10 : Nat) : Int) := by
        rw [tm e0]
        omega
      have e1 : wrap64 (((n % 10 : Nat) : Int) + 1) = ((n % 10 + 1 : Nat) : Int) := (w64 (by omega) (by omega)).trans (by omega)
      have c1 : ¬ (n : Int) < 10 := by omega
      have c2 : (0 : Int) ≤ ((n % 10 : Nat) : Int) := by omega
      have c3 : ((n % 10 : Nat) : Int) ≤ ((n % 10 + 1 : Nat) : Int) := by omega
      have c4 : ((n % 10 + 1 : Nat) : Int) ≤ 10 := by omega
      have hp : ((⟨#[48, 49, 50, 51, 52, 53, 54, 55, 56, 57]⟩ : ByteArray).extract (n % 10) (n % 10 + 1)).data.toList = [UInt8.ofNat (48 + n % 10)] := piece10 ⟨n % 10, by omega⟩
      have hl := decDigits_le (n / 10) (by omega)
      rw [if_neg c1, hd, hm, e1, ih (n / 10) (by omega) k (by omega) (by omega)]
      simp only [Option.bind_some]
      rw [if_pos c2, if_pos c3, if_pos c4, Int.toNat_natCast, Int.toNat_natCast]
      generalize hq : ((⟨#[48, 49, 50, 51, 52, 53, 54, 55, 56, 57]⟩ : ByteArray).extract (n % 10) (n % 10 + 1)) = q at *
      have hq1 : q.size = 1 := by
        have := congrArg List.length hp
        simpa using this
      have hs : (⟨(Lib.decDigits (n / 10)).toArray⟩ : ByteArray).size ≤ 20 := by
        show (Lib.decDigits (n / 10)).toArray.size ≤ 20
        rw [List.size_toArray]
        exact hl
      rw [if_pos (by omega)]
      refine congrArg some (bytes_ext _ _ ?_)
      rw [ByteArray.data_append, Array.toList_append, hp]
      show Lib.decDigits (n / 10) ++ _ = Lib.decDigits n
      conv => rhs; rw [Lib.decDigits, dif_neg h10]
theorem num_eq (n : Int) (h0 : -9223372036854775806 ≤ n) (h1 : n ≤ 9223372036854775806) {k : Nat} (hk : n.natAbs + 1 < k) : spec_l1Num.f k n = some (numT n) := by
  by_cases hn : n < 0
  · obtain ⟨k, rfl⟩ : ∃ m, k = m + 1 := ⟨k - 1, by omega⟩
    have e1 : wrap64 (-n) = ((n.natAbs : Nat) : Int) := (w64 (by omega) (by omega)).trans (by omega)
    have hl := decDigits_le n.natAbs (by omega)
    have hs : (⟨(Lib.decDigits n.natAbs).toArray⟩ : ByteArray).size ≤ 20 := by
      show (Lib.decDigits n.natAbs).toArray.size ≤ 20
      rw [List.size_toArray]
      exact hl
    simp only [spec_l1Num.f]
    rw [if_pos hn, e1, num_nat n.natAbs k (by omega) (by omega)]
    simp only [Option.bind_some]
    rw [if_pos (by omega)]
    refine congrArg some (bytes_ext _ _ ?_)
    rw [ByteArray.data_append, Array.toList_append, numT_data]
    unfold Lib.itoa
    rw [if_pos hn]
    rfl
  · obtain ⟨m, rfl⟩ : ∃ m : Nat, n = (m : Int) := ⟨n.toNat, by omega⟩
    rw [num_nat m k (by omega) (by omega)]
    unfold numT Lib.itoa
    rw [if_neg hn, Int.toNat_natCast]
theorem numT_size (n : Int) (h0 : -9223372036854775806 ≤ n) (h1 : n ≤ 9223372036854775806) : (numT n).size ≤ 21 := by
  have h := Lib.itoa_length_le n (by omega) (by omega)
  show (Lib.itoa n).toArray.size ≤ 21
  rw [List.size_toArray]
  exact h
theorem dec_eq (n : Int) (h0 : -9223372036854775808 ≤ n) (h1 : n ≤ 9223372036854775807) : impl_decimal.f n = some (numT n) := by
  unfold impl_decimal.f strconv_Itoa.f
  rw [if_pos ⟨h0, h1⟩]
  rfl

theorem l1In_eq (a b c : Int) : spec_l1In.f a b c = some (decide (b ≤ a ∧ a ≤ c)) := by
  unfold spec_l1In.f
  by_cases h : a ≥ b
  · rw [if_pos h]
    have h' : b ≤ a := h
    simp [h']
  · rw [if_neg h]
    have h' : ¬ b ≤ a := h
    simp [h']

theorem beqd (a b : Int) : (a == b) = decide (a = b) := by by_cases h : a = b <;> simp [h]

def vLeg (f t tp c s : Int) : Bool := decide ((0 ≤ f ∧ f ≤ 7) ∧ (0 ≤ t ∧ t ≤ 7) ∧ f ≠ t ∧ (1 ≤ tp ∧ tp ≤ 500) ∧ (0 ≤ c ∧ c ≤ 359) ∧ (-90 ≤ s ∧ s ≤ 90))

theorem l4Leg_eq (f t tp c s : Int) : spec_l4Leg.f f t tp c s = some (vLeg f t tp c s) := by
  unfold spec_l4Leg.f spec_l4Station.f spec_l2Bearing.f vLeg
  simp only [l1In_eq, Option.bind_some, decide_eq_true_eq]
  repeat' split
  all_goals first | exact congrArg some (decide_eq_decide.mpr (by omega)) | exact congrArg some (decide_eq_false (by omega)).symm

theorem within_eq (a b c : Int) : impl_within.f a b c = some (decide (b ≤ a ∧ a ≤ c)) := by
  unfold impl_within.f
  by_cases h : a ≥ b
  · rw [if_pos h]
    have h' : b ≤ a := h
    simp [h']
  · rw [if_neg h]
    have h' : ¬ b ≤ a := h
    simp [h']

theorem isLeg_eq (f t tp c s : Int) : impl_IsLeg.f f t tp c s = some (vLeg f t tp c s) := by
  unfold impl_IsLeg.f impl_isStation.f impl_isBearing.f vLeg
  simp only [within_eq, Option.bind_some, decide_eq_true_eq]
  repeat' split
  all_goals first | exact congrArg some (decide_eq_decide.mpr (by omega)) | exact congrArg some (decide_eq_false (by omega)).symm

theorem zLeg : (⟨#[108, 101, 103, 32]⟩ : ByteArray).size = 4 := rfl
theorem zDash : (⟨#[45]⟩ : ByteArray).size = 1 := rfl
theorem zTape : (⟨#[32, 116, 97, 112, 101, 32]⟩ : ByteArray).size = 6 := rfl
theorem zCompass : (⟨#[32, 99, 111, 109, 112, 97, 115, 115, 32]⟩ : ByteArray).size = 9 := rfl
theorem zSlope : (⟨#[32, 115, 108, 111, 112, 101, 32]⟩ : ByteArray).size = 7 := rfl
/-- The text of a leg. -/
def legT (a b c d e : Int) : ByteArray := (((((((((⟨#[108, 101, 103, 32]⟩ : ByteArray) ++ numT a) ++ (⟨#[45]⟩ : ByteArray)) ++ numT b) ++ (⟨#[32, 116, 97, 112, 101, 32]⟩ : ByteArray)) ++ numT c) ++ (⟨#[32, 99, 111, 109, 112, 97, 115, 115, 32]⟩ : ByteArray)) ++ numT d) ++ (⟨#[32, 115, 108, 111, 112, 101, 32]⟩ : ByteArray)) ++ numT e
theorem numT_neg (e : Int) (h : e < 0) : (⟨#[45]⟩ : ByteArray) ++ numT (-e) = numT e := by
  refine bytes_ext _ _ ?_
  rw [ByteArray.data_append, Array.toList_append, numT_data, numT_data]
  unfold Lib.itoa
  rw [if_pos h, if_neg (by omega)]
  show 45 :: _ = _
  rw [show (-e).toNat = e.natAbs by omega]
  rfl
theorem legText_eq (a b c d e : Int) (ha : 0 ≤ a ∧ a ≤ 999) (hb : 0 ≤ b ∧ b ≤ 999) (hc : 0 ≤ c ∧ c ≤ 999) (hd : 0 ≤ d ∧ d ≤ 999) (he : -999 ≤ e ∧ e ≤ 999) : impl_legText.f a b c d e = some (legT a b c d e) := by
  have sa := numT_size a (by omega) (by omega)
  have sb := numT_size b (by omega) (by omega)
  have sc := numT_size c (by omega) (by omega)
  have sd := numT_size d (by omega) (by omega)
  have se := numT_size e (by omega) (by omega)
  unfold impl_legText.f legT
  rw [dec_eq a (by omega) (by omega), dec_eq b (by omega) (by omega), dec_eq c (by omega) (by omega), dec_eq d (by omega) (by omega), dec_eq e (by omega) (by omega)]
  generalize numT a = A at *
  generalize numT b = B at *
  generalize numT c = C at *
  generalize numT d = D at *
  generalize numT e = E at *
  simp only [Option.bind_some, ByteArray.size_append, zLeg, zDash, zTape, zCompass, zSlope]
  rw [if_pos (by omega), if_pos (by omega), if_pos (by omega), if_pos (by omega), if_pos (by omega), if_pos (by omega), if_pos (by omega), if_pos (by omega), if_pos (by omega)]
theorem l4Text_eq (a b c d e : Int) (ha : 0 ≤ a ∧ a ≤ 999) (hb : 0 ≤ b ∧ b ≤ 999) (hc : 0 ≤ c ∧ c ≤ 999) (hd : 0 ≤ d ∧ d ≤ 999) (he : -999 ≤ e ∧ e ≤ 999) {k : Nat} (hk : 1001 < k) : spec_l4Text.f k a b c d e = some (legT a b c d e) := by
  have sa := numT_size a (by omega) (by omega)
  have sb := numT_size b (by omega) (by omega)
  have sc := numT_size c (by omega) (by omega)
  have sd := numT_size d (by omega) (by omega)
  unfold spec_l4Text.f legT
  rw [num_eq a (by omega) (by omega) (by omega), num_eq b (by omega) (by omega) (by omega), num_eq c (by omega) (by omega) (by omega), num_eq d (by omega) (by omega) (by omega)]
  by_cases h : e < 0
  · have se := numT_size (-e) (by omega) (by omega)
    have en : wrap64 (-e) = -e := w64 (by omega) (by omega)
    have hn := numT_neg e h
    simp only [Option.bind_some]
    rw [if_pos h, en, num_eq (-e) (by omega) (by omega) (by omega), ← hn]
    generalize numT a = A at *
    generalize numT b = B at *
    generalize numT c = C at *
    generalize numT d = D at *
    generalize numT (-e) = E at *
    simp only [Option.bind_some, ByteArray.size_append, zLeg, zDash, zTape, zCompass, zSlope]
    rw [if_pos (by omega), if_pos (by omega), if_pos (by omega), if_pos (by omega), if_pos (by omega), if_pos (by omega), if_pos (by omega), if_pos (by omega), if_pos (by omega), if_pos (by omega)]
    simp only [ByteArray.append_assoc]
  · have se := numT_size e (by omega) (by omega)
    simp only [Option.bind_some]
    rw [if_neg h, num_eq e (by omega) (by omega) (by omega)]
    generalize numT a = A at *
    generalize numT b = B at *
    generalize numT c = C at *
    generalize numT d = D at *
    generalize numT e = E at *
    simp only [Option.bind_some, ByteArray.size_append, zLeg, zDash, zTape, zCompass, zSlope]
    rw [if_pos (by omega), if_pos (by omega), if_pos (by omega), if_pos (by omega), if_pos (by omega), if_pos (by omega), if_pos (by omega), if_pos (by omega), if_pos (by omega)]

theorem FnExactLegText : Asked := by
  intro a b c d e _ _ _ _ _
  refine ⟨1002, ?_⟩
  generalize hK : 1002 = K
  unfold laws_FnExactLegText.f laws_toLeg.f spec_LegText.f impl_LegText.f
  simp only [Option.bind_some, l4Leg_eq, isLeg_eq]
  by_cases h : vLeg a b c d e = true
  · have h' : _ ∧ _ := of_decide_eq_true h
    rw [h, l4Text_eq a b c d e (by omega) (by omega) (by omega) (by omega) (by omega) (by omega), legText_eq a b c d e (by omega) (by omega) (by omega) (by omega) (by omega)]
    simp
  · rw [Bool.not_eq_true] at h
    rw [h]
    simp
end Go.Proofs.YtcmccjiimiomhaaDoor.Pure
