/- The pure statement of the law of FormatInt: true for every whole number; no condition. -/
import Derived.Test.YtcmccjiimiomhaaDoorAskFnExactFormatInt
import Derived.Lib.ItoaLen
namespace Go.Proofs.YtcmccjiimiomhaaDoor.Pure
open Go.RowKit Go.Proofs.YtcmccjiimiomhaaDoor.XFnExactFormatInt Go.Proofs.YtcmccjiimiomhaaDoor.AskFnExactFormatInt Go.Proofs.YtcmccjiimiomhaaDoorW.PrintWords Go.Proofs.YtcmccjiimiomhaaDoorW.PrintLast
set_option linter.unusedVariables false
set_option linter.unusedSimpArgs false

theorem w64 {x : Int} (h0 : -9223372036854775808 ≤ x) (h1 : x ≤ 9223372036854775807) : wrap64 x = x := by
  unfold wrap64
  omega

theorem td {x y : Int} (h : 0 ≤ x) : Int.tdiv x y = x / y := Int.tdiv_eq_ediv_of_nonneg h
theorem tm {x y : Int} (h : 0 ≤ x) : Int.tmod x y = x % y := Int.tmod_eq_emod_of_nonneg h

/-- The decimal text of a whole number. -/
def numT (n : Int) : ByteArray := ⟨(Lib.itoa n).toArray⟩
theorem numT_data (n : Int) : (numT n).data.toList = Lib.itoa n := by simp [numT]
theorem piece10 : ∀ i : Fin 10, ((⟨#[48, 49, 50, 51, 52, 53, 54, 55, 56, 57]⟩ : ByteArray).extract i.val (i.val + 1)).data.toList = [UInt8.ofNat (48 + i.val)] := by decide +kernel
theorem bytes_ext (a b : ByteArray) (h : a.data.toList = b.data.toList) : a = b := by
  apply ByteArray.ext
  exact Array.toList_inj.mp h
theorem decDigits_le (n : Nat) (h : n ≤ 9223372036854775807) : (Lib.decDigits n).length ≤ 20 := by
  rw [Lib.decDigits_length]
  exact Lib.nDigits_le20 n (by omega)
theorem num_nat (n : Nat) : ∀ k : Nat, n ≤ 9223372036854775806 → n < k → spec_l1Num.f k (n : Int) = some ⟨(Lib.decDigits n).toArray⟩ := by
  induction n using Nat.strongRecOn with
  | ind n ih =>
    intro k hn hk
    obtain ⟨k, rfl⟩ : ∃ m, k = m + 1 := ⟨k - 1, by omega⟩
    have c0 : ¬ (n : Int) < 0 := by omega
    simp only [spec_l1Num.f, if_neg c0]
    by_cases h10 : n < 10
    · have e1 : wrap64 ((n : Int) + 1) = ((n + 1 : Nat) : Int) := (w64 (by omega) (by omega)).trans (by omega)
      have c1 : (n : Int) < 10 := by omega
      have c2 : (0 : Int) ≤ (n : Int) := by omega
      have c3 : (n : Int) ≤ ((n + 1 : Nat) : Int) := by omega
      have c4 : ((n + 1 : Nat) : Int) ≤ 10 := by omega
      rw [e1, if_pos c1, if_pos c2, if_pos c3, if_pos c4, Int.toNat_natCast, Int.toNat_natCast]
      refine congrArg some (bytes_ext _ _ ?_)
      rw [piece10 ⟨n, h10⟩, Lib.decDigits_one h10]
    · have e0 : (0 : Int) ≤ (n : Int) := by omega
      have hd : wrap64 ((n : Int).tdiv 10) = ((n / 10 : Nat) : Int) := by
        rw [td e0]
        exact (w64 (by omega) (by omega)).trans (by omega)
      have hm : (n : Int).tmod 10 = ((n % 10 : Nat) : Int) := by
        rw [tm e0]
        omega
      have e1 : wrap64 (((n % 10 : Nat) : Int) + 1) = ((n % 10 + 1 : Nat) : Int) := (w64 (by omega) (by omega)).trans (by omega)
      have c1 : ¬ (n : Int) < 10 := by omega
      have c2 : (0 : Int) ≤ ((n % 10 : Nat) : Int) := by omega
      have c3 : ((n % 10 : Nat) : Int) ≤ ((n % 10 + 1 : Nat) : Int) := by omega
      have c4 : ((n % 10 + 1 : Nat) : Int) ≤ 10 := by omega
      have hp : ((⟨#[48, 49, 50, 51, 52, 53, 54, 55, 56, 57]⟩ : ByteArray).extract (n % 10) (n % 10 + 1)).data.toList = [UInt8.ofNat (48 + n % 10)] := piece10 ⟨n % 10, by omega⟩
      have hl := decDigits_le (n / 10) (by omega)
      rw [if_neg c1, hd, hm, e1, ih (n / 10) (by omega) k (by omega) (by omega)]
      simp only [Option.bind_some]
      rw [if_pos c2, if_pos c3, if_pos c4, Int.toNat_natCast, Int.toNat_natCast]
      generalize hq : ((⟨#[48, 49, 50, 51, 52, 53, 54, 55, 56, 57]⟩ : ByteArray).extract (n % 10) (n % 10 + 1)) = q at *
      have hq1 : q.size = 1 := by
        have := congrArg List.length hp
        simpa using this
      have hs : (⟨(Lib.decDigits (n / 10)).toArray⟩ : ByteArray).size ≤ 20 := by
        show (Lib.decDigits (n / 10)).toArray.size ≤ 20
        rw [List.size_toArray]
        exact hl
      rw [if_pos (by omega)]
      refine congrArg some (bytes_ext _ _ ?_)
      rw [ByteArray.data_append, Array.toList_append, hp]
      show Lib.decDigits (n / 10) ++ _ = Lib.decDigits n
      conv => rhs; rw [Lib.decDigits, dif_neg h10]
theorem num_eq (n : Int) (h0 : -9223372036854775806 ≤ n) (h1 : n ≤ 9223372036854775806) {k : Nat} (hk : n.natAbs + 1 < k) : spec_l1Num.f k n = some (numT n) := by
  by_cases hn : n < 0
  · obtain ⟨k, rfl⟩ : ∃ m, k = m + 1 := ⟨k - 1, by omega⟩
    have e1 : wrap64 (-n) = ((n.natAbs : Nat) : Int) := (w64 (by omega) (by omega)).trans (by omega)
    have hl := decDigits_le n.natAbs (by omega)
    have hs : (⟨(Lib.decDigits n.natAbs).toArray⟩ : ByteArray).size ≤ 20 := by
      show (Lib.decDigits n.natAbs).toArray.size ≤ 20
      rw [List.size_toArray]
      exact hl
    simp only [spec_l1Num.f]
    rw [if_pos hn, e1, num_nat n.natAbs k (by omega) (by omega)]
    simp only [Option.bind_some]
    rw [if_pos (by omega)]
    refine congrArg some (bytes_ext _ _ ?_)
    rw [ByteArray.data_append, Array.toList_append, numT_data]
    unfold Lib.itoa
    rw [if_pos hn]
    rfl
  · obtain ⟨m, rfl⟩ : ∃ m : Nat, n = (m : Int) := ⟨n.toNat, by omega⟩
    rw [num_nat m k (by omega) (by omega)]
    unfold numT Lib.itoa
    rw [if_neg hn, Int.toNat_natCast]
theorem numT_size (n : Int) (h0 : -9223372036854775806 ≤ n) (h1 : n ≤ 9223372036854775806) : (numT n).size ≤ 21 := by
  have h := Lib.itoa_length_le n (by omega) (by omega)
  show (Lib.itoa n).toArray.size ≤ 21
  rw [List.size_toArray]
  exact h
theorem dec_eq (n : Int) (h0 : -9223372036854775808 ≤ n) (h1 : n ≤ 9223372036854775807) : impl_decimal.f n = some (numT n) := by
  unfold impl_decimal.f strconv_Itoa.f
  rw [if_pos ⟨h0, h1⟩]
  rfl

theorem l1In_eq (a b c : Int) : spec_l1In.f a b c = some (decide (b ≤ a ∧ a ≤ c)) := by
  unfold spec_l1In.f
  by_cases h : a ≥ b
  · rw [if_pos h]
    have h' : b ≤ a := h
    simp [h']
  · rw [if_neg h]
    have h' : ¬ b ≤ a := h
    simp [h']

theorem within_eq (a b c : Int) : impl_within.f a b c = some (decide (b ≤ a ∧ a ≤ c)) := by
  unfold impl_within.f
  by_cases h : a ≥ b
  · rw [if_pos h]
    have h' : b ≤ a := h
    simp [h']
  · rw [if_neg h]
    have h' : ¬ b ≤ a := h
    simp [h']

theorem FnExactFormatInt : Asked := by
  intro n _
  refine ⟨1000002, ?_⟩
  generalize hK : 1000002 = K
  unfold laws_FnExactFormatInt.f spec_FormatInt.f impl_FormatInt.f
  rw [l1In_eq, within_eq]
  simp only [Option.bind_some]
  by_cases h : -999999 ≤ n ∧ n ≤ 999999
  · rw [decide_eq_true h, num_eq n (by omega) (by omega) (by omega), dec_eq n (by omega) (by omega)]
    simp
  · rw [decide_eq_false h]
    simp
end Go.Proofs.YtcmccjiimiomhaaDoor.Pure
