/- The pure statement of the law of ParseLeg: true for every string; no condition but its reach. -/
import Derived.Test.YtcmccjiimiomhaaDoorAskFnExactParseLeg
import Derived.Lib.ItoaLen
import Derived.Lib.SplitLaws
import Derived.Lib.IndexBytes
namespace Go.Proofs.YtcmccjiimiomhaaDoor.Pure
open Go.RowKit Go.Proofs.YtcmccjiimiomhaaDoor.XFnExactParseLeg Go.Proofs.YtcmccjiimiomhaaDoor.AskFnExactParseLeg Go.Proofs.YtcmccjiimiomhaaDoorW.PrintWords Go.Proofs.YtcmccjiimiomhaaDoorW.PrintLast
set_option linter.unusedVariables false
set_option linter.unusedSimpArgs false

theorem w64 {x : Int} (h0 : -9223372036854775808 ≤ x) (h1 : x ≤ 9223372036854775807) : wrap64 x = x := by
  unfold wrap64
  omega

theorem td {x y : Int} (h : 0 ≤ x) : Int.tdiv x y = x / y := Int.tdiv_eq_ediv_of_nonneg h
theorem tm {x y : Int} (h : 0 ≤ x) : Int.tmod x y = x % y := Int.tmod_eq_emod_of_nonneg h

/-- The decimal text of a whole number. -/
def numT (n : Int) : ByteArray := ⟨(Lib.itoa n).toArray⟩
theorem numT_data (n : Int) : (numT n).data.toList = Lib.itoa n := by simp [numT]
theorem piece10 : ∀ i : Fin 10, ((⟨#[48, 49, 50, 51, 52, 53, 54, 55, 56, 57]⟩ : ByteArray).extract i.val (i.val + 1)).data.toList = [UInt8.ofNat (48 + i.val)] := by decide +kernel
theorem bytes_ext (a b : ByteArray) (h : a.data.toList = b.data.toList) : a = b := by
  apply ByteArray.ext
  exact Array.toList_inj.mp h
theorem decDigits_le (n : Nat) (h : n ≤ 9223372036854775807) : (Lib.decDigits n).length ≤ 20 := by
  rw [Lib.decDigits_length]
  exact Lib.nDigits_le20 n (by omega)
theorem num_nat (n : Nat) : ∀ k : Nat, n ≤ 9223372036854775806 → n < k → spec_l1Num.f k (n : Int) = some ⟨(Lib.decDigits n).toArray⟩ := by
  induction n using Nat.strongRecOn with
  | ind n ih =>
    intro k hn hk
    obtain ⟨k, rfl⟩ : ∃ m, k = m + 1 := ⟨k - 1, by omega⟩
    have c0 : ¬ (n : Int) < 0 := by omega
    simp only [spec_l1Num.f, if_neg c0]
    by_cases h10 : n < 10
    · have e1 : wrap64 ((n : Int) + 1) = ((n + 1 : Nat) : Int) := (w64 (by omega) (by omega)).trans (by omega)
      have c1 : (n : Int) < 10 := by omega
      have c2 : (0 : Int) ≤ (n : Int) := by omega
      have c3 : (n : Int) ≤ ((n + 1 : Nat) : Int) := by omega
      have c4 : ((n + 1 : Nat) : Int) ≤ 10 := by omega
      rw [e1, if_pos c1, if_pos c2, if_pos c3, if_pos c4, Int.toNat_natCast, Int.toNat_natCast]
      refine congrArg some (bytes_ext _ _ ?_)
      rw [piece10 ⟨n, h10⟩, Lib.decDigits_one h10]
    · have e0 : (0 : Int) ≤ (n : Int) := by omega
      have hd : wrap64 ((n : Int).tdiv 10) = ((n / 10 : Nat) : Int) := by
        rw [td e0]
        exact (w64 (by omega) (by omega)).trans (by omega)
      have hm : (n : Int).tmod 10 = ((n % 10 : Nat) : Int) := by
        rw [tm e0]
        omega
      have e1 : wrap64 (((n % 10 : Nat) : Int) + 1) = ((n % 10 + 1 : Nat) : Int) := (w64 (by omega) (by omega)).trans (by omega)
      have c1 : ¬ (n : Int) < 10 := by omega
      have c2 : (0 : Int) ≤ ((n % 10 : Nat) : Int) := by omega
      have c3 : ((n % 10 : Nat) : Int) ≤ ((n % 10 + 1 : Nat) : Int) := by omega
      have c4 : ((n % 10 + 1 : Nat) : Int) ≤ 10 := by omega
      have hp : ((⟨#[48, 49, 50, 51, 52, 53, 54, 55, 56, 57]⟩ : ByteArray).extract (n % 10) (n % 10 + 1)).data.toList = [UInt8.ofNat (48 + n % 10)] := piece10 ⟨n % 10, by omega⟩
      have hl := decDigits_le (n / 10) (by omega)
      rw [if_neg c1, hd, hm, e1, ih (n / 10) (by omega) k (by omega) (by omega)]
      simp only [Option.bind_some]
      rw [if_pos c2, if_pos c3, if_pos c4, Int.toNat_natCast, Int.toNat_natCast]
      generalize hq : ((⟨#[48, 49, 50, 51, 52, 53, 54, 55, 56, 57]⟩ : ByteArray).extract (n % 10) (n % 10 + 1)) = q at *
      have hq1 : q.size = 1 := by
        have := congrArg List.length hp
        simpa using this
      have hs : (⟨(Lib.decDigits (n / 10)).toArray⟩ : ByteArray).size ≤ 20 := by
        show (Lib.decDigits (n / 10)).toArray.size ≤ 20
        rw [List.size_toArray]
        exact hl
      rw [if_pos (by omega)]
      refine congrArg some (bytes_ext _ _ ?_)
      rw [ByteArray.data_append, Array.toList_append, hp]
      show Lib.decDigits (n / 10) ++ _ = Lib.decDigits n
      conv => rhs; rw [Lib.decDigits, dif_neg h10]
theorem num_eq (n : Int) (h0 : -9223372036854775806 ≤ n) (h1 : n ≤ 9223372036854775806) {k : Nat} (hk : n.natAbs + 1 < k) : spec_l1Num.f k n = some (numT n) := by
  by_cases hn : n < 0
  · obtain ⟨k, rfl⟩ : ∃ m, k = m + 1 := ⟨k - 1, by omega⟩
    have e1 : wrap64 (-n) = ((n.natAbs : Nat) : Int) := (w64 (by omega) (by omega)).trans (by omega)
    have hl := decDigits_le n.natAbs (by omega)
    have hs : (⟨(Lib.decDigits n.natAbs).toArray⟩ : ByteArray).size ≤ 20 := by
      show (Lib.decDigits n.natAbs).toArray.size ≤ 20
      rw [List.size_toArray]
      exact hl
    simp only [spec_l1Num.f]
    rw [if_pos hn, e1, num_nat n.natAbs k (by omega) (by omega)]
    simp only [Option.bind_some]
    rw [if_pos (by omega)]
    refine congrArg some (bytes_ext _ _ ?_)
    rw [ByteArray.data_append, Array.toList_append, numT_data]
    unfold Lib.itoa
    rw [if_pos hn]
    rfl
  · obtain ⟨m, rfl⟩ : ∃ m : Nat, n = (m : Int) := ⟨n.toNat, by omega⟩
    rw [num_nat m k (by omega) (by omega)]
    unfold numT Lib.itoa
    rw [if_neg hn, Int.toNat_natCast]
theorem numT_size (n : Int) (h0 : -9223372036854775806 ≤ n) (h1 : n ≤ 9223372036854775806) : (numT n).size ≤ 21 := by
  have h := Lib.itoa_length_le n (by omega) (by omega)
  show (Lib.itoa n).toArray.size ≤ 21
  rw [List.size_toArray]
  exact h
theorem dec_eq (n : Int) (h0 : -9223372036854775808 ≤ n) (h1 : n ≤ 9223372036854775807) : impl_decimal.f n = some (numT n) := by
  unfold impl_decimal.f strconv_Itoa.f
  rw [if_pos ⟨h0, h1⟩]
  rfl

theorem l1In_eq (a b c : Int) : spec_l1In.f a b c = some (decide (b ≤ a ∧ a ≤ c)) := by
  unfold spec_l1In.f
  by_cases h : a ≥ b
  · rw [if_pos h]
    have h' : b ≤ a := h
    simp [h']
  · rw [if_neg h]
    have h' : ¬ b ≤ a := h
    simp [h']

theorem beqd (a b : Int) : (a == b) = decide (a = b) := by by_cases h : a = b <;> simp [h]

def vLeg (f t tp c s : Int) : Bool := decide ((0 ≤ f ∧ f ≤ 7) ∧ (0 ≤ t ∧ t ≤ 7) ∧ f ≠ t ∧ (1 ≤ tp ∧ tp ≤ 500) ∧ (0 ≤ c ∧ c ≤ 359) ∧ (-90 ≤ s ∧ s ≤ 90))

theorem l4Leg_eq (f t tp c s : Int) : spec_l4Leg.f f t tp c s = some (vLeg f t tp c s) := by
  unfold spec_l4Leg.f spec_l4Station.f spec_l2Bearing.f vLeg
  simp only [l1In_eq, Option.bind_some, decide_eq_true_eq]
  repeat' split
  all_goals first | exact congrArg some (decide_eq_decide.mpr (by omega)) | exact congrArg some (decide_eq_false (by omega)).symm

theorem within_eq (a b c : Int) : impl_within.f a b c = some (decide (b ≤ a ∧ a ≤ c)) := by
  unfold impl_within.f
  by_cases h : a ≥ b
  · rw [if_pos h]
    have h' : b ≤ a := h
    simp [h']
  · rw [if_neg h]
    have h' : ¬ b ≤ a := h
    simp [h']

theorem isLeg_eq (f t tp c s : Int) : impl_IsLeg.f f t tp c s = some (vLeg f t tp c s) := by
  unfold impl_IsLeg.f impl_isStation.f impl_isBearing.f vLeg
  simp only [within_eq, Option.bind_some, decide_eq_true_eq]
  repeat' split
  all_goals first | exact congrArg some (decide_eq_decide.mpr (by omega)) | exact congrArg some (decide_eq_false (by omega)).symm

theorem zLeg : (⟨#[108, 101, 103, 32]⟩ : ByteArray).size = 4 := rfl
theorem zDash : (⟨#[45]⟩ : ByteArray).size = 1 := rfl
theorem zTape : (⟨#[32, 116, 97, 112, 101, 32]⟩ : ByteArray).size = 6 := rfl
theorem zCompass : (⟨#[32, 99, 111, 109, 112, 97, 115, 115, 32]⟩ : ByteArray).size = 9 := rfl
theorem zSlope : (⟨#[32, 115, 108, 111, 112, 101, 32]⟩ : ByteArray).size = 7 := rfl
/-- The text of a leg. -/
def legT (a b c d e : Int) : ByteArray := (((((((((⟨#[108, 101, 103, 32]⟩ : ByteArray) ++ numT a) ++ (⟨#[45]⟩ : ByteArray)) ++ numT b) ++ (⟨#[32, 116, 97, 112, 101, 32]⟩ : ByteArray)) ++ numT c) ++ (⟨#[32, 99, 111, 109, 112, 97, 115, 115, 32]⟩ : ByteArray)) ++ numT d) ++ (⟨#[32, 115, 108, 111, 112, 101, 32]⟩ : ByteArray)) ++ numT e
theorem numT_neg (e : Int) (h : e < 0) : (⟨#[45]⟩ : ByteArray) ++ numT (-e) = numT e := by
  refine bytes_ext _ _ ?_
  rw [ByteArray.data_append, Array.toList_append, numT_data, numT_data]
  unfold Lib.itoa
  rw [if_pos h, if_neg (by omega)]
  show 45 :: _ = _
  rw [show (-e).toNat = e.natAbs by omega]
  rfl
theorem legText_eq (a b c d e : Int) (ha : 0 ≤ a ∧ a ≤ 999) (hb : 0 ≤ b ∧ b ≤ 999) (hc : 0 ≤ c ∧ c ≤ 999) (hd : 0 ≤ d ∧ d ≤ 999) (he : -999 ≤ e ∧ e ≤ 999) : impl_legText.f a b c d e = some (legT a b c d e) := by
  have sa := numT_size a (by omega) (by omega)
  have sb := numT_size b (by omega) (by omega)
  have sc := numT_size c (by omega) (by omega)
  have sd := numT_size d (by omega) (by omega)
  have se := numT_size e (by omega) (by omega)
  unfold impl_legText.f legT
  rw [dec_eq a (by omega) (by omega), dec_eq b (by omega) (by omega), dec_eq c (by omega) (by omega), dec_eq d (by omega) (by omega), dec_eq e (by omega) (by omega)]
  generalize numT a = A at *
  generalize numT b = B at *
  generalize numT c = C at *
  generalize numT d = D at *
  generalize numT e = E at *
  simp only [Option.bind_some, ByteArray.size_append, zLeg, zDash, zTape, zCompass, zSlope]
  rw [if_pos (by omega), if_pos (by omega), if_pos (by omega), if_pos (by omega), if_pos (by omega), if_pos (by omega), if_pos (by omega), if_pos (by omega), if_pos (by omega)]
theorem l4Text_eq (a b c d e : Int) (ha : 0 ≤ a ∧ a ≤ 999) (hb : 0 ≤ b ∧ b ≤ 999) (hc : 0 ≤ c ∧ c ≤ 999) (hd : 0 ≤ d ∧ d ≤ 999) (he : -999 ≤ e ∧ e ≤ 999) {k : Nat} (hk : 1001 < k) : spec_l4Text.f k a b c d e = some (legT a b c d e) := by
  have sa := numT_size a (by omega) (by omega)
  have sb := numT_size b (by omega) (by omega)
  have sc := numT_size c (by omega) (by omega)
  have sd := numT_size d (by omega) (by omega)
  unfold spec_l4Text.f legT
  rw [num_eq a (by omega) (by omega) (by omega), num_eq b (by omega) (by omega) (by omega), num_eq c (by omega) (by omega) (by omega), num_eq d (by omega) (by omega) (by omega)]
  by_cases h : e < 0
  · have se := numT_size (-e) (by omega) (by omega)
    have en : wrap64 (-e) = -e := w64 (by omega) (by omega)
    have hn := numT_neg e h
    simp only [Option.bind_some]
    rw [if_pos h, en, num_eq (-e) (by omega) (by omega) (by omega), ← hn]
    generalize numT a = A at *
    generalize numT b = B at *
    generalize numT c = C at *
    generalize numT d = D at *
    generalize numT (-e) = E at *
    simp only [Option.bind_some, ByteArray.size_append, zLeg, zDash, zTape, zCompass, zSlope]
    rw [if_pos (by omega), if_pos (by omega), if_pos (by omega), if_pos (by omega), if_pos (by omega), if_pos (by omega), if_pos (by omega), if_pos (by omega), if_pos (by omega), if_pos (by omega)]
    simp only [ByteArray.append_assoc]
  · have se := numT_size e (by omega) (by omega)
    simp only [Option.bind_some]
    rw [if_neg h, num_eq e (by omega) (by omega) (by omega)]
    generalize numT a = A at *
    generalize numT b = B at *
    generalize numT c = C at *
    generalize numT d = D at *
    generalize numT e = E at *
    simp only [Option.bind_some, ByteArray.size_append, zLeg, zDash, zTape, zCompass, zSlope]
    rw [if_pos (by omega), if_pos (by omega), if_pos (by omega), if_pos (by omega), if_pos (by omega), if_pos (by omega), if_pos (by omega), if_pos (by omega), if_pos (by omega)]

/-- A text cut at a byte. -/
def sp (c : UInt8) (cur : List UInt8) : List UInt8 → List (List UInt8)
  | [] => [cur]
  | b :: l => if b = c then cur :: sp c [] l else sp c (cur ++ [b]) l
def mkB (l : List UInt8) : ByteArray := ⟨l.toArray⟩
theorem sp_length (c : UInt8) : ∀ (l cur : List UInt8), (sp c cur l).length ≤ l.length + 1
  | [], _ => Nat.le_refl _
  | b :: l, cur => by
    unfold sp
    split
    · have := sp_length c l []; simp only [List.length_cons]; omega
    · have := sp_length c l (cur ++ [b]); simp only [List.length_cons]; omega
theorem extract_mk (s : ByteArray) (i j : Nat) : s.extract i j = mkB ((s.data.toList.take j).drop i) := by
  apply ByteArray.ext
  rw [ByteArray.data_extract]
  apply Array.ext'
  simp [mkB, List.drop_take]
theorem size_data (s : ByteArray) : s.data.toList.length = s.size := Array.length_toList
theorem mk_data (s : ByteArray) : mkB s.data.toList = s := by simp [mkB]
theorem bt_list (s : ByteArray) (i : Nat) (h : i < s.size) : bt s (i : Int) = ((s.data.toList[i]'(by rw [size_data]; exact h)).toNat : Int) := by
  unfold bt
  rw [dif_pos (show (i : Int).toNat < s.size by omega)]
  rfl
theorem toNat_eq {x y : UInt8} : (x.toNat : Int) = (y.toNat : Int) ↔ x = y := by
  constructor
  · intro h
    exact UInt8.toNat_inj.mp (by omega)
  · intro h
    rw [h]
theorem idx_none (c : UInt8) : ∀ (l cur : List UInt8), Lib.indexByte l c < 0 → sp c cur l = [cur ++ l]
  | [], cur, _ => by simp [sp]
  | b :: l, cur, h => by
    unfold Lib.indexByte at h
    by_cases e : b = c
    · simp [e] at h
    · have hb : (b == c) = false := by simp [e]
      rw [hb] at h
      simp only [Bool.false_eq_true, if_false] at h
      have g := Lib.indexByte_ge l c
      have h2 : Lib.indexByte l c < 0 := by
        by_cases z : (Lib.indexByte l c == -1) = true
        · have := eq_of_beq z; omega
        · rw [if_neg z] at h; omega
      unfold sp
      rw [if_neg e, idx_none c l _ h2, List.append_assoc, List.singleton_append]
theorem idx_some (c : UInt8) : ∀ (l cur : List UInt8), 0 ≤ Lib.indexByte l c → (Lib.indexByte l c).toNat < l.length ∧ sp c cur l = (cur ++ l.take (Lib.indexByte l c).toNat) :: sp c [] (l.drop ((Lib.indexByte l c).toNat + 1))
  | [], cur, h => by simp [Lib.indexByte] at h
  | b :: l, cur, h => by
    unfold Lib.indexByte at h ⊢
    by_cases e : b = c
    · simp [e, sp]
    · have hb : (b == c) = false := by simp [e]
      rw [hb] at h ⊢
      simp only [Bool.false_eq_true, if_false] at h ⊢
      by_cases z : (Lib.indexByte l c == -1) = true
      · rw [if_pos z] at h; omega
      · rw [if_neg z] at h ⊢
        have g := Lib.indexByte_ge l c
        have h2 : 0 ≤ Lib.indexByte l c := by
          have : ¬ Lib.indexByte l c = -1 := fun q => z (by simp [q])
          omega
        obtain ⟨i1, i2⟩ := idx_some c l (cur ++ [b]) h2
        have et : (Lib.indexByte l c + 1).toNat = (Lib.indexByte l c).toNat + 1 := by omega
        rw [et]
        refine ⟨by simp only [List.length_cons]; omega, ?_⟩
        rw [show sp c cur (b :: l) = sp c (cur ++ [b]) l from if_neg e, i2, List.take_succ_cons, List.drop_succ_cons, List.append_assoc, List.singleton_append]
theorem u8_round (x : Int) (h0 : 0 ≤ x) (h1 : x ≤ 255) : ((x.toNat.toUInt8).toNat : Int) = x := by
  have e : (x.toNat.toUInt8).toNat = x.toNat % 256 := by simp [Nat.toUInt8]
  rw [e]; omega

theorem digit_val : ∀ d : Fin 10, Lib.digitVal (UInt8.ofNat (48 + d.val)) = some d.val := by decide
theorem decFrom_app (b : UInt8) : ∀ (l : List UInt8) (acc : Nat), Lib.decFrom acc (l ++ [b]) = (Lib.decFrom acc l).bind fun n => (Lib.digitVal b).map fun d => n * 10 + d
  | [], acc => by
    simp only [List.nil_append, Lib.decFrom, Option.bind_some]
    cases Lib.digitVal b <;> rfl
  | c :: l, acc => by
    simp only [List.cons_append, Lib.decFrom]
    cases h : Lib.digitVal c with
    | none => rfl
    | some d => exact decFrom_app b l _
theorem decFrom_digits (u : Nat) : Lib.decFrom 0 (Lib.decDigits u) = some u := by
  induction u using Nat.strongRecOn with
  | ind u ih =>
    by_cases h : u < 10
    · rw [Lib.decDigits_one h]
      have := digit_val ⟨u, h⟩
      simp only [Lib.decFrom]
      simp only at this
      rw [this]
      simp
    · rw [Lib.decDigits, dif_neg h, decFrom_app, ih (u / 10) (by omega)]
      have := digit_val ⟨u % 10, by omega⟩
      simp only at this
      rw [this]
      simp only [Option.bind_some, Option.map_some]
      exact congrArg some (by omega)
theorem nDigits_le : ∀ (k u : Nat), u < 10 ^ (k + 1) → Lib.nDigits u ≤ k + 1
  | 0, u, h => by
    rw [Lib.nDigits_small (by simpa using h)]
    omega
  | k + 1, u, h => by
    by_cases c : u < 10
    · rw [Lib.nDigits_small c]; omega
    · rw [Lib.nDigits_big c]
      have := nDigits_le k (u / 10) (by rw [Nat.pow_succ] at h; omega)
      omega
theorem decDigits_len (u : Nat) (h : u ≤ 999999) : 1 ≤ (Lib.decDigits u).length ∧ (Lib.decDigits u).length ≤ 6 := by
  rw [Lib.decDigits_length]
  exact ⟨Lib.nDigits_pos u, nDigits_le 5 u (by omega)⟩
theorem decDigits_head (u : Nat) : ∃ b r, Lib.decDigits u = b :: r ∧ 48 ≤ b.toNat ∧ b.toNat ≤ 57 := by
  have h := decFrom_digits u
  cases hl : Lib.decDigits u with
  | nil =>
    have := Lib.nDigits_pos u
    rw [← Lib.decDigits_length, hl] at this
    simp at this
  | cons b r =>
    rw [hl] at h
    simp only [Lib.decFrom] at h
    refine ⟨b, r, rfl, ?_⟩
    cases hd : Lib.digitVal b with
    | none => rw [hd] at h; cases h
    | some d => exact ⟨(Lib.digitVal_eq hd).1, (Lib.digitVal_eq hd).2.1⟩
theorem decNat_digits (u : Nat) : Lib.decNat (Lib.decDigits u) = some u := by
  obtain ⟨b, r, e, _⟩ := decDigits_head u
  unfold Lib.decNat
  rw [decFrom_digits, e]
  rfl
theorem atoi_itoa (m : Int) (h0 : -999999 ≤ m) (h1 : m ≤ 999999) : Lib.atoiAll (Lib.itoa m) = .ok m := by
  have hl := decDigits_len m.natAbs (by omega)
  have hl2 : (Lib.itoa m).length ≤ 18 := by
    unfold Lib.itoa
    split
    · simp only [List.length_cons]; omega
    · rw [show m.toNat = m.natAbs by omega]; omega
  rw [Lib.atoiAll_short _ hl2]
  unfold Lib.itoa
  by_cases h : m < 0
  · rw [if_pos h]
    simp only [Lib.atoi, beq_self_eq_true, if_true, decNat_digits, Option.map_some, Lib.NumEnd.ofOption]
    exact congrArg _ (by omega)
  · rw [if_neg h]
    obtain ⟨b, r, e, hb0, hb1⟩ := decDigits_head m.toNat
    have n45 : (b == 45) = false := beq_eq_false_iff_ne.mpr (fun z => by subst z; exact absurd hb0 (by decide))
    have n43 : (b == 43) = false := beq_eq_false_iff_ne.mpr (fun z => by subst z; exact absurd hb0 (by decide))
    have hd := decNat_digits m.toNat
    rw [e] at hd ⊢
    simp only [Lib.atoi, n45, n43, Bool.false_eq_true, if_false, hd, Option.map_some, Lib.NumEnd.ofOption]
    exact congrArg _ (by omega)
/-- What a reader of numbers answers at a text. -/
structure ReadsAs (s : ByteArray) (v : Int × Bool) : Prop where
  hit : ∀ m : Int, -999999 ≤ m → m ≤ 999999 → s.data.toList = Lib.itoa m → v = (m, true)
  only : v = (0, false) ∨ ∃ m : Int, -999999 ≤ m ∧ m ≤ 999999 ∧ s.data.toList = Lib.itoa m ∧ v = (m, true)
theorem ReadsAs.same {s : ByteArray} {v w : Int × Bool} (h : ReadsAs s v) (k : ReadsAs s w) : v = w := by
  rcases h.only with h0 | ⟨m, a, b, c, h1⟩
  · rcases k.only with k0 | ⟨m, a, b, c, k1⟩
    · rw [h0, k0]
    · rw [k1]; exact h.hit m a b c
  · rw [h1]; exact (k.hit m a b c).symm
theorem same_text (s : ByteArray) (n : Int) : (numT n).toList = s.toList ↔ s.data.toList = Lib.itoa n := by
  rw [Lib.toList_data, Lib.toList_data, numT_data]
  exact eq_comm
theorem implRead_eq (s : ByteArray) (hs : s.size ≤ 281474976710656) : ∃ v, impl_ParseInt.f s = some v ∧ ReadsAs s v := by
  unfold impl_ParseInt.f
  rw [if_pos hs]
  cases ha : Lib.atoiAll s.data.toList with
  | ok n =>
    have hb := Lib.atoiAll_bounds ha
    simp only
    rw [if_pos hb, dec_eq n hb.1 hb.2]
    simp only [Option.bind_some]
    have key : ∀ m : Int, -999999 ≤ m → m ≤ 999999 → s.data.toList = Lib.itoa m → m = n := fun m h0 h1 e => by
      rw [e, atoi_itoa m h0 h1] at ha
      injection ha
    by_cases c : (numT n).toList = s.toList
    · rw [if_pos c, within_eq]
      simp only [Option.bind_some]
      by_cases hw : -999999 ≤ n ∧ n ≤ 999999
      · rw [decide_eq_true hw, if_pos rfl]
        exact ⟨_, rfl, ⟨fun m h0 h1 e => by rw [key m h0 h1 e], .inr ⟨n, hw.1, hw.2, (same_text s n).mp c, rfl⟩⟩⟩
      · rw [decide_eq_false hw, if_neg (by simp)]
        exact ⟨_, rfl, ⟨fun m h0 h1 e => absurd (show -999999 ≤ n ∧ n ≤ 999999 from key m h0 h1 e ▸ ⟨h0, h1⟩) hw, .inl rfl⟩⟩
    · rw [if_neg c]
      exact ⟨_, rfl, ⟨fun m h0 h1 e => absurd ((same_text s n).mpr (by rw [← key m h0 h1 e]; exact e)) c, .inl rfl⟩⟩
  | range =>
    exact ⟨_, rfl, ⟨fun m h0 h1 e => (by rw [e, atoi_itoa m h0 h1] at ha; cases ha), .inl rfl⟩⟩
  | _ =>
    exact ⟨_, rfl, ⟨fun m h0 h1 e => (by rw [e, atoi_itoa m h0 h1] at ha; cases ha), .inl rfl⟩⟩
/-- What is answered behind the digits. -/
def finR (s t : ByteArray) (m : Nat) : Int × Bool := if t.size < s.size then (if (numT (-(m : Int))).toList = s.toList then (-(m : Int), true) else (0, false)) else (if (numT (m : Int)).toList = s.toList then ((m : Int), true) else (0, false))
theorem read_loop (s t : ByteArray) (ht : t.size ≤ 6) (hs : s.size ≤ 140737488351232) (d : Nat) : ∀ (k i n : Nat), i + d = t.size → n < 10 ^ i → d + 1000002 < k →
    spec_l1Read.l0 k s t (n : Int) (i : Int) = some (match Lib.decFrom n (t.data.toList.drop i) with | none => (0, false) | some m => finR s t m) := by
  induction d with
  | zero =>
    intro k i n hi hn hk
    obtain ⟨k, rfl⟩ : ∃ m, k = m + 1 := ⟨k - 1, by omega⟩
    have h6 : n < 10 ^ 6 := Nat.lt_of_lt_of_le hn (Nat.pow_le_pow_right (by decide) (by omega))
    have e6 : (10 : Nat) ^ 6 = 1000000 := by decide
    rw [e6] at h6
    have c1 : ¬ (i : Int) < (t.size : Int) := by omega
    have hd : t.data.toList.drop i = [] := List.drop_of_length_le (by rw [size_data]; omega)
    have ew : wrap64 (-(n : Int)) = -(n : Int) := w64 (by omega) (by omega)
    simp only [spec_l1Read.l0, if_neg c1, ew, num_eq (-(n : Int)) (by omega) (by omega) (show (-(n : Int)).natAbs + 1 < k by omega), num_eq (n : Int) (by omega) (by omega) (show (n : Int).natAbs + 1 < k by omega), Option.bind_some, hd, Lib.decFrom, finR]
    by_cases c : t.size < s.size
    · rw [if_pos (show (t.size : Int) < (s.size : Int) by omega), if_pos c]
      split <;> rfl
    · rw [if_neg (show ¬ (t.size : Int) < (s.size : Int) by omega), if_neg c]
      split <;> rfl
  | succ d ih =>
    intro k i n hi hn hk
    obtain ⟨k, rfl⟩ : ∃ m, k = m + 1 := ⟨k - 1, by omega⟩
    have h6 : n < 10 ^ 6 := Nat.lt_of_lt_of_le hn (Nat.pow_le_pow_right (by decide) (by omega))
    have e6 : (10 : Nat) ^ 6 = 1000000 := by decide
    rw [e6] at h6
    have hlt : i < t.data.toList.length := by rw [size_data]; omega
    have c1 : (i : Int) < (t.size : Int) := by omega
    have c2 : 0 ≤ (i : Int) := by omega
    have hd := List.drop_eq_getElem_cons hlt
    have eb := bt_list t i (by omega)
    have ew : wrap64 ((i : Int) + 1) = ((i + 1 : Nat) : Int) := (w64 (by omega) (by omega)).trans (by omega)
    simp only [spec_l1Read.l0, if_pos c1, if_pos c2, eb, ew]
    rw [hd]
    generalize hbb : t.data.toList[i] = b
    simp only [Lib.decFrom]
    have hb := b.toNat_lt
    by_cases h48 : (b.toNat : Int) < 48
    · have : Lib.digitVal b = none := by unfold Lib.digitVal; rw [if_neg (by omega)]
      rw [if_pos h48, this]
    · by_cases h57 : (b.toNat : Int) > 57
      · have : Lib.digitVal b = none := by unfold Lib.digitVal; rw [if_neg (by omega)]
        rw [if_neg h48, if_pos h57, this]
      · have hv : Lib.digitVal b = some (b.toNat - 48) := by unfold Lib.digitVal; rw [if_pos (by omega)]
        have e1 : wrap64 (10 * (n : Int)) = 10 * (n : Int) := w64 (by omega) (by omega)
        have e2 : wrap64 (10 * (n : Int) + ((b.toNat : Int) - 48) % 256) = ((n * 10 + (b.toNat - 48) : Nat) : Int) := by
          rw [show ((b.toNat : Int) - 48) % 256 = (b.toNat : Int) - 48 by omega]
          exact (w64 (by omega) (by omega)).trans (by omega)
        rw [if_neg h48, if_neg h57, hv, e1, e2]
        exact ih k (i + 1) (n * 10 + (b.toNat - 48)) (by omega) (by rw [Nat.pow_succ]; omega) (by omega)
/-- The digits behind a sign. -/
def bodyT (s : ByteArray) : ByteArray := if 1 < s.size ∧ (bt s 0) = 45 then s.extract 1 s.size else s
def readV (s : ByteArray) : Int × Bool := if 1 ≤ (bodyT s).size ∧ (bodyT s).size ≤ 6 then (match Lib.decFrom 0 (bodyT s).data.toList with | none => (0, false) | some m => finR s (bodyT s) m) else (0, false)
theorem specRead_eq (s : ByteArray) (hs : s.size ≤ 140737488351232) {k : Nat} (hk : 1000020 < k) : spec_l1Read.f k s = some (readV s) := by
  obtain ⟨k, rfl⟩ : ∃ m, k = m + 2 := ⟨k - 2, by omega⟩
  have j1 : ∀ t : ByteArray, spec_l1Read.j1 (k + 1) s t = some (if 1 ≤ t.size ∧ t.size ≤ 6 then (match Lib.decFrom 0 t.data.toList with | none => (0, false) | some m => finR s t m) else (0, false)) := by
    intro t
    simp only [spec_l1Read.j1, l1In_eq, Option.bind_some]
    by_cases h : 1 ≤ t.size ∧ t.size ≤ 6
    · have hl := read_loop s t h.2 hs t.size k 0 0 (by omega) (by decide) (by omega)
      rw [decide_eq_true (show (1 : Int) ≤ (t.size : Int) ∧ (t.size : Int) ≤ 6 by omega), if_pos rfl, if_pos h]
      exact hl
    · rw [decide_eq_false (show ¬ ((1 : Int) ≤ (t.size : Int) ∧ (t.size : Int) ≤ 6) by omega), if_neg (by simp), if_neg h]
  unfold spec_l1Read.f readV
  by_cases c : (s.size : Int) > 1
  · rw [if_pos c, if_pos (by omega)]
    simp only [spec_l1Read.j0]
    by_cases hb : bt s 0 = 45
    · have e : bodyT s = s.extract 1 s.size := if_pos ⟨by omega, hb⟩
      rw [if_pos (show (bt s 0 == 45) = true by rw [hb]; rfl), if_pos (by omega), j1, e]
    · have e : bodyT s = s := if_neg (fun z => hb z.2)
      rw [if_neg (show ¬ (bt s 0 == 45) = true by simpa using hb), j1, e]
  · have e : bodyT s = s := if_neg (fun z => c (by omega))
    rw [if_neg c]
    simp only [spec_l1Read.j0, Bool.false_eq_true, if_false]
    rw [j1, e]
theorem readV_reads (s : ByteArray) : ReadsAs s (readV s) := by
  constructor
  · intro m h0 h1 e
    have hz : s.size = (Lib.itoa m).length := by rw [← e, size_data]
    have hl := decDigits_len m.natAbs (by omega)
    by_cases h : m < 0
    · have ei : Lib.itoa m = 45 :: Lib.decDigits m.natAbs := if_pos h
      rw [ei] at e hz
      simp only [List.length_cons] at hz
      have hb : bt s 0 = 45 := by
        have := bt_list s 0 (by omega)
        simp only [e, List.getElem_cons_zero] at this
        exact this
      have eb : bodyT s = s.extract 1 s.size := if_pos ⟨by omega, hb⟩
      have hd : (s.extract 1 s.size).data.toList = Lib.decDigits m.natAbs := by
        rw [extract_mk, List.take_of_length_le (Nat.le_of_eq (size_data s)), e]
        simp [mkB]
      have hzt : (s.extract 1 s.size).size = (Lib.decDigits m.natAbs).length := by rw [← hd, size_data]
      unfold readV
      rw [eb, if_pos (by omega), hd, decFrom_digits]
      unfold finR
      have hn : (-(m.natAbs : Int)) = m := by omega
      simp only [hn]
      rw [if_pos (by omega), if_pos ((same_text s m).mpr (by rw [ei]; exact e))]
    · have ei : Lib.itoa m = Lib.decDigits m.natAbs := by unfold Lib.itoa; rw [if_neg h, show m.toNat = m.natAbs by omega]
      rw [ei] at e hz
      obtain ⟨b, r, ed, hb0, hb1⟩ := decDigits_head m.natAbs
      have eb : bodyT s = s := by
        refine if_neg (fun z => ?_)
        have := bt_list s 0 (by omega)
        simp only [e, ed, List.getElem_cons_zero] at this
        have h45 := z.2
        rw [show bt s 0 = ((b.toNat : Nat) : Int) from this] at h45
        omega
      unfold readV
      rw [eb, if_pos (by omega), e, decFrom_digits]
      unfold finR
      have hn : ((m.natAbs : Nat) : Int) = m := by omega
      simp only [hn]
      rw [if_neg (by omega), if_pos ((same_text s m).mpr (by rw [ei]; exact e))]
  · unfold readV
    split
    · rename_i hz
      cases hd : Lib.decFrom 0 (bodyT s).data.toList with
      | none => exact .inl rfl
      | some m =>
        have hlt := Lib.decFrom_lt _ _ _ hd
        rw [size_data] at hlt
        have h6 : (10 : Nat) ^ (bodyT s).size ≤ 10 ^ 6 := Nat.pow_le_pow_right (by decide) hz.2
        have e6 : (10 : Nat) ^ 6 = 1000000 := by decide
        rw [e6] at h6
        simp only
        unfold finR
        split
        · split
          · rename_i c
            exact .inr ⟨_, by omega, by omega, (same_text s _).mp c, rfl⟩
          · exact .inl rfl
        · split
          · rename_i c
            exact .inr ⟨_, by omega, by omega, (same_text s _).mp c, rfl⟩
          · exact .inl rfl
    · exact .inl rfl

theorem specSplitBig_loop (s : ByteArray) (c : UInt8) (hs : s.size ≤ 1048576) (d : Nat) : ∀ (k a b : Nat) (acc : List ByteArray), b + d = s.size → a ≤ b → acc.length + d ≤ 3000000 → d < k →
    spec_l1Split.l0 k s (c.toNat : Int) acc (a : Int) (b : Int) = some (acc ++ (sp c ((s.data.toList.take b).drop a) (s.data.toList.drop b)).map mkB) := by
  induction d with
  | zero =>
    intro k a b acc hb hab ha hk
    obtain ⟨k, rfl⟩ : ∃ m, k = m + 1 := ⟨k - 1, by omega⟩
    have n1 : ¬ (b : Int) < (s.size : Int) := by omega
    have p1 : (0 : Int) ≤ (a : Int) := by omega
    have p2 : (a : Int) ≤ (s.size : Int) := by omega
    have p3 : acc.length < 8796093022208 := by omega
    simp only [spec_l1Split.l0, if_neg n1, if_pos p1, if_pos p2, if_pos p3]
    rw [List.drop_of_length_le (i := b) (by rw [size_data]; omega), extract_mk, Int.toNat_natCast]
    have e : b = s.size := by omega
    subst e
    rfl
  | succ d ih =>
    intro k a b acc hb hab ha hk
    obtain ⟨k, rfl⟩ : ∃ m, k = m + 1 := ⟨k - 1, by omega⟩
    have n1 : (b : Int) < (s.size : Int) := by omega
    have n2 : (b : Int) ≤ (s.size : Int) := by omega
    have p0 : (0 : Int) ≤ (b : Int) := by omega
    have p1 : (0 : Int) ≤ (a : Int) := by omega
    have p2 : (a : Int) ≤ (b : Int) := by omega
    have p3 : acc.length < 8796093022208 := by omega
    have hL : b < s.data.toList.length := by rw [size_data]; omega
    have ew : wrap64 ((b : Int) + 1) = ((b + 1 : Nat) : Int) := (w64 (by omega) (by omega)).trans (by omega)
    have hd := List.drop_eq_getElem_cons hL
    rw [hd]
    have eb := bt_list s b (by omega)
    simp only [spec_l1Split.l0, if_pos n1, if_pos p0, eb, toNat_eq, ew]
    by_cases h : s.data.toList[b] = c
    · simp only [if_pos h, if_pos p1, if_pos p2, if_pos n2, if_pos p3]
      rw [ih k (b + 1) (b + 1) _ (by omega) (by omega) (by simp; omega) (by omega)]
      have e0 : List.drop (b + 1) (List.take (b + 1) s.data.toList) = [] := List.drop_of_length_le (by rw [List.length_take]; omega)
      simp only [sp, if_pos h, e0, extract_mk, Int.toNat_natCast, List.map_cons, List.append_assoc, List.singleton_append]
    · simp only [if_neg h]
      rw [ih k a (b + 1) acc (by omega) (by omega) (by omega) (by omega)]
      have e0 : List.drop a (List.take (b + 1) s.data.toList) = List.drop a (List.take b s.data.toList) ++ [s.data.toList[b]] := by
        rw [List.take_succ_eq_append_getElem hL, List.drop_append_of_le_length (by rw [List.length_take]; omega)]
      simp only [sp, if_neg h, e0]
theorem specSplitBig_eq (s : ByteArray) (c : UInt8) (hs : s.size ≤ 1048576) {k : Nat} (hk : s.size + 1 < k) : spec_l1Split.f k s (c.toNat : Int) = some ((sp c [] s.data.toList).map mkB) := by
  have h := specSplitBig_loop s c hs s.size k 0 0 [] (by omega) (by omega) (by simp; omega) (by omega)
  unfold spec_l1Split.f
  simpa using h

theorem sp_app (c : UInt8) : ∀ (x cur l : List UInt8), c ∉ x → sp c cur (x ++ c :: l) = (cur ++ x) :: sp c [] l
  | [], cur, l, _ => by simp [sp]
  | b :: x, cur, l, h => by
    have hb : b ≠ c := fun e => h (by simp [e])
    have hx : c ∉ x := fun e => h (by simp [e])
    rw [List.cons_append]
    show (if b = c then _ else sp c (cur ++ [b]) (x ++ c :: l)) = _
    rw [if_neg hb, sp_app c x _ l hx, List.append_assoc, List.singleton_append]
theorem sp_last (c : UInt8) : ∀ (x cur : List UInt8), c ∉ x → sp c cur x = [cur ++ x]
  | [], cur, _ => by simp [sp]
  | b :: x, cur, h => by
    have hb : b ≠ c := fun e => h (by simp [e])
    have hx : c ∉ x := fun e => h (by simp [e])
    show (if b = c then _ else sp c (cur ++ [b]) x) = _
    rw [if_neg hb, sp_last c x _ hx, List.append_assoc, List.singleton_append]
theorem splitB_sp (c : UInt8) : ∀ (k : Nat) (s : ByteArray), Lib.countB s ⟨#[c]⟩ ≤ k → Lib.splitB ⟨#[c]⟩ 0 k s = (sp c [] s.data.toList).map mkB
  | k, s, h => by
    rcases Lib.indexB_cases s ⟨#[c]⟩ with hix | ⟨i, hix, hroom⟩
    · rw [Lib.splitB_miss _ _ _ _ hix]
      have e : Lib.indexByte s.data.toList c < 0 := by
        have := Lib.index_one s.data.toList c
        have h2 : Lib.index s.data.toList [c] = -1 := hix
        omega
      rw [idx_none c _ _ e]
      simp [mk_data]
    · have hc := Lib.countB_hit s ⟨#[c]⟩ i (Nat.le_refl 1) hix
      match k, h with
      | 0, h => omega
      | k + 1, h =>
        rw [Lib.splitB_hit _ _ _ _ i hix, splitB_sp c k _ (by omega)]
        have h2 : Lib.index s.data.toList [c] = i := hix
        have e : Lib.indexByte s.data.toList c = (i : Int) := by rw [← Lib.index_one]; exact h2
        have es := (idx_some c s.data.toList [] (by omega)).2
        rw [es, e, Int.toNat_natCast, List.map_cons]
        have e1 : s.extract 0 (i + 0) = mkB ([] ++ List.take i s.data.toList) := by rw [extract_mk]; simp
        have e2 : (s.extract (i + (⟨#[c]⟩ : ByteArray).size) s.size).data.toList = List.drop (i + 1) s.data.toList := by
          rw [extract_mk, List.take_of_length_le (Nat.le_of_eq (size_data s))]
          simp [mkB]; rfl
        rw [e1, e2]
theorem dec_range (u : Nat) : ∀ b ∈ Lib.decDigits u, 48 ≤ b.toNat ∧ b.toNat ≤ 57 := by
  have dig : ∀ d : Fin 10, (UInt8.ofNat (48 + d.val)).toNat = 48 + d.val := by decide
  induction u using Nat.strongRecOn with
  | ind u ih =>
    intro b hb
    by_cases h : u < 10
    · rw [Lib.decDigits_one h, List.mem_singleton] at hb
      have := dig ⟨u, h⟩
      rw [hb, this]
      simp only; omega
    · rw [Lib.decDigits, dif_neg h] at hb
      rcases List.mem_append.mp hb with hb | hb
      · exact ih (u / 10) (by omega) b hb
      · rw [List.mem_singleton] at hb
        have := dig ⟨u % 10, by omega⟩
        rw [hb, this]
        simp only; omega
theorem itoa_no (c : UInt8) (hc : c.toNat < 45) (n : Int) : c ∉ Lib.itoa n := by
  intro h
  unfold Lib.itoa at h
  split at h
  · rcases List.mem_cons.mp h with h | h
    · rw [h] at hc; exact absurd hc (by decide)
    · have := dec_range _ c h; omega
  · have := dec_range _ c h; omega
theorem itoa_no45 (n : Int) (h0 : 0 ≤ n) : (45 : UInt8) ∉ Lib.itoa n := by
  intro h
  unfold Lib.itoa at h
  rw [if_neg (by omega)] at h
  have := dec_range _ _ h
  exact absurd this.1 (by decide)

theorem three (u : Nat) (h : u ≤ 999) : 1 ≤ (Lib.decDigits u).length ∧ (Lib.decDigits u).length ≤ 3 := by
  rw [Lib.decDigits_length]
  exact ⟨Lib.nDigits_pos u, nDigits_le 2 u (by omega)⟩
theorem itoa_three (n : Int) (h0 : -999 ≤ n) (h1 : n ≤ 999) : 1 ≤ (Lib.itoa n).length ∧ (Lib.itoa n).length ≤ 4 := by
  unfold Lib.itoa
  split
  · have := three n.natAbs (by omega)
    rw [List.length_cons, show n.natAbs = n.natAbs from rfl]
    omega
  · have := three n.toNat (by omega)
    omega
theorem legT_data (a b c d e : Int) : (legT a b c d e).data.toList = [108, 101, 103] ++ 32 :: ((Lib.itoa a ++ 45 :: Lib.itoa b) ++ 32 :: ([116, 97, 112, 101] ++ 32 :: (Lib.itoa c ++ 32 :: ([99, 111, 109, 112, 97, 115, 115] ++ 32 :: (Lib.itoa d ++ 32 :: ([115, 108, 111, 112, 101] ++ 32 :: Lib.itoa e)))))) := by
  unfold legT
  simp only [ByteArray.data_append, Array.toList_append, numT_data]
  simp
theorem legT_words (a b c d e : Int) : sp 32 [] (legT a b c d e).data.toList = [[108, 101, 103], Lib.itoa a ++ 45 :: Lib.itoa b, [116, 97, 112, 101], Lib.itoa c, [99, 111, 109, 112, 97, 115, 115], Lib.itoa d, [115, 108, 111, 112, 101], Lib.itoa e] := by
  have no := itoa_no 32 (by decide)
  rw [legT_data, sp_app 32 _ _ _ (by decide), sp_app 32 _ _ _ (by
    intro h
    rcases List.mem_append.mp h with h | h
    · exact no a h
    · rcases List.mem_cons.mp h with h | h
      · exact absurd h (by decide)
      · exact no b h), sp_app 32 _ _ _ (by decide), sp_app 32 _ _ _ (no c), sp_app 32 _ _ _ (by decide), sp_app 32 _ _ _ (no d), sp_app 32 _ _ _ (by decide), sp_last 32 _ _ (no e)]
  rfl
theorem legT_size (a b c d e : Int) (ha : 0 ≤ a ∧ a ≤ 999) (hb : 0 ≤ b ∧ b ≤ 999) (hc : 0 ≤ c ∧ c ≤ 999) (hd : 0 ≤ d ∧ d ≤ 999) (he : -999 ≤ e ∧ e ≤ 999) : (legT a b c d e).size ≤ 60 := by
  have h := congrArg List.length (legT_data a b c d e)
  rw [size_data] at h
  have la := itoa_three a (by omega) (by omega)
  have lb := itoa_three b (by omega) (by omega)
  have lc := itoa_three c (by omega) (by omega)
  have ld := itoa_three d (by omega) (by omega)
  have le := itoa_three e (by omega) (by omega)
  simp only [List.length_append, List.length_cons, List.length_nil] at h
  omega
theorem idx_app (c : UInt8) : ∀ (x y : List UInt8), c ∉ x → Lib.indexByte (x ++ c :: y) c = x.length
  | [], y, _ => by simp [Lib.indexByte]
  | b :: x, y, h => by
    have hb : (b == c) = false := beq_eq_false_iff_ne.mpr (fun e => h (by simp [e]))
    have ih := idx_app c x y (fun e => h (by simp [e]))
    rw [List.cons_append]
    unfold Lib.indexByte
    rw [hb, ih]
    have : ((x.length : Int) == -1) = false := beq_eq_false_iff_ne.mpr (by omega)
    simp [this]
theorem read_num (n : Int) (h0 : -999999 ≤ n) (h1 : n ≤ 999999) : readV (mkB (Lib.itoa n)) = (n, true) := (readV_reads (mkB (Lib.itoa n))).hit n h0 h1 (by simp [mkB])
theorem parse_readV (w : ByteArray) (h : w.size ≤ 1048576) : impl_ParseInt.f w = some (readV w) := by
  obtain ⟨v, e, hv⟩ := implRead_eq w (by omega)
  rw [e, hv.same (readV_reads w)]
/-- What parseInts answers. -/
def parseL : List ByteArray → List Int → List Int × Bool
  | [], acc => (acc, true)
  | w :: ws, acc => if (readV w).2 = true then parseL ws (acc ++ [(readV w).1]) else ([], false)
theorem parseL_len : ∀ (ws : List ByteArray) (acc : List Int), (parseL ws acc).2 = true → (parseL ws acc).1.length = acc.length + ws.length
  | [], acc, _ => rfl
  | w :: ws, acc, h => by
    simp only [parseL] at h ⊢
    split at h
    · rename_i c
      rw [if_pos c, parseL_len ws _ h]
      simp; omega
    · cases h
theorem parse_loop (L : List ByteArray) (hL : L.length ≤ 1000) (hs : ∀ w ∈ L, w.size ≤ 1048576) (d : Nat) : ∀ (k i : Nat) (acc : List Int), i + d = L.length → d < k → acc.length ≤ 1000 + i → impl_parseInts.l0 k acc L (L.length : Int) (i : Int) = some (parseL (L.drop i) acc) := by
  induction d with
  | zero =>
    intro k i acc hi hk _
    obtain ⟨k, rfl⟩ : ∃ m, k = m + 1 := ⟨k - 1, by omega⟩
    have c1 : ¬ (i : Int) < (L.length : Int) := by omega
    rw [List.drop_of_length_le (by omega)]
    simp only [impl_parseInts.l0, if_neg c1, parseL]
  | succ d ih =>
    intro k i acc hi hk ha
    obtain ⟨k, rfl⟩ : ∃ m, k = m + 1 := ⟨k - 1, by omega⟩
    have hl : i < L.length := by omega
    have c1 : (i : Int) < (L.length : Int) := by omega
    have c2 : 0 ≤ (i : Int) := by omega
    have c3 : acc.length < 17592186044416 := by omega
    have ew : wrap64 ((i : Int) + 1) = ((i + 1 : Nat) : Int) := (w64 (by omega) (by omega)).trans (by omega)
    have er : rdOf ByteArray.empty L (i : Int) = L[i] := by simp [rdOf, hl]
    have ih := ih k (i + 1) (acc ++ [(readV L[i]).1]) (by omega) (by omega) (by simp; omega)
    rw [List.drop_eq_getElem_cons hl]
    simp only [impl_parseInts.l0, if_pos c1, if_pos c2, er, parse_readV L[i] (hs _ (List.getElem_mem hl)), Option.bind_some, parseL, if_pos c3, ew, ih]
    split <;> rfl
theorem parse_eq (L : List ByteArray) (hL : L.length ≤ 1000) (hs : ∀ w ∈ L, w.size ≤ 1048576) {k : Nat} (hk : L.length < k) : impl_parseInts.f k L = some (parseL L []) := by
  have := parse_loop L hL hs L.length k 0 [] (by omega) hk (by simp)
  unfold impl_parseInts.f
  simpa using this
theorem sp_sizes (c : UInt8) : ∀ (l cur : List UInt8), ∀ w ∈ sp c cur l, w.length ≤ cur.length + l.length
  | [], cur, w, h => by simp [sp] at h; rw [h]; simp
  | b :: l, cur, w, h => by
    unfold sp at h
    split at h
    · rcases List.mem_cons.mp h with h | h
      · rw [h]; simp
      · have := sp_sizes c l [] w h; simp at this ⊢; omega
    · have := sp_sizes c l (cur ++ [b]) w h; simp at this ⊢; omega
theorem mkB_size (l : List UInt8) : (mkB l).size = l.length := by simp [mkB, ByteArray.size]
theorem mkB_data (l : List UInt8) : (mkB l).data.toList = l := by simp [mkB]
theorem words_small (s : ByteArray) (hs : s.size ≤ 1048576) : ∀ w ∈ (sp 32 [] s.data.toList).map mkB, w.size ≤ 1048576 := by
  intro w hw
  obtain ⟨l, hl, rfl⟩ := List.mem_map.mp hw
  have := sp_sizes 32 _ _ l hl
  rw [size_data] at this
  rw [mkB_size]
  simp at this; omega
theorem rdOf_mem (L : List ByteArray) (i : Int) (h0 : 0 ≤ i) (h1 : i < (L.length : Int)) : rdOf ByteArray.empty L i ∈ L := by
  have hl : i.toNat < L.length := by omega
  simp [rdOf, hl]
theorem implSplit_eq (s : ByteArray) (hs : s.size ≤ 1048576) : strings_Split.f s (⟨#[32]⟩ : ByteArray) = some ((sp 32 [] s.data.toList).map mkB) := by
  have e : strings_Split.f s (⟨#[32]⟩ : ByteArray) = if s.size < 4294967281 then some (Lib.splitB ⟨#[32]⟩ 0 (Lib.countB s ⟨#[32]⟩) s) else none := rfl
  rw [e, if_pos (by omega), splitB_sp 32 _ s (Nat.le_refl _)]
theorem cut_eq (s : ByteArray) (hs : s.size ≤ 1048576) : strings_Cut.f s (⟨#[45]⟩ : ByteArray) = some (strings_Cut.at s 45) := by
  have e : strings_Cut.f s (⟨#[45]⟩ : ByteArray) = if s.size ≤ 9223372036854775806 then some (strings_Cut.at s 45) else none := rfl
  rw [e, if_pos (by omega)]
theorem same_bytes (a b : ByteArray) (h : a.toList = b.toList) : a = b := by
  rw [Lib.toList_data, Lib.toList_data] at h
  exact bytes_ext a b h
theorem vLeg_rng {a b c d e : Int} (h : vLeg a b c d e = true) : (0 ≤ a ∧ a ≤ 999) ∧ (0 ≤ b ∧ b ≤ 999) ∧ (0 ≤ c ∧ c ≤ 999) ∧ (0 ≤ d ∧ d ≤ 999) ∧ (-999 ≤ e ∧ e ≤ 999) := by
  have h' : _ ∧ _ := of_decide_eq_true h
  refine ⟨⟨by omega, by omega⟩, ⟨by omega, by omega⟩, ⟨by omega, by omega⟩, ⟨by omega, by omega⟩, by omega, by omega⟩
/-- At the text of a leg both find it. -/
theorem parse_yes (a b c d e : Int) (h : vLeg a b c d e = true) (s : ByteArray) (hs : s = legT a b c d e) : (∀ k, 3000000 < k → spec_ParseLeg.f k s = some (a, b, c, d, e, true)) ∧ (∀ k, 3000000 < k → impl_ParseLeg.f k s = some (a, b, c, d, e, true)) := by
  obtain ⟨ha, hb, hc, hd, he⟩ := vLeg_rng h
  have hz : s.size ≤ 60 := by rw [hs]; exact legT_size a b c d e ha hb hc hd he
  have hw : (sp 32 [] s.data.toList).map mkB = [mkB [108, 101, 103], mkB (Lib.itoa a ++ 45 :: Lib.itoa b), mkB [116, 97, 112, 101], mkB (Lib.itoa c), mkB [99, 111, 109, 112, 97, 115, 115], mkB (Lib.itoa d), mkB [115, 108, 111, 112, 101], mkB (Lib.itoa e)] := by rw [hs, legT_words]; rfl
  have la := itoa_three a (by omega) (by omega)
  have lb := itoa_three b (by omega) (by omega)
  have le := itoa_three e (by omega) (by omega)
  have hends : (sp 45 [] (mkB (Lib.itoa a ++ 45 :: Lib.itoa b)).data.toList).map mkB = [mkB (Lib.itoa a), mkB (Lib.itoa b)] := by
    rw [mkB_data, sp_app 45 _ _ _ (itoa_no45 a ha.1), sp_last 45 _ _ (itoa_no45 b hb.1)]; rfl
  have hsz : (mkB (Lib.itoa a ++ 45 :: Lib.itoa b)).size ≤ 1048576 := by rw [mkB_size]; simp; omega
  have ra := read_num a (by omega) (by omega)
  have rb := read_num b (by omega) (by omega)
  have rc := read_num c (by omega) (by omega)
  have rd_ := read_num d (by omega) (by omega)
  have re := read_num e (by omega) (by omega)
  have small : ∀ n : Int, -999 ≤ n → n ≤ 999 → (mkB (Lib.itoa n)).size ≤ 140737488351232 := fun n h0 h1 => by rw [mkB_size]; have := itoa_three n h0 h1; omega
  constructor
  · intro k hk
    obtain ⟨k, rfl⟩ : ∃ m, k = m + 2 := ⟨k - 2, by omega⟩
    have e1 : spec_l1Split.f (k + 2) s 32 = _ := specSplitBig_eq s 32 (by omega) (k := k + 2) (by omega)
    have e2 : spec_l1Split.f (k + 1) (mkB (Lib.itoa a ++ 45 :: Lib.itoa b)) 45 = _ := specSplitBig_eq (mkB (Lib.itoa a ++ 45 :: Lib.itoa b)) 45 hsz (k := k + 1) (by omega)
    rw [hw] at e1
    rw [hends] at e2
    have rr : ∀ n : Int, -999 ≤ n → n ≤ 999 → spec_l1Read.f (k + 1) (mkB (Lib.itoa n)) = some (readV (mkB (Lib.itoa n))) := fun n h0 h1 => specRead_eq _ (small n h0 h1) (by omega)
    have j1 : ∀ x4 : Int, x4 = e → spec_ParseLeg.j1 (k + 1) s a b c d x4 = some (a, b, c, d, e, true) := by
      intro x4 hx
      subst hx
      simp only [spec_ParseLeg.j1, l4Leg_eq, h, Option.bind_some, if_true, l4Text_eq a b c d x4 ha hb hc hd he (show 1001 < k by omega)]
      rw [if_pos (by rw [hs])]
    have ne : ((mkB (Lib.itoa e)).toList == ([] : List UInt8)) = false := by
      rw [Lib.toList_data, mkB_data]
      cases hq : Lib.itoa e with
      | nil => rw [hq] at le; simp at le
      | cons x y => rfl
    unfold spec_ParseLeg.f
    rw [e1]
    simp only [Option.bind_some]
    rw [if_neg (by omega)]
    simp only [List.length_cons, List.length_nil]
    rw [if_pos (by decide), if_pos (by decide)]
    have r7 : rdOf ByteArray.empty [mkB [108, 101, 103], mkB (Lib.itoa a ++ 45 :: Lib.itoa b), mkB [116, 97, 112, 101], mkB (Lib.itoa c), mkB [99, 111, 109, 112, 97, 115, 115], mkB (Lib.itoa d), mkB [115, 108, 111, 112, 101], mkB (Lib.itoa e)] 7 = mkB (Lib.itoa e) := rfl
    rw [r7, ne]
    simp only [spec_ParseLeg.j0, Bool.false_eq_true, if_false, List.length_cons, List.length_nil]
    have r1 : rdOf ByteArray.empty [mkB [108, 101, 103], mkB (Lib.itoa a ++ 45 :: Lib.itoa b), mkB [116, 97, 112, 101], mkB (Lib.itoa c), mkB [99, 111, 109, 112, 97, 115, 115], mkB (Lib.itoa d), mkB [115, 108, 111, 112, 101], mkB (Lib.itoa e)] 1 = mkB (Lib.itoa a ++ 45 :: Lib.itoa b) := rfl
    have r3 : rdOf ByteArray.empty [mkB [108, 101, 103], mkB (Lib.itoa a ++ 45 :: Lib.itoa b), mkB [116, 97, 112, 101], mkB (Lib.itoa c), mkB [99, 111, 109, 112, 97, 115, 115], mkB (Lib.itoa d), mkB [115, 108, 111, 112, 101], mkB (Lib.itoa e)] 3 = mkB (Lib.itoa c) := rfl
    have r5 : rdOf ByteArray.empty [mkB [108, 101, 103], mkB (Lib.itoa a ++ 45 :: Lib.itoa b), mkB [116, 97, 112, 101], mkB (Lib.itoa c), mkB [99, 111, 109, 112, 97, 115, 115], mkB (Lib.itoa d), mkB [115, 108, 111, 112, 101], mkB (Lib.itoa e)] 5 = mkB (Lib.itoa d) := rfl
    have q0 : rdOf ByteArray.empty [mkB (Lib.itoa a), mkB (Lib.itoa b)] 0 = mkB (Lib.itoa a) := rfl
    have q1 : rdOf ByteArray.empty [mkB (Lib.itoa a), mkB (Lib.itoa b)] 1 = mkB (Lib.itoa b) := rfl
    rw [if_pos (by decide), r1, e2]
    simp only [Option.bind_some, List.length_cons, List.length_nil, r3, r5, r7, q0, q1, rr a (by omega) (by omega), rr b (by omega) (by omega), rr c (by omega) (by omega), rr d (by omega) (by omega), ra, rb, rc, rd_]
    have l7 : (0 : Int) < ((mkB (Lib.itoa e)).size : Int) := by rw [mkB_size]; omega
    rw [if_pos (by decide), if_pos (by decide), if_pos (by decide), if_pos (by decide), if_pos (by decide), if_pos (by decide), if_pos l7]
    by_cases hn : e < 0
    · have ei : Lib.itoa e = 45 :: Lib.decDigits e.natAbs := if_pos hn
      have hb0 : bt (mkB (Lib.itoa e)) 0 = 45 := by
        have := bt_list (mkB (Lib.itoa e)) 0 (by omega)
        have h2 : (mkB (Lib.itoa e)).data.toList[0]'(by rw [size_data]; omega) = 45 := by simp [mkB_data, ei]
        rw [h2] at this
        exact this
      have hx : (mkB (Lib.itoa e)).extract 1 (mkB (Lib.itoa e)).size = mkB (Lib.itoa (-e)) := by
        rw [extract_mk, List.take_of_length_le (Nat.le_of_eq (size_data _)), mkB_data, ei]
        have : Lib.itoa (-e) = Lib.decDigits e.natAbs := by unfold Lib.itoa; rw [if_neg (by omega), show (-e).toNat = e.natAbs by omega]
        rw [this]; rfl
      have rn := read_num (-e) (by omega) (by omega)
      rw [if_pos hb0, if_pos (by omega), hx, rr (-e) (by omega) (by omega), rn]
      simp only [Option.bind_some]
      exact j1 _ ((w64 (by omega) (by omega)).trans (by omega))
    · have hb0 : ¬ bt (mkB (Lib.itoa e)) 0 = 45 := by
        intro hq
        have ei : Lib.itoa e = Lib.decDigits e.natAbs := by unfold Lib.itoa; rw [if_neg hn, show e.toNat = e.natAbs by omega]
        obtain ⟨b, r, ed, hb0, hb1⟩ := decDigits_head e.natAbs
        have := bt_list (mkB (Lib.itoa e)) 0 (by omega)
        have h2 : (mkB (Lib.itoa e)).data.toList[0]'(by rw [size_data]; omega) = b := by simp [mkB_data, ei, ed]
        rw [h2] at this
        rw [show bt (mkB (Lib.itoa e)) 0 = ((b.toNat : Nat) : Int) from this] at hq
        omega
      rw [if_neg hb0, rr e (by omega) (by omega), re]
      simp only [Option.bind_some]
      exact j1 _ rfl
  · intro k hk
    have ct : strings_Cut.at (mkB (Lib.itoa a ++ 45 :: Lib.itoa b)) 45 = (mkB (Lib.itoa a), mkB (Lib.itoa b), true) := by
      have hi : Lib.indexByte (mkB (Lib.itoa a ++ 45 :: Lib.itoa b)).data.toList 45 = (Lib.itoa a).length := by rw [mkB_data]; exact idx_app 45 _ _ (itoa_no45 a ha.1)
      unfold strings_Cut.at
      rw [hi, if_pos (by omega), Int.toNat_natCast, extract_mk, extract_mk, List.take_of_length_le (Nat.le_of_eq (size_data _)), mkB_data]
      simp
    unfold impl_ParseLeg.f
    rw [implSplit_eq s (by omega), hw]
    simp only [Option.bind_some, List.length_cons, List.length_nil]
    have r1 : rdOf ByteArray.empty [mkB [108, 101, 103], mkB (Lib.itoa a ++ 45 :: Lib.itoa b), mkB [116, 97, 112, 101], mkB (Lib.itoa c), mkB [99, 111, 109, 112, 97, 115, 115], mkB (Lib.itoa d), mkB [115, 108, 111, 112, 101], mkB (Lib.itoa e)] 1 = mkB (Lib.itoa a ++ 45 :: Lib.itoa b) := rfl
    have r3 : rdOf ByteArray.empty [mkB [108, 101, 103], mkB (Lib.itoa a ++ 45 :: Lib.itoa b), mkB [116, 97, 112, 101], mkB (Lib.itoa c), mkB [99, 111, 109, 112, 97, 115, 115], mkB (Lib.itoa d), mkB [115, 108, 111, 112, 101], mkB (Lib.itoa e)] 3 = mkB (Lib.itoa c) := rfl
    have r5 : rdOf ByteArray.empty [mkB [108, 101, 103], mkB (Lib.itoa a ++ 45 :: Lib.itoa b), mkB [116, 97, 112, 101], mkB (Lib.itoa c), mkB [99, 111, 109, 112, 97, 115, 115], mkB (Lib.itoa d), mkB [115, 108, 111, 112, 101], mkB (Lib.itoa e)] 5 = mkB (Lib.itoa d) := rfl
    have r7 : rdOf ByteArray.empty [mkB [108, 101, 103], mkB (Lib.itoa a ++ 45 :: Lib.itoa b), mkB [116, 97, 112, 101], mkB (Lib.itoa c), mkB [99, 111, 109, 112, 97, 115, 115], mkB (Lib.itoa d), mkB [115, 108, 111, 112, 101], mkB (Lib.itoa e)] 7 = mkB (Lib.itoa e) := rfl
    have tiny : ∀ n : Int, -999 ≤ n → n ≤ 999 → (mkB (Lib.itoa n)).size ≤ 1048576 := fun n h0 h1 => by rw [mkB_size]; have := itoa_three n h0 h1; omega
    have hp : impl_parseInts.f k [mkB (Lib.itoa a), mkB (Lib.itoa b), mkB (Lib.itoa c), mkB (Lib.itoa d), mkB (Lib.itoa e)] = some ([a, b, c, d, e], true) := by
      rw [parse_eq _ (by simp) (by
        intro w hw
        simp only [List.mem_cons, List.not_mem_nil, or_false] at hw
        rcases hw with rfl | rfl | rfl | rfl | rfl
        · exact tiny a (by omega) (by omega)
        · exact tiny b (by omega) (by omega)
        · exact tiny c (by omega) (by omega)
        · exact tiny d (by omega) (by omega)
        · exact tiny e (by omega) (by omega)) (by simp; omega)]
      simp [parseL, ra, rb, rc, rd_, re]
    rw [if_pos (by decide), if_pos (by decide), r1, cut_eq _ hsz, ct]
    simp only [Option.bind_some]
    rw [if_pos (by decide), if_pos (by decide), if_pos (by decide), r3, r5, r7, hp]
    simp only [Option.bind_some, if_true, List.length_cons, List.length_nil]
    rw [if_pos (by decide), if_pos (by decide), if_pos (by decide), if_pos (by decide), if_pos (by decide)]
    have x0 : rd [a, b, c, d, e] 0 = a := rfl
    have x1 : rd [a, b, c, d, e] 1 = b := rfl
    have x2 : rd [a, b, c, d, e] 2 = c := rfl
    have x3 : rd [a, b, c, d, e] 3 = d := rfl
    have x4 : rd [a, b, c, d, e] 4 = e := rfl
    rw [x0, x1, x2, x3, x4, isLeg_eq, h]
    simp only [Option.bind_some, if_true, legText_eq a b c d e ha hb hc hd he]
    rw [if_pos (by rw [hs])]
/-- At another text neither does. -/
theorem parse_no (s : ByteArray) (hsz : s.size ≤ 1048576) (hno : ∀ a b c d e, vLeg a b c d e = true → s ≠ legT a b c d e) : (∀ k, 3000000 < k → spec_ParseLeg.f k s = some (0, 0, 0, 0, 0, false)) ∧ (∀ k, 3000000 < k → impl_ParseLeg.f k s = some (0, 0, 0, 0, 0, false)) := by
  have hsm := words_small s hsz
  generalize hW : (sp 32 [] s.data.toList).map mkB = W at hsm
  constructor
  · intro k hk
    obtain ⟨k, rfl⟩ : ∃ m, k = m + 2 := ⟨k - 2, by omega⟩
    have e1 : spec_l1Split.f (k + 2) s 32 = _ := specSplitBig_eq s 32 (by omega) (k := k + 2) (by omega)
    rw [hW] at e1
    have j1 : ∀ x0 x1 x2 x3 x4 : Int, spec_ParseLeg.j1 (k + 1) s x0 x1 x2 x3 x4 = some (0, 0, 0, 0, 0, false) := by
      intro x0 x1 x2 x3 x4
      simp only [spec_ParseLeg.j1, l4Leg_eq, Option.bind_some]
      by_cases hv : vLeg x0 x1 x2 x3 x4 = true
      · obtain ⟨ha, hb, hc, hd, he⟩ := vLeg_rng hv
        rw [if_pos hv, l4Text_eq x0 x1 x2 x3 x4 ha hb hc hd he (show 1001 < k by omega)]
        simp only [Option.bind_some]
        rw [if_neg (fun hq => hno _ _ _ _ _ hv (same_bytes _ _ hq).symm)]
      · rw [if_neg hv]
    have j0t : spec_ParseLeg.j0 (k + 2) s W true = some (0, 0, 0, 0, 0, false) := by simp only [spec_ParseLeg.j0, if_true]
    unfold spec_ParseLeg.f
    rw [e1]
    simp only [Option.bind_some]
    by_cases c1 : (s.size : Int) > 60
    · rw [if_pos c1]; exact j0t
    rw [if_neg c1]
    by_cases c2 : (W.length : Int) = 8
    · rw [if_pos c2, if_pos (by omega)]
      cases c3 : ((rdOf ByteArray.empty W 7).toList == ([] : List UInt8)) with
      | true => exact j0t
      | false =>
        have rr : ∀ w : ByteArray, w.size ≤ 1048576 → spec_l1Read.f (k + 1) w = some (readV w) := fun w hw => specRead_eq w (by omega) (by omega)
        have m1 := hsm _ (rdOf_mem W 1 (by omega) (by omega))
        have m3 := hsm _ (rdOf_mem W 3 (by omega) (by omega))
        have m5 := hsm _ (rdOf_mem W 5 (by omega) (by omega))
        have m7 := hsm _ (rdOf_mem W 7 (by omega) (by omega))
        have e2 : spec_l1Split.f (k + 1) (rdOf ByteArray.empty W 1) 45 = _ := specSplitBig_eq (rdOf ByteArray.empty W 1) 45 m1 (k := k + 1) (by omega)
        have hsm2 : ∀ w ∈ (sp 45 [] (rdOf ByteArray.empty W 1).data.toList).map mkB, w.size ≤ 1048576 := by
          intro w hw
          obtain ⟨l, hl, rfl⟩ := List.mem_map.mp hw
          have := sp_sizes 45 _ _ l hl
          rw [size_data] at this
          rw [mkB_size]
          simp at this; omega
        generalize (sp 45 [] (rdOf ByteArray.empty W 1).data.toList).map mkB = E at e2 hsm2
        have l7 : (0 : Int) < ((rdOf ByteArray.empty W 7).size : Int) := by
          have hne : ¬ (rdOf ByteArray.empty W 7).toList = [] := by simpa using c3
          rw [Lib.toList_data] at hne
          have := List.length_pos_iff.mpr hne
          rw [size_data] at this
          omega
        simp only [spec_ParseLeg.j0, Bool.false_eq_true, if_false]
        rw [if_pos (by omega), e2]
        simp only [Option.bind_some]
        by_cases c4 : (E.length : Int) = 2
        · rw [if_pos c4, if_pos (by omega), rr _ (hsm2 _ (rdOf_mem E 0 (by omega) (by omega)))]
          simp only [Option.bind_some]
          rw [if_pos (by omega), rr _ (hsm2 _ (rdOf_mem E 1 (by omega) (by omega)))]
          simp only [Option.bind_some]
          rw [if_pos (by omega), rr _ m3]
          simp only [Option.bind_some]
          rw [if_pos (by omega), rr _ m5]
          simp only [Option.bind_some]
          rw [if_pos (by omega), if_pos l7]
          by_cases c5 : bt (rdOf ByteArray.empty W 7) 0 = 45
          · rw [if_pos c5, if_pos (by omega), rr _ (by rw [ByteArray.size_extract]; omega)]
            simp only [Option.bind_some]
            exact j1 _ _ _ _ _
          · rw [if_neg c5, rr _ m7]
            simp only [Option.bind_some]
            exact j1 _ _ _ _ _
        · rw [if_neg c4]
    · rw [if_neg c2]; exact j0t
  · intro k hk
    unfold impl_ParseLeg.f
    rw [implSplit_eq s hsz, hW]
    simp only [Option.bind_some]
    by_cases c2 : (W.length : Int) = 8
    · have m1 := hsm _ (rdOf_mem W 1 (by omega) (by omega))
      have m3 := hsm _ (rdOf_mem W 3 (by omega) (by omega))
      have m5 := hsm _ (rdOf_mem W 5 (by omega) (by omega))
      have m7 := hsm _ (rdOf_mem W 7 (by omega) (by omega))
      rw [if_pos c2, if_pos (by omega), cut_eq _ m1]
      simp only [Option.bind_some]
      have z1 : (strings_Cut.at (rdOf ByteArray.empty W 1) 45).1.size ≤ 1048576 := by
        unfold strings_Cut.at
        split
        · simp only; rw [ByteArray.size_extract]; omega
        · exact m1
      have z2 : (strings_Cut.at (rdOf ByteArray.empty W 1) 45).2.1.size ≤ 1048576 := by
        unfold strings_Cut.at
        split
        · simp only; rw [ByteArray.size_extract]; omega
        · exact Nat.zero_le _
      rw [if_pos (by omega), if_pos (by omega), if_pos (by omega)]
      have hp := parse_eq [(strings_Cut.at (rdOf ByteArray.empty W 1) 45).1, (strings_Cut.at (rdOf ByteArray.empty W 1) 45).2.1, rdOf ByteArray.empty W 3, rdOf ByteArray.empty W 5, rdOf ByteArray.empty W 7] (by simp) (by
        intro w hw
        simp only [List.mem_cons, List.not_mem_nil, or_false] at hw
        rcases hw with rfl | rfl | rfl | rfl | rfl
        · exact z1
        · exact z2
        · exact m3
        · exact m5
        · exact m7) (k := k) (by simp; omega)
      have hl := parseL_len [(strings_Cut.at (rdOf ByteArray.empty W 1) 45).1, (strings_Cut.at (rdOf ByteArray.empty W 1) 45).2.1, rdOf ByteArray.empty W 3, rdOf ByteArray.empty W 5, rdOf ByteArray.empty W 7] []
      rw [hp]
      generalize parseL [(strings_Cut.at (rdOf ByteArray.empty W 1) 45).1, (strings_Cut.at (rdOf ByteArray.empty W 1) 45).2.1, rdOf ByteArray.empty W 3, rdOf ByteArray.empty W 5, rdOf ByteArray.empty W 7] [] = R at hl
      simp only [Option.bind_some]
      by_cases c3 : R.2 = true
      · have hl := hl c3
        simp only [List.length_cons, List.length_nil] at hl
        rw [if_pos c3, if_pos (by omega), if_pos (by omega), if_pos (by omega), if_pos (by omega), if_pos (by omega), isLeg_eq]
        simp only [Option.bind_some]
        by_cases hv : vLeg (rd R.1 0) (rd R.1 1) (rd R.1 2) (rd R.1 3) (rd R.1 4) = true
        · obtain ⟨ha, hb, hc, hd, he⟩ := vLeg_rng hv
          rw [if_pos hv, legText_eq _ _ _ _ _ ha hb hc hd he]
          simp only [Option.bind_some]
          rw [if_neg (fun hq => hno _ _ _ _ _ hv (same_bytes _ _ hq).symm)]
        · rw [if_neg hv]
      · rw [if_neg c3]
    · rw [if_neg c2]
theorem FnExactParseLeg : Asked := by
  intro s hs
  refine ⟨3000001, ?_⟩
  generalize hK : 3000001 = K
  unfold laws_FnExactParseLeg.f
  by_cases c : (s.size : Int) > 1048576
  · rw [if_pos c]
  rw [if_neg c]
  by_cases hy : ∃ a b c d e, vLeg a b c d e = true ∧ s = legT a b c d e
  · obtain ⟨a, b, c, d, e, hv, he⟩ := hy
    obtain ⟨h1, h2⟩ := parse_yes a b c d e hv s he
    rw [h1 K (by omega), h2 K (by omega)]
    unfold laws_eqLeg.f
    simp
  · obtain ⟨h1, h2⟩ := parse_no s (by omega) (fun a b c d e hv he => hy ⟨a, b, c, d, e, hv, he⟩)
    rw [h1 K (by omega), h2 K (by omega)]
    unfold laws_eqLeg.f
    simp
end Go.Proofs.YtcmccjiimiomhaaDoor.Pure
