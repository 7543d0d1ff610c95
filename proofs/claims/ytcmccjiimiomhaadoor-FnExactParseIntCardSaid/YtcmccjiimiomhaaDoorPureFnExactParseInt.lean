/- The pure statement of the law of ParseInt: true for every string; no condition but its reach. -/
import Derived.Test.YtcmccjiimiomhaaDoorAskFnExactParseInt
import Derived.Lib.ItoaLen
namespace Go.Proofs.YtcmccjiimiomhaaDoor.Pure
open Go.RowKit Go.Proofs.YtcmccjiimiomhaaDoor.XFnExactParseInt Go.Proofs.YtcmccjiimiomhaaDoor.AskFnExactParseInt Go.Proofs.YtcmccjiimiomhaaDoorW.PrintWords Go.Proofs.YtcmccjiimiomhaaDoorW.PrintLast
set_option linter.unusedVariables false
set_option linter.unusedSimpArgs false

theorem w64 {x : Int} (h0 : -9223372036854775808 ≤ x) (h1 : x ≤ 9223372036854775807) : wrap64 x = x := by
  unfold wrap64
  omega

theorem td {x y : Int} (h : 0 ≤ x) : Int.tdiv x y = x / y := Int.tdiv_eq_ediv_of_nonneg h
theorem tm {x y : Int} (h : 0 ≤ x) : Int.tmod x y = x % y := Int.tmod_eq_emod_of_nonneg h

/-- The decimal text of a whole number. -/
def numT (n : Int) : ByteArray := ⟨(Lib.itoa n).toArray⟩
theorem numT_data (n : Int) : (numT n).data.toList = Lib.itoa n := by simp [numT]
theorem piece10 : ∀ i : Fin 10, ((⟨#[48, 49, 50, 51, 52, 53, 54, 55, 56, 57]⟩ : ByteArray).extract i.val (i.val + 1)).data.toList = [UInt8.ofNat (48 + i.val)] := by decide +kernel
theorem bytes_ext (a b : ByteArray) (h : a.data.toList = b.data.toList) : a = b := by
  apply ByteArray.ext
  exact Array.toList_inj.mp h
theorem decDigits_le (n : Nat) (h : n ≤ 9223372036854775807) : (Lib.decDigits n).length ≤ 20 := by
  rw [Lib.decDigits_length]
  exact Lib.nDigits_le20 n (by omega)
theorem num_nat (n : Nat) : ∀ k : Nat, n ≤ 9223372036854775806 → n < k → spec_l1Num.f k (n : Int) = some ⟨(Lib.decDigits n).toArray⟩ := by
  induction n using Nat.strongRecOn with
  | ind n ih =>
    intro k hn hk
    obtain ⟨k, rfl⟩ : ∃ m, k = m + 1 := ⟨k - 1, by omega⟩
    have c0 : ¬ (n : Int) < 0 := by omega
    simp only [spec_l1Num.f, if_neg c0]
    by_cases h10 : n < 10
    · have e1 : wrap64 ((n : Int) + 1) = ((n + 1 : Nat) : Int) := (w64 (by omega) (by omega)).trans (by omega)
      have c1 : (n : Int) < 10 := by omega
      have c2 : (0 : Int) ≤ (n : Int) := by omega
      have c3 : (n : Int) ≤ ((n + 1 : Nat) : Int) := by omega
      have c4 : ((n + 1 : Nat) : Int) ≤ 10 := by omega
      rw [e1, if_pos c1, if_pos c2, if_pos c3, if_pos c4, Int.toNat_natCast, Int.toNat_natCast]
      refine congrArg some (bytes_ext _ _ ?_)
      rw [piece10 ⟨n, h10⟩, Lib.decDigits_one h10]
    · have e0 : (0 : Int) ≤ (n : Int) := by omega
      have hd : wrap64 ((n : Int).tdiv 10) = ((n / 10 : Nat) : Int) := by
        rw [td e0]
        exact (w64 (by omega) (by omega)).trans (by omega)
      have hm : (n : Int).tmod 10 = ((n % 10 : Nat) : Int) := by
        rw [tm e0]
        omega
      have e1 : wrap64 (((n % 10 : Nat) : Int) + 1) = ((n % 10 + 1 : Nat) : Int) := (w64 (by omega) (by omega)).trans (by omega)
      have c1 : ¬ (n : Int) < 10 := by omega
      have c2 : (0 : Int) ≤ ((n % 10 : Nat) : Int) := by omega
      have c3 : ((n % 10 : Nat) : Int) ≤ ((n % 10 + 1 : Nat) : Int) := by omega
      have c4 : ((n % 10 + 1 : Nat) : Int) ≤ 10 := by omega
      have hp : ((⟨#[48, 49, 50, 51, 52, 53, 54, 55, 56, 57]⟩ : ByteArray).extract (n % 10) (n % 10 + 1)).data.toList = [UInt8.ofNat (48 + n % 10)] := piece10 ⟨n % 10, by omega⟩
      have hl := decDigits_le (n / 10) (by omega)
      rw [if_neg c1, hd, hm, e1, ih (n / 10) (by omega) k (by omega) (by omega)]
      simp only [Option.bind_some]
      rw [if_pos c2, if_pos c3, if_pos c4, Int.toNat_natCast, Int.toNat_natCast]
      generalize hq : ((⟨#[48, 49, 50, 51, 52, 53, 54, 55, 56, 57]⟩ : ByteArray).extract (n % 10) (n % 10 + 1)) = q at *
      have hq1 : q.size = 1 := by
        have := congrArg List.length hp
        simpa using this
      have hs : (⟨(Lib.decDigits (n / 10)).toArray⟩ : ByteArray).size ≤ 20 := by
        show (Lib.decDigits (n / 10)).toArray.size ≤ 20
        rw [List.size_toArray]
        exact hl
      rw [if_pos (by omega)]
      refine congrArg some (bytes_ext _ _ ?_)
      rw [ByteArray.data_append, Array.toList_append, hp]
      show Lib.decDigits (n / 10) ++ _ = Lib.decDigits n
      conv => rhs; rw [Lib.decDigits, dif_neg h10]
theorem num_eq (n : Int) (h0 : -9223372036854775806 ≤ n) (h1 : n ≤ 9223372036854775806) {k : Nat} (hk : n.natAbs + 1 < k) : spec_l1Num.f k n = some (numT n) := by
  by_cases hn : n < 0
  · obtain ⟨k, rfl⟩ : ∃ m, k = m + 1 := ⟨k - 1, by omega⟩
    have e1 : wrap64 (-n) = ((n.natAbs : Nat) : Int) := (w64 (by omega) (by omega)).trans (by omega)
    have hl := decDigits_le n.natAbs (by omega)
    have hs : (⟨(Lib.decDigits n.natAbs).toArray⟩ : ByteArray).size ≤ 20 := by
      show (Lib.decDigits n.natAbs).toArray.size ≤ 20
      rw [List.size_toArray]
      exact hl
    simp only [spec_l1Num.f]
    rw [if_pos hn, e1, num_nat n.natAbs k (by omega) (by omega)]
    simp only [Option.bind_some]
    rw [if_pos (by omega)]
    refine congrArg some (bytes_ext _ _ ?_)
    rw [ByteArray.data_append, Array.toList_append, numT_data]
    unfold Lib.itoa
    rw [if_pos hn]
    rfl
  · obtain ⟨m, rfl⟩ : ∃ m : Nat, n = (m : Int) := ⟨n.toNat, by omega⟩
    rw [num_nat m k (by omega) (by omega)]
    unfold numT Lib.itoa
    rw [if_neg hn, Int.toNat_natCast]
theorem numT_size (n : Int) (h0 : -9223372036854775806 ≤ n) (h1 : n ≤ 9223372036854775806) : (numT n).size ≤ 21 := by
  have h := Lib.itoa_length_le n (by omega) (by omega)
  show (Lib.itoa n).toArray.size ≤ 21
  rw [List.size_toArray]
  exact h
theorem dec_eq (n : Int) (h0 : -9223372036854775808 ≤ n) (h1 : n ≤ 9223372036854775807) : impl_decimal.f n = some (numT n) := by
  unfold impl_decimal.f strconv_Itoa.f
  rw [if_pos ⟨h0, h1⟩]
  rfl

theorem l1In_eq (a b c : Int) : spec_l1In.f a b c = some (decide (b ≤ a ∧ a ≤ c)) := by
  unfold spec_l1In.f
  by_cases h : a ≥ b
  · rw [if_pos h]
    have h' : b ≤ a := h
    simp [h']
  · rw [if_neg h]
    have h' : ¬ b ≤ a := h
    simp [h']

theorem within_eq (a b c : Int) : impl_within.f a b c = some (decide (b ≤ a ∧ a ≤ c)) := by
  unfold impl_within.f
  by_cases h : a ≥ b
  · rw [if_pos h]
    have h' : b ≤ a := h
    simp [h']
  · rw [if_neg h]
    have h' : ¬ b ≤ a := h
    simp [h']

/-- A text cut at a byte. -/
def sp (c : UInt8) (cur : List UInt8) : List UInt8 → List (List UInt8)
  | [] => [cur]
  | b :: l => if b = c then cur :: sp c [] l else sp c (cur ++ [b]) l
def mkB (l : List UInt8) : ByteArray := ⟨l.toArray⟩
theorem sp_length (c : UInt8) : ∀ (l cur : List UInt8), (sp c cur l).length ≤ l.length + 1
  | [], _ => Nat.le_refl _
  | b :: l, cur => by
    unfold sp
    split
    · have := sp_length c l []; simp only [List.length_cons]; omega
    · have := sp_length c l (cur ++ [b]); simp only [List.length_cons]; omega
theorem extract_mk (s : ByteArray) (i j : Nat) : s.extract i j = mkB ((s.data.toList.take j).drop i) := by
  apply ByteArray.ext
  rw [ByteArray.data_extract]
  apply Array.ext'
  simp [mkB, List.drop_take]
theorem size_data (s : ByteArray) : s.data.toList.length = s.size := Array.length_toList
theorem mk_data (s : ByteArray) : mkB s.data.toList = s := by simp [mkB]
theorem bt_list (s : ByteArray) (i : Nat) (h : i < s.size) : bt s (i : Int) = ((s.data.toList[i]'(by rw [size_data]; exact h)).toNat : Int) := by
  unfold bt
  rw [dif_pos (show (i : Int).toNat < s.size by omega)]
  rfl
theorem toNat_eq {x y : UInt8} : (x.toNat : Int) = (y.toNat : Int) ↔ x = y := by
  constructor
  · intro h
    exact UInt8.toNat_inj.mp (by omega)
  · intro h
    rw [h]
theorem idx_none (c : UInt8) : ∀ (l cur : List UInt8), Lib.indexByte l c < 0 → sp c cur l = [cur ++ l]
  | [], cur, _ => by simp [sp]
  | b :: l, cur, h => by
    unfold Lib.indexByte at h
    by_cases e : b = c
    · simp [e] at h
    · have hb : (b == c) = false := by simp [e]
      rw [hb] at h
      simp only [Bool.false_eq_true, if_false] at h
      have g := Lib.indexByte_ge l c
      have h2 : Lib.indexByte l c < 0 := by
        by_cases z : (Lib.indexByte l c == -1) = true
        · have := eq_of_beq z; omega
        · rw [if_neg z] at h; omega
      unfold sp
      rw [if_neg e, idx_none c l _ h2, List.append_assoc, List.singleton_append]
theorem idx_some (c : UInt8) : ∀ (l cur : List UInt8), 0 ≤ Lib.indexByte l c → (Lib.indexByte l c).toNat < l.length ∧ sp c cur l = (cur ++ l.take (Lib.indexByte l c).toNat) :: sp c [] (l.drop ((Lib.indexByte l c).toNat + 1))
  | [], cur, h => by simp [Lib.indexByte] at h
  | b :: l, cur, h => by
    unfold Lib.indexByte at h ⊢
    by_cases e : b = c
    · simp [e, sp]
    · have hb : (b == c) = false := by simp [e]
      rw [hb] at h ⊢
      simp only [Bool.false_eq_true, if_false] at h ⊢
      by_cases z : (Lib.indexByte l c == -1) = true
      · rw [if_pos z] at h; omega
      · rw [if_neg z] at h ⊢
        have g := Lib.indexByte_ge l c
        have h2 : 0 ≤ Lib.indexByte l c := by
          have : ¬ Lib.indexByte l c = -1 := fun q => z (by simp [q])
          omega
        obtain ⟨i1, i2⟩ := idx_some c l (cur ++ [b]) h2
        have et : (Lib.indexByte l c + 1).toNat = (Lib.indexByte l c).toNat + 1 := by omega
        rw [et]
        refine ⟨by simp only [List.length_cons]; omega, ?_⟩
        rw [show sp c cur (b :: l) = sp c (cur ++ [b]) l from if_neg e, i2, List.take_succ_cons, List.drop_succ_cons, List.append_assoc, List.singleton_append]
theorem u8_round (x : Int) (h0 : 0 ≤ x) (h1 : x ≤ 255) : ((x.toNat.toUInt8).toNat : Int) = x := by
  have e : (x.toNat.toUInt8).toNat = x.toNat % 256 := by simp [Nat.toUInt8]
  rw [e]; omega

theorem digit_val : ∀ d : Fin 10, Lib.digitVal (UInt8.ofNat (48 + d.val)) = some d.val := by decide
theorem decFrom_app (b : UInt8) : ∀ (l : List UInt8) (acc : Nat), Lib.decFrom acc (l ++ [b]) = (Lib.decFrom acc l).bind fun n => (Lib.digitVal b).map fun d => n * 10 + d
  | [], acc => by
    simp only [List.nil_append, Lib.decFrom, Option.bind_some]
    cases Lib.digitVal b <;> rfl
  | c :: l, acc => by
    simp only [List.cons_append, Lib.decFrom]
    cases h : Lib.digitVal c with
    | none => rfl
    | some d => exact decFrom_app b l _
theorem decFrom_digits (u : Nat) : Lib.decFrom 0 (Lib.decDigits u) = some u := by
  induction u using Nat.strongRecOn with
  | ind u ih =>
    by_cases h : u < 10
    · rw [Lib.decDigits_one h]
      have := digit_val ⟨u, h⟩
      simp only [Lib.decFrom]
      simp only at this
      rw [this]
      simp
    · rw [Lib.decDigits, dif_neg h, decFrom_app, ih (u / 10) (by omega)]
      have := digit_val ⟨u % 10, by omega⟩
      simp only at this
      rw [this]
      simp only [Option.bind_some, Option.map_some]
      exact congrArg some (by omega)
theorem nDigits_le : ∀ (k u : Nat), u < 10 ^ (k + 1) → Lib.nDigits u ≤ k + 1
  | 0, u, h => by
    rw [Lib.nDigits_small (by simpa using h)]
    omega
  | k + 1, u, h => by
    by_cases c : u < 10
    · rw [Lib.nDigits_small c]; omega
    · rw [Lib.nDigits_big c]
      have := nDigits_le k (u / 10) (by rw [Nat.pow_succ] at h; omega)
      omega
theorem decDigits_len (u : Nat) (h : u ≤ 999999) : 1 ≤ (Lib.decDigits u).length ∧ (Lib.decDigits u).length ≤ 6 := by
  rw [Lib.decDigits_length]
  exact ⟨Lib.nDigits_pos u, nDigits_le 5 u (by omega)⟩
theorem decDigits_head (u : Nat) : ∃ b r, Lib.decDigits u = b :: r ∧ 48 ≤ b.toNat ∧ b.toNat ≤ 57 := by
  have h := decFrom_digits u
  cases hl : Lib.decDigits u with
  | nil =>
    have := Lib.nDigits_pos u
    rw [← Lib.decDigits_length, hl] at this
    simp at this
  | cons b r =>
    rw [hl] at h
    simp only [Lib.decFrom] at h
    refine ⟨b, r, rfl, ?_⟩
    cases hd : Lib.digitVal b with
    | none => rw [hd] at h; cases h
    | some d => exact ⟨(Lib.digitVal_eq hd).1, (Lib.digitVal_eq hd).2.1⟩
theorem decNat_digits (u : Nat) : Lib.decNat (Lib.decDigits u) = some u := by
  obtain ⟨b, r, e, _⟩ := decDigits_head u
  unfold Lib.decNat
  rw [decFrom_digits, e]
  rfl
theorem atoi_itoa (m : Int) (h0 : -999999 ≤ m) (h1 : m ≤ 999999) : Lib.atoiAll (Lib.itoa m) = .ok m := by
  have hl := decDigits_len m.natAbs (by omega)
  have hl2 : (Lib.itoa m).length ≤ 18 := by
    unfold Lib.itoa
    split
    · simp only [List.length_cons]; omega
    · rw [show m.toNat = m.natAbs by omega]; omega
  rw [Lib.atoiAll_short _ hl2]
  unfold Lib.itoa
  by_cases h : m < 0
  · rw [if_pos h]
    simp only [Lib.atoi, beq_self_eq_true, if_true, decNat_digits, Option.map_some, Lib.NumEnd.ofOption]
    exact congrArg _ (by omega)
  · rw [if_neg h]
    obtain ⟨b, r, e, hb0, hb1⟩ := decDigits_head m.toNat
    have n45 : (b == 45) = false := beq_eq_false_iff_ne.mpr (fun z => by subst z; exact absurd hb0 (by decide))
    have n43 : (b == 43) = false := beq_eq_false_iff_ne.mpr (fun z => by subst z; exact absurd hb0 (by decide))
    have hd := decNat_digits m.toNat
    rw [e] at hd ⊢
    simp only [Lib.atoi, n45, n43, Bool.false_eq_true, if_false, hd, Option.map_some, Lib.NumEnd.ofOption]
    exact congrArg _ (by omega)
/-- What a reader of numbers answers at a text. -/
structure ReadsAs (s : ByteArray) (v : Int × Bool) : Prop where
  hit : ∀ m : Int, -999999 ≤ m → m ≤ 999999 → s.data.toList = Lib.itoa m → v = (m, true)
  only : v = (0, false) ∨ ∃ m : Int, -999999 ≤ m ∧ m ≤ 999999 ∧ s.data.toList = Lib.itoa m ∧ v = (m, true)
theorem ReadsAs.same {s : ByteArray} {v w : Int × Bool} (h : ReadsAs s v) (k : ReadsAs s w) : v = w := by
  rcases h.only with h0 | ⟨m, a, b, c, h1⟩
  · rcases k.only with k0 | ⟨m, a, b, c, k1⟩
    · rw [h0, k0]
    · rw [k1]; exact h.hit m a b c
  · rw [h1]; exact (k.hit m a b c).symm
theorem same_text (s : ByteArray) (n : Int) : (numT n).toList = s.toList ↔ s.data.toList = Lib.itoa n := by
  rw [Lib.toList_data, Lib.toList_data, numT_data]
  exact eq_comm
theorem implRead_eq (s : ByteArray) (hs : s.size ≤ 281474976710656) : ∃ v, impl_ParseInt.f s = some v ∧ ReadsAs s v := by
  unfold impl_ParseInt.f
  rw [if_pos hs]
  cases ha : Lib.atoiAll s.data.toList with
  | ok n =>
    have hb := Lib.atoiAll_bounds ha
    simp only
    rw [if_pos hb, dec_eq n hb.1 hb.2]
    simp only [Option.bind_some]
    have key : ∀ m : Int, -999999 ≤ m → m ≤ 999999 → s.data.toList = Lib.itoa m → m = n := fun m h0 h1 e => by
      rw [e, atoi_itoa m h0 h1] at ha
      injection ha
    by_cases c : (numT n).toList = s.toList
    · rw [if_pos c, within_eq]
      simp only [Option.bind_some]
      by_cases hw : -999999 ≤ n ∧ n ≤ 999999
      · rw [decide_eq_true hw, if_pos rfl]
        exact ⟨_, rfl, ⟨fun m h0 h1 e => by rw [key m h0 h1 e], .inr ⟨n, hw.1, hw.2, (same_text s n).mp c, rfl⟩⟩⟩
      · rw [decide_eq_false hw, if_neg (by simp)]
        exact ⟨_, rfl, ⟨fun m h0 h1 e => absurd (show -999999 ≤ n ∧ n ≤ 999999 from key m h0 h1 e ▸ ⟨h0, h1⟩) hw, .inl rfl⟩⟩
    · rw [if_neg c]
      exact ⟨_, rfl, ⟨fun m h0 h1 e => absurd ((same_text s n).mpr (by rw [← key m h0 h1 e]; exact e)) c, .inl rfl⟩⟩
  | range =>
    exact ⟨_, rfl, ⟨fun m h0 h1 e => (by rw [e, atoi_itoa m h0 h1] at ha; cases ha), .inl rfl⟩⟩
  | _ =>
    exact ⟨_, rfl, ⟨fun m h0 h1 e => (by rw [e, atoi_itoa m h0 h1] at ha; cases ha), .inl rfl⟩⟩
/-- What is answered behind the digits. -/
def finR (s t : ByteArray) (m : Nat) : Int × Bool := if t.size < s.size then (if (numT (-(m : Int))).toList = s.toList then (-(m : Int), true) else (0, false)) else (if (numT (m : Int)).toList = s.toList then ((m : Int), true) else (0, false))
theorem read_loop (s t : ByteArray) (ht : t.size ≤ 6) (hs : s.size ≤ 140737488351232) (d : Nat) : ∀ (k i n : Nat), i + d = t.size → n < 10 ^ i → d + 1000002 < k →
    spec_l1Read.l0 k s t (n : Int) (i : Int) = some (match Lib.decFrom n (t.data.toList.drop i) with | none => (0, false) | some m => finR s t m) := by
  induction d with
  | zero =>
    intro k i n hi hn hk
    obtain ⟨k, rfl⟩ : ∃ m, k = m + 1 := ⟨k - 1, by omega⟩
    have h6 : n < 10 ^ 6 := Nat.lt_of_lt_of_le hn (Nat.pow_le_pow_right (by decide) (by omega))
    have e6 : (10 : Nat) ^ 6 = 1000000 := by decide
    rw [e6] at h6
    have c1 : ¬ (i : Int) < (t.size : Int) := by omega
    have hd : t.data.toList.drop i = [] := List.drop_of_length_le (by rw [size_data]; omega)
    have ew : wrap64 (-(n : Int)) = -(n : Int) := w64 (by omega) (by omega)
    simp only [spec_l1Read.l0, if_neg c1, ew, num_eq (-(n : Int)) (by omega) (by omega) (show (-(n : Int)).natAbs + 1 < k by omega), num_eq (n : Int) (by omega) (by omega) (show (n : Int).natAbs + 1 < k by omega), Option.bind_some, hd, Lib.decFrom, finR]
    by_cases c : t.size < s.size
    · rw [if_pos (show (t.size : Int) < (s.size : Int) by omega), if_pos c]
      split <;> rfl
    · rw [if_neg (show ¬ (t.size : Int) < (s.size : Int) by omega), if_neg c]
      split <;> rfl
  | succ d ih =>
    intro k i n hi hn hk
    obtain ⟨k, rfl⟩ : ∃ m, k = m + 1 := ⟨k - 1, by omega⟩
    have h6 : n < 10 ^ 6 := Nat.lt_of_lt_of_le hn (Nat.pow_le_pow_right (by decide) (by omega))
    have e6 : (10 : Nat) ^ 6 = 1000000 := by decide
    rw [e6] at h6
    have hlt : i < t.data.toList.length := by rw [size_data]; omega
    have c1 : (i : Int) < (t.size : Int) := by omega
    have c2 : 0 ≤ (i : Int) := by omega
    have hd := List.drop_eq_getElem_cons hlt
    have eb := bt_list t i (by omega)
    have ew : wrap64 ((i : Int) + 1) = ((i + 1 : Nat) : Int) := (w64 (by omega) (by omega)).trans (by omega)
    simp only [spec_l1Read.l0, if_pos c1, if_pos c2, eb, ew]
    rw [hd]
    generalize hbb : t.data.toList[i] = b
    simp only [Lib.decFrom]
    have hb := b.toNat_lt
    by_cases h48 : (b.toNat : Int) < 48
    · have : Lib.digitVal b = none := by unfold Lib.digitVal; rw [if_neg (by omega)]
      rw [if_pos h48, this]
    · by_cases h57 : (b.toNat : Int) > 57
      · have : Lib.digitVal b = none := by unfold Lib.digitVal; rw [if_neg (by omega)]
        rw [if_neg h48, if_pos h57, this]
      · have hv : Lib.digitVal b = some (b.toNat - 48) := by unfold Lib.digitVal; rw [if_pos (by omega)]
        have e1 : wrap64 (10 * (n : Int)) = 10 * (n : Int) := w64 (by omega) (by omega)
        have e2 : wrap64 (10 * (n : Int) + ((b.toNat : Int) - 48) % 256) = ((n * 10 + (b.toNat - 48) : Nat) : Int) := by
          rw [show ((b.toNat : Int) - 48) % 256 = (b.toNat : Int) - 48 by omega]
          exact (w64 (by omega) (by omega)).trans (by omega)
        rw [if_neg h48, if_neg h57, hv, e1, e2]
        exact ih k (i + 1) (n * 10 + (b.toNat - 48)) (by omega) (by rw [Nat.pow_succ]; omega) (by omega)
/-- The digits behind a sign. -/
def bodyT (s : ByteArray) : ByteArray := if 1 < s.size ∧ (bt s 0) = 45 then s.extract 1 s.size else s
def readV (s : ByteArray) : Int × Bool := if 1 ≤ (bodyT s).size ∧ (bodyT s).size ≤ 6 then (match Lib.decFrom 0 (bodyT s).data.toList with | none => (0, false) | some m => finR s (bodyT s) m) else (0, false)
theorem specRead_eq (s : ByteArray) (hs : s.size ≤ 140737488351232) {k : Nat} (hk : 1000020 < k) : spec_l1Read.f k s = some (readV s) := by
  obtain ⟨k, rfl⟩ : ∃ m, k = m + 2 := ⟨k - 2, by omega⟩
  have j1 : ∀ t : ByteArray, spec_l1Read.j1 (k + 1) s t = some (if 1 ≤ t.size ∧ t.size ≤ 6 then (match Lib.decFrom 0 t.data.toList with | none => (0, false) | some m => finR s t m) else (0, false)) := by
    intro t
    simp only [spec_l1Read.j1, l1In_eq, Option.bind_some]
    by_cases h : 1 ≤ t.size ∧ t.size ≤ 6
    · have hl := read_loop s t h.2 hs t.size k 0 0 (by omega) (by decide) (by omega)
      rw [decide_eq_true (show (1 : Int) ≤ (t.size : Int) ∧ (t.size : Int) ≤ 6 by omega), if_pos rfl, if_pos h]
      exact hl
    · rw [decide_eq_false (show ¬ ((1 : Int) ≤ (t.size : Int) ∧ (t.size : Int) ≤ 6) by omega), if_neg (by simp), if_neg h]
  unfold spec_l1Read.f readV
  by_cases c : (s.size : Int) > 1
  · rw [if_pos c, if_pos (by omega)]
    simp only [spec_l1Read.j0]
    by_cases hb : bt s 0 = 45
    · have e : bodyT s = s.extract 1 s.size := if_pos ⟨by omega, hb⟩
      rw [if_pos (show (bt s 0 == 45) = true by rw [hb]; rfl), if_pos (by omega), j1, e]
    · have e : bodyT s = s := if_neg (fun z => hb z.2)
      rw [if_neg (show ¬ (bt s 0 == 45) = true by simpa using hb), j1, e]
  · have e : bodyT s = s := if_neg (fun z => c (by omega))
    rw [if_neg c]
    simp only [spec_l1Read.j0, Bool.false_eq_true, if_false]
    rw [j1, e]
theorem readV_reads (s : ByteArray) : ReadsAs s (readV s) := by
  constructor
  · intro m h0 h1 e
    have hz : s.size = (Lib.itoa m).length := by rw [← e, size_data]
    have hl := decDigits_len m.natAbs (by omega)
    by_cases h : m < 0
    · have ei : Lib.itoa m = 45 :: Lib.decDigits m.natAbs := if_pos h
      rw [ei] at e hz
      simp only [List.length_cons] at hz
      have hb : bt s 0 = 45 := by
        have := bt_list s 0 (by omega)
        simp only [e, List.getElem_cons_zero] at this
        exact this
      have eb : bodyT s = s.extract 1 s.size := if_pos ⟨by omega, hb⟩
      have hd : (s.extract 1 s.size).data.toList = Lib.decDigits m.natAbs := by
        rw [extract_mk, List.take_of_length_le (Nat.le_of_eq (size_data s)), e]
        simp [mkB]
      have hzt : (s.extract 1 s.size).size = (Lib.decDigits m.natAbs).length := by rw [← hd, size_data]
      unfold readV
      rw [eb, if_pos (by omega), hd, decFrom_digits]
      unfold finR
      have hn : (-(m.natAbs : Int)) = m := by omega
      simp only [hn]
      rw [if_pos (by omega), if_pos ((same_text s m).mpr (by rw [ei]; exact e))]
    · have ei : Lib.itoa m = Lib.decDigits m.natAbs := by unfold Lib.itoa; rw [if_neg h, show m.toNat = m.natAbs by omega]
      rw [ei] at e hz
      obtain ⟨b, r, ed, hb0, hb1⟩ := decDigits_head m.natAbs
      have eb : bodyT s = s := by
        refine if_neg (fun z => ?_)
        have := bt_list s 0 (by omega)
        simp only [e, ed, List.getElem_cons_zero] at this
        have h45 := z.2
        rw [show bt s 0 = ((b.toNat : Nat) : Int) from this] at h45
        omega
      unfold readV
      rw [eb, if_pos (by omega), e, decFrom_digits]
      unfold finR
      have hn : ((m.natAbs : Nat) : Int) = m := by omega
      simp only [hn]
      rw [if_neg (by omega), if_pos ((same_text s m).mpr (by rw [ei]; exact e))]
  · unfold readV
    split
    · rename_i hz
      cases hd : Lib.decFrom 0 (bodyT s).data.toList with
      | none => exact .inl rfl
      | some m =>
        have hlt := Lib.decFrom_lt _ _ _ hd
        rw [size_data] at hlt
        have h6 : (10 : Nat) ^ (bodyT s).size ≤ 10 ^ 6 := Nat.pow_le_pow_right (by decide) hz.2
        have e6 : (10 : Nat) ^ 6 = 1000000 := by decide
        rw [e6] at h6
        simp only
        unfold finR
        split
        · split
          · rename_i c
            exact .inr ⟨_, by omega, by omega, (same_text s _).mp c, rfl⟩
          · exact .inl rfl
        · split
          · rename_i c
            exact .inr ⟨_, by omega, by omega, (same_text s _).mp c, rfl⟩
          · exact .inl rfl
    · exact .inl rfl

theorem FnExactParseInt : Asked := by
  intro s hs
  obtain ⟨v, e, hv⟩ := implRead_eq s (by omega)
  have hq : v = readV s := hv.same (readV_reads s)
  subst hq
  refine ⟨1000030, ?_⟩
  generalize hK : 1000030 = K
  unfold laws_FnExactParseInt.f spec_ParseInt.f
  rw [specRead_eq s hs (by omega), e]
  split
  · rfl
  · simp
end Go.Proofs.YtcmccjiimiomhaaDoor.Pure
