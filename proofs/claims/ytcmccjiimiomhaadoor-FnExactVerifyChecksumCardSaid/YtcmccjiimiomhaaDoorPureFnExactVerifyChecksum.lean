/- The pure statement of the law of VerifyChecksum: true for every string; no condition but its reach. -/
import Derived.Test.YtcmccjiimiomhaaDoorAskFnExactVerifyChecksum
import Derived.Lib.ItoaLen
import Derived.Lib.IndexLaws
namespace Go.Proofs.YtcmccjiimiomhaaDoor.Pure
open Go.RowKit Go.Proofs.YtcmccjiimiomhaaDoor.XFnExactVerifyChecksum Go.Proofs.YtcmccjiimiomhaaDoor.AskFnExactVerifyChecksum Go.Proofs.YtcmccjiimiomhaaDoorW.PrintWords Go.Proofs.YtcmccjiimiomhaaDoorW.PrintLast
set_option linter.unusedVariables false
set_option linter.unusedSimpArgs false

theorem w64 {x : Int} (h0 : -9223372036854775808 ≤ x) (h1 : x ≤ 9223372036854775807) : wrap64 x = x := by
  unfold wrap64
  omega

theorem td {x y : Int} (h : 0 ≤ x) : Int.tdiv x y = x / y := Int.tdiv_eq_ediv_of_nonneg h
theorem tm {x y : Int} (h : 0 ≤ x) : Int.tmod x y = x % y := Int.tmod_eq_emod_of_nonneg h

/-- The decimal text of a whole number. -/
def numT (n : Int) : ByteArray := ⟨(Lib.itoa n).toArray⟩
theorem numT_data (n : Int) : (numT n).data.toList = Lib.itoa n := by simp [numT]
theorem piece10 : ∀ i : Fin 10, ((⟨#[48, 49, 50, 51, 52, 53, 54, 55, 56, 57]⟩ : ByteArray).extract i.val (i.val + 1)).data.toList = [UInt8.ofNat (48 + i.val)] := by decide +kernel
theorem bytes_ext (a b : ByteArray) (h : a.data.toList = b.data.toList) : a = b := by
  apply ByteArray.ext
  exact Array.toList_inj.mp h
theorem decDigits_le (n : Nat) (h : n ≤ 9223372036854775807) : (Lib.decDigits n).length ≤ 20 := by
  rw [Lib.decDigits_length]
  exact Lib.nDigits_le20 n (by omega)
theorem num_nat (n : Nat) : ∀ k : Nat, n ≤ 9223372036854775806 → n < k → spec_l1Num.f k (n : Int) = some ⟨(Lib.decDigits n).toArray⟩ := by
  induction n using Nat.strongRecOn with
  | ind n ih =>
    intro k hn hk
    obtain ⟨k, rfl⟩ : ∃ m, k = m + 1 := ⟨k - 1, by omega⟩
    have c0 : ¬ (n : Int) < 0 := by omega
    simp only [spec_l1Num.f, if_neg c0]
    by_cases h10 : n < 10
    · have e1 : wrap64 ((n : Int) + 1) = ((n + 1 : Nat) : Int) := (w64 (by omega) (by omega)).trans (by omega)
      have c1 : (n : Int) < 10 := by omega
      have c2 : (0 : Int) ≤ (n : Int) := by omega
      have c3 : (n : Int) ≤ ((n + 1 : Nat) : Int) := by omega
      have c4 : ((n + 1 : Nat) : Int) ≤ 10 := by omega
      rw [e1, if_pos c1, if_pos c2, if_pos c3, if_pos c4, Int.toNat_natCast, Int.toNat_natCast]
      refine congrArg some (bytes_ext _ _ ?_)
      rw [piece10 ⟨n, h10⟩, Lib.decDigits_one h10]
    · have e0 : (0 : Int) ≤ (n : Int) := by omega
      have hd : wrap64 ((n : Int).tdiv 10) = ((n / 10 : Nat) : Int) := by
        rw [td e0]
        exact (w64 (by omega) (by omega)).trans (by omega)
      have hm : (n : Int).tmod 10 = ((n % 10 : Nat) : Int) := by
        rw [tm e0]
        omega
      have e1 : wrap64 (((n % 10 : Nat) : Int) + 1) = ((n % 10 + 1 : Nat) : Int) := (w64 (by omega) (by omega)).trans (by omega)
      have c1 : ¬ (n : Int) < 10 := by omega
      have c2 : (0 : Int) ≤ ((n % 10 : Nat) : Int) := by omega
      have c3 : ((n % 10 : Nat) : Int) ≤ ((n % 10 + 1 : Nat) : Int) := by omega
      have c4 : ((n % 10 + 1 : Nat) : Int) ≤ 10 := by omega
      have hp : ((⟨#[48, 49, 50, 51, 52, 53, 54, 55, 56, 57]⟩ : ByteArray).extract (n % 10) (n % 10 + 1)).data.toList = [UInt8.ofNat (48 + n % 10)] := piece10 ⟨n % 10, by omega⟩
      have hl := decDigits_le (n / 10) (by omega)
      rw [if_neg c1, hd, hm, e1, ih (n / 10) (by omega) k (by omega) (by omega)]
      simp only [Option.bind_some]
      rw [if_pos c2, if_pos c3, if_pos c4, Int.toNat_natCast, Int.toNat_natCast]
      generalize hq : ((⟨#[48, 49, 50, 51, 52, 53, 54, 55, 56, 57]⟩ : ByteArray).extract (n % 10) (n % 10 + 1)) = q at *
      have hq1 : q.size = 1 := by
        have := congrArg List.length hp
        simpa using this
      have hs : (⟨(Lib.decDigits (n / 10)).toArray⟩ : ByteArray).size ≤ 20 := by
        show (Lib.decDigits (n / 10)).toArray.size ≤ 20
        rw [List.size_toArray]
        exact hl
      rw [if_pos (by omega)]
      refine congrArg some (bytes_ext _ _ ?_)
      rw [ByteArray.data_append, Array.toList_append, hp]
      show Lib.decDigits (n / 10) ++ _ = Lib.decDigits n
      conv => rhs; rw [Lib.decDigits, dif_neg h10]
theorem num_eq (n : Int) (h0 : -9223372036854775806 ≤ n) (h1 : n ≤ 9223372036854775806) {k : Nat} (hk : n.natAbs + 1 < k) : spec_l1Num.f k n = some (numT n) := by
  by_cases hn : n < 0
  · obtain ⟨k, rfl⟩ : ∃ m, k = m + 1 := ⟨k - 1, by omega⟩
    have e1 : wrap64 (-n) = ((n.natAbs : Nat) : Int) := (w64 (by omega) (by omega)).trans (by omega)
    have hl := decDigits_le n.natAbs (by omega)
    have hs : (⟨(Lib.decDigits n.natAbs).toArray⟩ : ByteArray).size ≤ 20 := by
      show (Lib.decDigits n.natAbs).toArray.size ≤ 20
      rw [List.size_toArray]
      exact hl
    simp only [spec_l1Num.f]
    rw [if_pos hn, e1, num_nat n.natAbs k (by omega) (by omega)]
    simp only [Option.bind_some]
    rw [if_pos (by omega)]
    refine congrArg some (bytes_ext _ _ ?_)
    rw [ByteArray.data_append, Array.toList_append, numT_data]
    unfold Lib.itoa
    rw [if_pos hn]
    rfl
  · obtain ⟨m, rfl⟩ : ∃ m : Nat, n = (m : Int) := ⟨n.toNat, by omega⟩
    rw [num_nat m k (by omega) (by omega)]
    unfold numT Lib.itoa
    rw [if_neg hn, Int.toNat_natCast]
theorem numT_size (n : Int) (h0 : -9223372036854775806 ≤ n) (h1 : n ≤ 9223372036854775806) : (numT n).size ≤ 21 := by
  have h := Lib.itoa_length_le n (by omega) (by omega)
  show (Lib.itoa n).toArray.size ≤ 21
  rw [List.size_toArray]
  exact h
theorem dec_eq (n : Int) (h0 : -9223372036854775808 ≤ n) (h1 : n ≤ 9223372036854775807) : impl_decimal.f n = some (numT n) := by
  unfold impl_decimal.f strconv_Itoa.f
  rw [if_pos ⟨h0, h1⟩]
  rfl

theorem sums (s : ByteArray) (hs : s.size ≤ 140737488351232) (d : Nat) : ∀ (k : Nat) (h i : Int), 0 ≤ h → h ≤ 999978 → 0 ≤ i → i ≤ s.size → (s.size : Int) - i = d → d < k →
    ∃ r, spec_l1Sum.l0 k s h i = some r ∧ impl_checksum.l0 k s h (s.size : Int) i = some r ∧ 0 ≤ r ∧ r ≤ 999978 ∧ ∀ m, d < m → spec_l1Sum.l0 m s h i = some r ∧ impl_checksum.l0 m s h (s.size : Int) i = some r := by
  induction d with
  | zero =>
    intro k h i hh0 hh1 h0 h1 hd hk
    have key : ∀ m, 0 < m → spec_l1Sum.l0 m s h i = some h ∧ impl_checksum.l0 m s h (s.size : Int) i = some h := by
      intro m hm
      obtain ⟨m, rfl⟩ : ∃ q, m = q + 1 := ⟨m - 1, by omega⟩
      constructor
      · simp only [spec_l1Sum.l0]; rw [if_neg (by omega)]
      · simp only [impl_checksum.l0]; rw [if_neg (by omega)]
    exact ⟨h, (key k hk).1, (key k hk).2, hh0, hh1, key⟩
  | succ d ih =>
    intro k h i hh0 hh1 h0 h1 hd hk
    have hlt : i < (s.size : Int) := by omega
    have hb := bt_range s i
    have e1 : wrap64 (41 * h) = 41 * h := w64 (by omega) (by omega)
    have e2 : wrap64 (bt s i) = bt s i := w64 (by omega) (by omega)
    have e3 : wrap64 (41 * h + bt s i) = 41 * h + bt s i := w64 (by omega) (by omega)
    have e4 : wrap64 (41 * h + bt s i + 1) = 41 * h + bt s i + 1 := w64 (by omega) (by omega)
    have e5 : Int.tmod (41 * h + bt s i + 1) 999979 = (41 * h + bt s i + 1) % 999979 := tm (by omega)
    obtain ⟨r, _, _, r0, r1, hall⟩ := ih (d + 1) ((41 * h + bt s i + 1) % 999979) (i + 1) (by omega) (by omega) (by omega) (by omega) (by omega) (by omega)
    have hw : wrap64 (i + 1) = i + 1 := w64 (by omega) (by omega)
    have key : ∀ m, d + 1 < m → spec_l1Sum.l0 m s h i = some r ∧ impl_checksum.l0 m s h (s.size : Int) i = some r := by
      intro m hm
      obtain ⟨m, rfl⟩ : ∃ q, m = q + 1 := ⟨m - 1, by omega⟩
      obtain ⟨a, b⟩ := hall m (by omega)
      constructor
      · simp only [spec_l1Sum.l0]; rw [if_pos hlt, if_pos h0, hw, e1, e2, e3, e4, e5]; exact a
      · simp only [impl_checksum.l0]; rw [if_pos hlt, if_pos h0, if_pos hlt, hw, e1, e2, e3, e4, e5]; exact b
    exact ⟨r, (key k hk).1, (key k hk).2, r0, r1, key⟩
/-- The checksum of a text: what both reckon. -/
theorem sum_ex (s : ByteArray) (hs : s.size ≤ 140737488351232) : ∃ r : Int, 0 ≤ r ∧ r ≤ 999978 ∧ ∀ m, s.size < m → spec_l1Sum.f m s = some r ∧ impl_checksum.f m s = some r := by
  obtain ⟨r, _, _, r0, r1, h⟩ := sums s hs s.size (s.size + 1) 7 0 (by omega) (by omega) (by omega) (by omega) (by omega) (by omega)
  exact ⟨r, r0, r1, fun m hm => h m hm⟩

/-- A text cut at a byte. -/
def sp (c : UInt8) (cur : List UInt8) : List UInt8 → List (List UInt8)
  | [] => [cur]
  | b :: l => if b = c then cur :: sp c [] l else sp c (cur ++ [b]) l
def mkB (l : List UInt8) : ByteArray := ⟨l.toArray⟩
theorem sp_length (c : UInt8) : ∀ (l cur : List UInt8), (sp c cur l).length ≤ l.length + 1
  | [], _ => Nat.le_refl _
  | b :: l, cur => by
    unfold sp
    split
    · have := sp_length c l []; simp only [List.length_cons]; omega
    · have := sp_length c l (cur ++ [b]); simp only [List.length_cons]; omega
theorem extract_mk (s : ByteArray) (i j : Nat) : s.extract i j = mkB ((s.data.toList.take j).drop i) := by
  apply ByteArray.ext
  rw [ByteArray.data_extract]
  apply Array.ext'
  simp [mkB, List.drop_take]
theorem size_data (s : ByteArray) : s.data.toList.length = s.size := Array.length_toList
theorem mk_data (s : ByteArray) : mkB s.data.toList = s := by simp [mkB]
theorem bt_list (s : ByteArray) (i : Nat) (h : i < s.size) : bt s (i : Int) = ((s.data.toList[i]'(by rw [size_data]; exact h)).toNat : Int) := by
  unfold bt
  rw [dif_pos (show (i : Int).toNat < s.size by omega)]
  rfl
theorem toNat_eq {x y : UInt8} : (x.toNat : Int) = (y.toNat : Int) ↔ x = y := by
  constructor
  · intro h
    exact UInt8.toNat_inj.mp (by omega)
  · intro h
    rw [h]
theorem idx_none (c : UInt8) : ∀ (l cur : List UInt8), Lib.indexByte l c < 0 → sp c cur l = [cur ++ l]
  | [], cur, _ => by simp [sp]
  | b :: l, cur, h => by
    unfold Lib.indexByte at h
    by_cases e : b = c
    · simp [e] at h
    · have hb : (b == c) = false := by simp [e]
      rw [hb] at h
      simp only [Bool.false_eq_true, if_false] at h
      have g := Lib.indexByte_ge l c
      have h2 : Lib.indexByte l c < 0 := by
        by_cases z : (Lib.indexByte l c == -1) = true
        · have := eq_of_beq z; omega
        · rw [if_neg z] at h; omega
      unfold sp
      rw [if_neg e, idx_none c l _ h2, List.append_assoc, List.singleton_append]
theorem idx_some (c : UInt8) : ∀ (l cur : List UInt8), 0 ≤ Lib.indexByte l c → (Lib.indexByte l c).toNat < l.length ∧ sp c cur l = (cur ++ l.take (Lib.indexByte l c).toNat) :: sp c [] (l.drop ((Lib.indexByte l c).toNat + 1))
  | [], cur, h => by simp [Lib.indexByte] at h
  | b :: l, cur, h => by
    unfold Lib.indexByte at h ⊢
    by_cases e : b = c
    · simp [e, sp]
    · have hb : (b == c) = false := by simp [e]
      rw [hb] at h ⊢
      simp only [Bool.false_eq_true, if_false] at h ⊢
      by_cases z : (Lib.indexByte l c == -1) = true
      · rw [if_pos z] at h; omega
      · rw [if_neg z] at h ⊢
        have g := Lib.indexByte_ge l c
        have h2 : 0 ≤ Lib.indexByte l c := by
          have : ¬ Lib.indexByte l c = -1 := fun q => z (by simp [q])
          omega
        obtain ⟨i1, i2⟩ := idx_some c l (cur ++ [b]) h2
        have et : (Lib.indexByte l c + 1).toNat = (Lib.indexByte l c).toNat + 1 := by omega
        rw [et]
        refine ⟨by simp only [List.length_cons]; omega, ?_⟩
        rw [show sp c cur (b :: l) = sp c (cur ++ [b]) l from if_neg e, i2, List.take_succ_cons, List.drop_succ_cons, List.append_assoc, List.singleton_append]
theorem u8_round (x : Int) (h0 : 0 ≤ x) (h1 : x ≤ 255) : ((x.toNat.toUInt8).toNat : Int) = x := by
  have e : (x.toNat.toUInt8).toNat = x.toNat % 256 := by simp [Nat.toUInt8]
  rw [e]; omega

def noC (c : UInt8) (s : ByteArray) : Bool := decide (Lib.indexByte s.data.toList c < 0)

theorem zHash : (⟨#[35]⟩ : ByteArray).size = 1 := rfl
/-- The text with its checksum r. -/
def sealT (s : ByteArray) (r : Int) : ByteArray := (s ++ (⟨#[35]⟩ : ByteArray)) ++ numT r
theorem sealT_size (s : ByteArray) (r : Int) : (sealT s r).size = s.size + 1 + (numT r).size := by
  unfold sealT
  rw [ByteArray.size_append, ByteArray.size_append, zHash]
theorem seal_eq (s : ByteArray) (hs : s.size ≤ 1048576) (r : Int) (r0 : 0 ≤ r) (r1 : r ≤ 999978) (h : ∀ m, s.size < m → spec_l1Sum.f m s = some r) {k : Nat} (hk : s.size + 1000000 < k) : spec_l1Seal.f k s = some (sealT s r) := by
  have hz := numT_size r (by omega) (by omega)
  unfold spec_l1Seal.f sealT
  rw [if_pos (by omega), h k (by omega)]
  simp only [Option.bind_some]
  rw [num_eq r (by omega) (by omega) (by omega)]
  simp only [Option.bind_some]
  rw [if_pos (by rw [ByteArray.size_append, zHash]; omega)]
theorem contains_hash (s : ByteArray) : strings_Contains.f s (⟨#[35]⟩ : ByteArray) = some (!noC 35 s) := by
  unfold strings_Contains.f noC
  show some (decide (0 ≤ Lib.indexByte s.data.toList 35)) = _
  refine congrArg some ?_
  rw [← decide_not]
  exact decide_eq_decide.mpr (by omega)
/-- AppendChecksum. -/
def appR (s : ByteArray) (r : Int) : ByteArray × Bool := if s.size ≤ 4000 ∧ noC 35 s = true ∧ (sealT s r).size ≤ 4000 then (sealT s r, true) else (⟨#[]⟩, false)
theorem implApp_eq (s : ByteArray) (hs : s.size ≤ 140737488351232) (r : Int) (r0 : 0 ≤ r) (r1 : r ≤ 999978) (h : ∀ m, s.size < m → impl_checksum.f m s = some r) {k : Nat} (hk : s.size + 1 < k) : impl_AppendChecksum.f k s = some (appR s r) := by
  obtain ⟨k, rfl⟩ : ∃ m, k = m + 1 := ⟨k - 1, by omega⟩
  have hz := numT_size r (by omega) (by omega)
  unfold impl_AppendChecksum.f appR
  by_cases c : (s.size : Int) > 4000
  · rw [if_pos c, if_neg (fun z => by have := z.1; omega)]
    simp [impl_AppendChecksum.j0]
  · rw [if_neg c, contains_hash]
    simp only [Option.bind_some]
    cases hn : noC 35 s with
    | false => simp [impl_AppendChecksum.j0]
    | true =>
      simp only [impl_AppendChecksum.j0, Bool.not_true, Bool.false_eq_true, if_false]
      rw [if_pos (by omega), h k (by omega)]
      simp only [Option.bind_some]
      rw [dec_eq r (by omega) (by omega)]
      simp only [Option.bind_some]
      rw [if_pos (by rw [ByteArray.size_append, zHash]; omega)]
      show (if ((sealT s r).size : Int) > 4000 then _ else some (sealT s r, true)) = _
      by_cases c2 : ((sealT s r).size : Int) > 4000
      · rw [if_pos c2, if_neg (fun z => by have := z.2.2; omega)]
      · rw [if_neg c2, if_pos ⟨by omega, trivial, by omega⟩]

theorem specSplit_loop (s : ByteArray) (c : UInt8) (hs : s.size ≤ 4000) (d : Nat) : ∀ (k a b : Nat) (acc : List ByteArray), b + d = s.size → a ≤ b → acc.length + d ≤ 100000 → d < k →
    spec_l1Split.l0 k s (c.toNat : Int) acc (a : Int) (b : Int) = some (acc ++ (sp c ((s.data.toList.take b).drop a) (s.data.toList.drop b)).map mkB) := by
  induction d with
  | zero =>
    intro k a b acc hb hab ha hk
    obtain ⟨k, rfl⟩ : ∃ m, k = m + 1 := ⟨k - 1, by omega⟩
    have n1 : ¬ (b : Int) < (s.size : Int) := by omega
    have p1 : (0 : Int) ≤ (a : Int) := by omega
    have p2 : (a : Int) ≤ (s.size : Int) := by omega
    have p3 : acc.length < 8796093022208 := by omega
    simp only [spec_l1Split.l0, if_neg n1, if_pos p1, if_pos p2, if_pos p3]
    rw [List.drop_of_length_le (i := b) (by rw [size_data]; omega), extract_mk, Int.toNat_natCast]
    have e : b = s.size := by omega
    subst e
    rfl
  | succ d ih =>
    intro k a b acc hb hab ha hk
    obtain ⟨k, rfl⟩ : ∃ m, k = m + 1 := ⟨k - 1, by omega⟩
    have n1 : (b : Int) < (s.size : Int) := by omega
    have n2 : (b : Int) ≤ (s.size : Int) := by omega
    have p0 : (0 : Int) ≤ (b : Int) := by omega
    have p1 : (0 : Int) ≤ (a : Int) := by omega
    have p2 : (a : Int) ≤ (b : Int) := by omega
    have p3 : acc.length < 8796093022208 := by omega
    have hL : b < s.data.toList.length := by rw [size_data]; omega
    have ew : wrap64 ((b : Int) + 1) = ((b + 1 : Nat) : Int) := (w64 (by omega) (by omega)).trans (by omega)
    have hd := List.drop_eq_getElem_cons hL
    rw [hd]
    have eb := bt_list s b (by omega)
    simp only [spec_l1Split.l0, if_pos n1, if_pos p0, eb, toNat_eq, ew]
    by_cases h : s.data.toList[b] = c
    · simp only [if_pos h, if_pos p1, if_pos p2, if_pos n2, if_pos p3]
      rw [ih k (b + 1) (b + 1) _ (by omega) (by omega) (by simp; omega) (by omega)]
      have e0 : List.drop (b + 1) (List.take (b + 1) s.data.toList) = [] := List.drop_of_length_le (by rw [List.length_take]; omega)
      simp only [sp, if_pos h, e0, extract_mk, Int.toNat_natCast, List.map_cons, List.append_assoc, List.singleton_append]
    · simp only [if_neg h]
      rw [ih k a (b + 1) acc (by omega) (by omega) (by omega) (by omega)]
      have e0 : List.drop a (List.take (b + 1) s.data.toList) = List.drop a (List.take b s.data.toList) ++ [s.data.toList[b]] := by
        rw [List.take_succ_eq_append_getElem hL, List.drop_append_of_le_length (by rw [List.length_take]; omega)]
      simp only [sp, if_neg h, e0]
theorem specSplitF_eq (s : ByteArray) (c : UInt8) (hs : s.size ≤ 4000) {k : Nat} (hk : 4001 < k) : spec_l1Split.f k s (c.toNat : Int) = some ((sp c [] s.data.toList).map mkB) := by
  have h := specSplit_loop s c hs s.size k 0 0 [] (by omega) (by omega) (by simp; omega) (by omega)
  unfold spec_l1Split.f
  simpa using h

/-- What stands ahead of the first mark, and whether there is a mark. -/
def preR (s : ByteArray) : ByteArray := if 0 ≤ Lib.indexByte s.data.toList 35 then s.extract 0 (Lib.indexByte s.data.toList 35).toNat else s
/-- VerifyChecksum; r: the checksum of what stands ahead of the first mark. -/
def verR (s : ByteArray) (r : Int) : ByteArray × Bool := if s.size ≤ 4000 ∧ sealT (preR s) r = s then (preR s, true) else (⟨#[]⟩, false)
theorem preR_size (s : ByteArray) : (preR s).size ≤ s.size := by
  unfold preR
  split
  · rw [ByteArray.size_extract]; omega
  · omega
theorem sealT_data (s : ByteArray) (r : Int) : (sealT s r).data.toList = s.data.toList ++ [35] ++ (numT r).data.toList := by
  unfold sealT
  rw [ByteArray.data_append, Array.toList_append, ByteArray.data_append, Array.toList_append]
theorem extract_take (s : ByteArray) (o : Nat) : (s.extract 0 o).data.toList = s.data.toList.take o := by
  rw [extract_mk]
  simp [mkB]
theorem preR_noC (s : ByteArray) : noC 35 (preR s) = true := by
  unfold preR
  have hg := Lib.indexByte_ge s.data.toList 35
  by_cases h : 0 ≤ Lib.indexByte s.data.toList 35
  · rw [if_pos h]
    obtain ⟨o, ho⟩ : ∃ o : Nat, Lib.indexByte s.data.toList 35 = o := ⟨(Lib.indexByte s.data.toList 35).toNat, by omega⟩
    obtain ⟨h1, h2⟩ := Lib.indexByte_some ho
    rw [ho, Int.toNat_natCast]
    unfold noC
    apply decide_eq_true
    rw [extract_take]
    have hg' := Lib.indexByte_ge (s.data.toList.take o) 35
    refine Int.not_le.mp fun hc => ?_
    obtain ⟨q, hq⟩ : ∃ q : Nat, Lib.indexByte (s.data.toList.take o) 35 = q := ⟨(Lib.indexByte (s.data.toList.take o) 35).toNat, by omega⟩
    obtain ⟨h3, _⟩ := Lib.indexByte_some hq
    have hlt : q < o := by
      have := (List.getElem?_eq_some_iff.mp h3).1
      rw [List.length_take] at this
      omega
    rw [List.getElem?_take, if_pos hlt] at h3
    exact h2 q hlt h3
  · rw [if_neg h]
    unfold noC
    exact decide_eq_true (by omega)
theorem split_head (s : ByteArray) : ∃ tl, (sp 35 [] s.data.toList).map mkB = preR s :: tl := by
  unfold preR
  by_cases h : 0 ≤ Lib.indexByte s.data.toList 35
  · rw [if_pos h, (idx_some 35 _ _ h).2, List.map_cons]
    refine ⟨_, congrArg (· :: _) ?_⟩
    rw [extract_mk]
    simp
  · rw [if_neg h, idx_none 35 _ _ (by omega)]
    exact ⟨[], by simp [mkB]⟩
theorem specVer_eq (s : ByteArray) (hs : s.size ≤ 1048576) (r : Int) (r0 : 0 ≤ r) (r1 : r ≤ 999978) (h : ∀ m, (preR s).size < m → spec_l1Sum.f m (preR s) = some r) {k : Nat} (hk : s.size + 1000000 < k) : spec_VerifyChecksum.f k s = some (verR s r) := by
  have hp := preR_size s
  unfold spec_VerifyChecksum.f verR
  by_cases c : (s.size : Int) > 4000
  · rw [if_pos c, if_neg (fun z => by have := z.1; omega)]
  · obtain ⟨tl, ht⟩ := split_head s
    have e := specSplitF_eq s 35 (by omega) (k := k) (by omega)
    have e' : spec_l1Split.f k s 35 = some (preR s :: tl) := by rw [← ht]; exact e
    rw [if_neg c, e']
    simp only [Option.bind_some]
    have c1 : (0 : Int) < ((preR s :: tl).length : Int) := by simp only [List.length_cons]; omega
    have er : rdOf ByteArray.empty (preR s :: tl) 0 = preR s := rfl
    rw [if_pos c1, er, seal_eq (preR s) (by omega) r r0 r1 h (by omega)]
    simp only [Option.bind_some]
    by_cases q : sealT (preR s) r = s
    · rw [if_pos (by rw [q]), if_pos ⟨by omega, q⟩]
    · have q' : ¬ (sealT (preR s) r).toList = s.toList := fun z => q (bytes_ext _ _ (by rw [← Lib.toList_data, ← Lib.toList_data]; exact z))
      rw [if_neg q', if_neg (fun z => q z.2)]
theorem implVer_eq (s : ByteArray) (hs : s.size ≤ 140737488351232) (r : Int) (r0 : 0 ≤ r) (r1 : r ≤ 999978) (h : ∀ m, (preR s).size < m → impl_checksum.f m (preR s) = some r) {k : Nat} (hk : s.size + 1 < k) : impl_VerifyChecksum.f k s = some (verR s r) := by
  have hp := preR_size s
  have hz := numT_size r (by omega) (by omega)
  have hc : strings_Cut.f s (⟨#[35]⟩ : ByteArray) = some (strings_Cut.at s 35) := by
    unfold strings_Cut.f
    show (if s.size ≤ 9223372036854775806 then some (strings_Cut.at s 35) else none) = _
    rw [if_pos (by omega)]
  have hc1 : (strings_Cut.at s 35).1 = preR s := by
    unfold strings_Cut.at preR
    split <;> rfl
  unfold impl_VerifyChecksum.f verR
  rw [hc]
  simp only [Option.bind_some]
  rw [hc1, implApp_eq (preR s) (by omega) r r0 r1 h (by omega)]
  simp only [Option.bind_some]
  by_cases q : sealT (preR s) r = s
  · have hsz := sealT_size (preR s) r
    have hsz' := hsz
    rw [q] at hsz
    by_cases c : s.size ≤ 4000
    · have h22 : (strings_Cut.at s 35).2.2 = true := by
        unfold strings_Cut.at
        by_cases hi : 0 ≤ Lib.indexByte s.data.toList 35
        · rw [if_pos hi]
        · exfalso
          have : preR s = s := by unfold preR; rw [if_neg hi]
          rw [this] at hsz
          omega
      have ea : appR (preR s) r = (sealT (preR s) r, true) := if_pos ⟨by omega, preR_noC s, by rw [q]; exact c⟩
      rw [ea, h22, if_pos (show s.size ≤ 4000 ∧ sealT (preR s) r = s from ⟨c, q⟩)]
      simp [q]
    · have ea : appR (preR s) r = (⟨#[]⟩, false) := if_neg (fun z => c (by have := z.2.2; rw [q] at this; exact this))
      rw [ea, if_neg (show ¬ (s.size ≤ 4000 ∧ sealT (preR s) r = s) from fun z => c z.1)]
      simp
  · rw [if_neg (show ¬ (s.size ≤ 4000 ∧ sealT (preR s) r = s) from fun z => q z.2)]
    have q' : ¬ (sealT (preR s) r).toList = s.toList := fun z => q (bytes_ext _ _ (by rw [← Lib.toList_data, ← Lib.toList_data]; exact z))
    unfold appR
    by_cases cc : (preR s).size ≤ 4000 ∧ noC 35 (preR s) = true ∧ (sealT (preR s) r).size ≤ 4000
    · simp only [if_pos cc, if_neg q']
      split <;> simp
    · simp only [if_neg cc]
      simp

theorem FnExactVerifyChecksum : Asked := by
  intro s hs
  refine ⟨s.size + 1000010, ?_⟩
  generalize hK : s.size + 1000010 = K
  unfold laws_FnExactVerifyChecksum.f
  by_cases c : (s.size : Int) > 1048576
  · rw [if_pos c]
  · have hp := preR_size s
    obtain ⟨r, r0, r1, h⟩ := sum_ex (preR s) (by omega)
    rw [if_neg c, specVer_eq s (by omega) r r0 r1 (fun m hm => (h m hm).1) (by omega), implVer_eq s (by omega) r r0 r1 (fun m hm => (h m hm).2) (by omega)]
    simp
end Go.Proofs.YtcmccjiimiomhaaDoor.Pure
