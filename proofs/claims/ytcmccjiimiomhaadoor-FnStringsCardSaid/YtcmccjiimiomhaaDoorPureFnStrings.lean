/- The pure statement of the law FnStrings: true for every string of bytes; no condition but the slice's reach. -/
import Derived.Test.YtcmccjiimiomhaaDoorAskFnStrings
import Derived.Lib.ItoaLen
import Derived.Lib.IndexLaws
namespace Go.Proofs.YtcmccjiimiomhaaDoor.Pure
open Go.RowKit Go.Proofs.YtcmccjiimiomhaaDoor.XFnStrings Go.Proofs.YtcmccjiimiomhaaDoor.AskFnStrings Go.Proofs.YtcmccjiimiomhaaDoorW.PrintWords Go.Proofs.YtcmccjiimiomhaaDoorW.PrintLast
set_option linter.unusedVariables false
set_option linter.unusedSimpArgs false

namespace Sp
def hstep (h : Int) (c : UInt8) : Int := (41 * h + (c.toNat : Int) + 1) % 999979
theorem hstep_range (h : Int) (c : UInt8) : 0 ≤ hstep h c ∧ hstep h c ≤ 999978 := by unfold hstep; omega
theorem hstep_inj {x y : Int} (c : UInt8) (hx : 0 ≤ x ∧ x ≤ 999978) (hy : 0 ≤ y ∧ y ≤ 999978) (h : hstep x c = hstep y c) : x = y := by
  unfold hstep at h; omega
theorem hstep_byte {x : Int} {c d : UInt8} (h : hstep x c = hstep x d) : c = d := by
  unfold hstep at h
  have h1 := c.toNat_lt; have h2 := d.toNat_lt
  apply UInt8.toNat_inj.mp
  omega
def hashL (l : List UInt8) (h : Int) : Int := l.foldl hstep h
theorem hash_inj : ∀ (b : List UInt8) (x y : Int), 0 ≤ x ∧ x ≤ 999978 → 0 ≤ y ∧ y ≤ 999978 → hashL b x = hashL b y → x = y
  | [], _, _, _, _, h => h
  | c :: b, x, y, hx, hy, h => hstep_inj c hx hy (hash_inj b _ _ (hstep_range x c) (hstep_range y c) h)
theorem hash_set : ∀ (x : List UInt8) (k : Nat) (c : UInt8) (h : Int), k < x.length → x[k]? ≠ some c → hashL (x.set k c) h ≠ hashL x h
  | [], k, c, h, hk, _ => by simp at hk
  | a :: x, 0, c, h, _, hn => by
    intro e
    simp only [List.set_cons_zero, hashL, List.foldl_cons] at e
    have e2 := hash_inj x _ _ (hstep_range h c) (hstep_range h a) e
    exact hn (by simp [hstep_byte e2])
  | a :: x, k + 1, c, h, hk, hn => hash_set x k c (hstep h a) (by simpa using hk) (by simpa using hn)
theorem split35 : ∀ (a b t e : List UInt8), (35 : UInt8) ∉ a → 35 ∉ t → a ++ 35 :: b = t ++ 35 :: e → a = t ∧ b = e
  | [], b, [], e, _, _, h => by simpa using h
  | [], b, y :: t, e, _, ht, h => by simp at h; exact absurd h.1 (by intro q; exact ht (by simp [← q]))
  | x :: a, b, [], e, ha, _, h => by simp at h; exact absurd h.1 (by intro q; exact ha (by simp [q]))
  | x :: a, b, y :: t, e, ha, ht, h => by
    simp only [List.cons_append, List.cons.injEq] at h
    have := split35 a b t e (fun q => ha (by simp [q])) (fun q => ht (by simp [q])) h.2
    exact ⟨by rw [h.1, this.1], this.2⟩
/-- A sealed text with another byte in it is not sealed. -/
theorem corrupt (it : Int → List UInt8) (it35 : ∀ n, 0 ≤ n → n ≤ 999978 → (35 : UInt8) ∉ it n) (inj : ∀ n m, 0 ≤ n → n ≤ 999978 → 0 ≤ m → m ≤ 999978 → it n = it m → n = m)
    (x t : List UInt8) (hx : (35 : UInt8) ∉ x) (ht : (35 : UInt8) ∉ t) (k : Nat) (c : UInt8) (hk : k < (x ++ 35 :: it (hashL x 7)).length) (hn : (x ++ 35 :: it (hashL x 7))[k]? ≠ some c) :
    (x ++ 35 :: it (hashL x 7)).set k c ≠ t ++ 35 :: it (hashL t 7) := by
  have rng : ∀ (l : List UInt8) (h : Int), 0 ≤ h ∧ h ≤ 999978 → 0 ≤ hashL l h ∧ hashL l h ≤ 999978 := by
    intro l; induction l with
    | nil => intro h hh; exact hh
    | cons a l ih => intro h hh; exact ih _ (hstep_range h a)
  have hrx := rng x 7 (by omega)
  have hrt := rng t 7 (by omega)
  intro e
  rcases Nat.lt_trichotomy k x.length with h | h | h
  · rw [List.set_append_left _ _ h] at e
    rw [List.getElem?_append_left h] at hn
    by_cases c35 : c = 35
    · subst c35
      have hs : x.set k 35 = x.take k ++ 35 :: x.drop (k + 1) := by rw [List.set_eq_take_append_cons_drop, if_pos h]
      rw [hs, List.append_assoc, List.cons_append] at e
      have h2 := split35 _ _ _ _ (fun q => hx (List.mem_of_mem_take q)) ht e
      exact it35 _ hrt.1 hrt.2 (by rw [← h2.2]; simp)
    · have hno : (35 : UInt8) ∉ x.set k c := by
        intro q
        rcases List.mem_or_eq_of_mem_set q with q | q
        · exact hx q
        · exact c35 q.symm
      obtain ⟨h1, h2⟩ := split35 _ _ _ _ hno ht e
      have := inj _ _ hrx.1 hrx.2 hrt.1 hrt.2 h2
      rw [← h1] at this
      exact hash_set x k c 7 h hn this.symm
  · subst h
    rw [List.set_append_right _ _ (Nat.le_refl _), Nat.sub_self, List.set_cons_zero] at e
    rw [List.getElem?_append_right (Nat.le_refl _), Nat.sub_self] at hn
    have hc : c ≠ 35 := fun q => hn (by simp [q])
    have : (35 : UInt8) ∈ x ++ c :: it (hashL x 7) := by rw [e]; simp
    rcases List.mem_append.mp this with q | q
    · exact hx q
    · rcases List.mem_cons.mp q with q | q
      · exact hc q.symm
      · exact it35 _ hrx.1 hrx.2 q
  · obtain ⟨j, rfl⟩ : ∃ j, k = x.length + (j + 1) := ⟨k - x.length - 1, by omega⟩
    have ej : x.length + (j + 1) - x.length = j + 1 := by omega
    rw [List.set_append_right _ _ (by omega), ej, List.set_cons_succ] at e
    rw [List.getElem?_append_right (by omega), ej, List.getElem?_cons_succ] at hn
    obtain ⟨h1, h2⟩ := split35 _ _ _ _ hx ht e
    rw [← h1] at h2
    have hj : j < (it (hashL x 7)).length := by simp at hk; omega
    have := congrArg (·[j]?) h2
    simp only [List.getElem?_set_self hj] at this
    exact hn this.symm
end Sp

theorem w64 {x : Int} (h0 : -9223372036854775808 ≤ x) (h1 : x ≤ 9223372036854775807) : wrap64 x = x := by
  unfold wrap64
  omega

theorem td {x y : Int} (h : 0 ≤ x) : Int.tdiv x y = x / y := Int.tdiv_eq_ediv_of_nonneg h
theorem tm {x y : Int} (h : 0 ≤ x) : Int.tmod x y = x % y := Int.tmod_eq_emod_of_nonneg h

/-- The decimal text of a whole number. -/
def numT (n : Int) : ByteArray := ⟨(Lib.itoa n).toArray⟩
theorem numT_data (n : Int) : (numT n).data.toList = Lib.itoa n := by simp [numT]
theorem piece10 : ∀ i : Fin 10, ((⟨#[48, 49, 50, 51, 52, 53, 54, 55, 56, 57]⟩ : ByteArray).extract i.val (i.val + 1)).data.toList = [UInt8.ofNat (48 + i.val)] := by decide +kernel
theorem bytes_ext (a b : ByteArray) (h : a.data.toList = b.data.toList) : a = b := by
  apply ByteArray.ext
  exact Array.toList_inj.mp h
theorem decDigits_le (n : Nat) (h : n ≤ 9223372036854775807) : (Lib.decDigits n).length ≤ 20 := by
  rw [Lib.decDigits_length]
  exact Lib.nDigits_le20 n (by omega)
theorem num_nat (n : Nat) : ∀ k : Nat, n ≤ 9223372036854775806 → n < k → spec_l1Num.f k (n : Int) = some ⟨(Lib.decDigits n).toArray⟩ := by
  induction n using Nat.strongRecOn with
  | ind n ih =>
    intro k hn hk
    obtain ⟨k, rfl⟩ : ∃ m, k = m + 1 := ⟨k - 1, by omega⟩
    have c0 : ¬ (n : Int) < 0 := by omega
    simp only [spec_l1Num.f, if_neg c0]
    by_cases h10 : n < 10
    · have e1 : wrap64 ((n : Int) + 1) = ((n + 1 : Nat) : Int) := (w64 (by omega) (by omega)).trans (by omega)
      have c1 : (n : Int) < 10 := by omega
      have c2 : (0 : Int) ≤ (n : Int) := by omega
      have c3 : (n : Int) ≤ ((n + 1 : Nat) : Int) := by omega
      have c4 : ((n + 1 : Nat) : Int) ≤ 10 := by omega
      rw [e1, if_pos c1, if_pos c2, if_pos c3, if_pos c4, Int.toNat_natCast, Int.toNat_natCast]
      refine congrArg some (bytes_ext _ _ ?_)
      rw [piece10 ⟨n, h10⟩, Lib.decDigits_one h10]
    · have e0 : (0 : Int) ≤ (n : Int) := by omega
      have hd : wrap64 ((n : Int).tdiv 10) = ((n / 10 : Nat) : Int) := by
        rw [td e0]
        exact (w64 (by omega) (by omega)).trans (by omega)
      have hm : (n : Int).tmod 10 = ((n % 10 : Nat) : Int) := by
        rw [tm e0]
        omega
      have e1 : wrap64 (((n % 10 : Nat) : Int) + 1) = ((n % 10 + 1 : Nat) : Int) := (w64 (by omega) (by omega)).trans (by omega)
      have c1 : ¬ (n : Int) < 10 := by omega
      have c2 : (0 : Int) ≤ ((n % 10 : Nat) : Int) := by omega
      have c3 : ((n % 10 : Nat) : Int) ≤ ((n % 10 + 1 : Nat) : Int) := by omega
      have c4 : ((n % 10 + 1 : Nat) : Int) ≤ 10 := by omega
      have hp : ((⟨#[48, 49, 50, 51, 52, 53, 54, 55, 56, 57]⟩ : ByteArray).extract (n % 10) (n % 10 + 1)).data.toList = [UInt8.ofNat (48 + n % 10)] := piece10 ⟨n % 10, by omega⟩
      have hl := decDigits_le (n / 10) (by omega)
      rw [if_neg c1, hd, hm, e1, ih (n / 10) (by omega) k (by omega) (by omega)]
      simp only [Option.bind_some]
      rw [if_pos c2, if_pos c3, if_pos c4, Int.toNat_natCast, Int.toNat_natCast]
      generalize hq : ((⟨#[48, 49, 50, 51, 52, 53, 54, 55, 56, 57]⟩ : ByteArray).extract (n % 10) (n % 10 + 1)) = q at *
      have hq1 : q.size = 1 := by
        have := congrArg List.length hp
        simpa using this
      have hs : (⟨(Lib.decDigits (n / 10)).toArray⟩ : ByteArray).size ≤ 20 := by
        show (Lib.decDigits (n / 10)).toArray.size ≤ 20
        rw [List.size_toArray]
        exact hl
      rw [if_pos (by omega)]
      refine congrArg some (bytes_ext _ _ ?_)
      rw [ByteArray.data_append, Array.toList_append, hp]
      show Lib.decDigits (n / 10) ++ _ = Lib.decDigits n
      conv => rhs; rw [Lib.decDigits, dif_neg h10]
theorem num_eq (n : Int) (h0 : -9223372036854775806 ≤ n) (h1 : n ≤ 9223372036854775806) {k : Nat} (hk : n.natAbs + 1 < k) : spec_l1Num.f k n = some (numT n) := by
  by_cases hn : n < 0
  · obtain ⟨k, rfl⟩ : ∃ m, k = m + 1 := ⟨k - 1, by omega⟩
    have e1 : wrap64 (-n) = ((n.natAbs : Nat) : Int) := (w64 (by omega) (by omega)).trans (by omega)
    have hl := decDigits_le n.natAbs (by omega)
    have hs : (⟨(Lib.decDigits n.natAbs).toArray⟩ : ByteArray).size ≤ 20 := by
      show (Lib.decDigits n.natAbs).toArray.size ≤ 20
      rw [List.size_toArray]
      exact hl
    simp only [spec_l1Num.f]
    rw [if_pos hn, e1, num_nat n.natAbs k (by omega) (by omega)]
    simp only [Option.bind_some]
    rw [if_pos (by omega)]
    refine congrArg some (bytes_ext _ _ ?_)
    rw [ByteArray.data_append, Array.toList_append, numT_data]
    unfold Lib.itoa
    rw [if_pos hn]
    rfl
  · obtain ⟨m, rfl⟩ : ∃ m : Nat, n = (m : Int) := ⟨n.toNat, by omega⟩
    rw [num_nat m k (by omega) (by omega)]
    unfold numT Lib.itoa
    rw [if_neg hn, Int.toNat_natCast]
theorem numT_size (n : Int) (h0 : -9223372036854775806 ≤ n) (h1 : n ≤ 9223372036854775806) : (numT n).size ≤ 21 := by
  have h := Lib.itoa_length_le n (by omega) (by omega)
  show (Lib.itoa n).toArray.size ≤ 21
  rw [List.size_toArray]
  exact h
theorem dec_eq (n : Int) (h0 : -9223372036854775808 ≤ n) (h1 : n ≤ 9223372036854775807) : impl_decimal.f n = some (numT n) := by
  unfold impl_decimal.f strconv_Itoa.f
  rw [if_pos ⟨h0, h1⟩]
  rfl

theorem sums (s : ByteArray) (hs : s.size ≤ 140737488351232) (d : Nat) : ∀ (k : Nat) (h i : Int), 0 ≤ h → h ≤ 999978 → 0 ≤ i → i ≤ s.size → (s.size : Int) - i = d → d < k →
    ∃ r, spec_l1Sum.l0 k s h i = some r ∧ impl_checksum.l0 k s h (s.size : Int) i = some r ∧ 0 ≤ r ∧ r ≤ 999978 ∧ ∀ m, d < m → spec_l1Sum.l0 m s h i = some r ∧ impl_checksum.l0 m s h (s.size : Int) i = some r := by
  induction d with
  | zero =>
    intro k h i hh0 hh1 h0 h1 hd hk
    have key : ∀ m, 0 < m → spec_l1Sum.l0 m s h i = some h ∧ impl_checksum.l0 m s h (s.size : Int) i = some h := by
      intro m hm
      obtain ⟨m, rfl⟩ : ∃ q, m = q + 1 := ⟨m - 1, by omega⟩
      constructor
      · simp only [spec_l1Sum.l0]; rw [if_neg (by omega)]
      · simp only [impl_checksum.l0]; rw [if_neg (by omega)]
    exact ⟨h, (key k hk).1, (key k hk).2, hh0, hh1, key⟩
  | succ d ih =>
    intro k h i hh0 hh1 h0 h1 hd hk
    have hlt : i < (s.size : Int) := by omega
    have hb := bt_range s i
    have e1 : wrap64 (41 * h) = 41 * h := w64 (by omega) (by omega)
    have e2 : wrap64 (bt s i) = bt s i := w64 (by omega) (by omega)
    have e3 : wrap64 (41 * h + bt s i) = 41 * h + bt s i := w64 (by omega) (by omega)
    have e4 : wrap64 (41 * h + bt s i + 1) = 41 * h + bt s i + 1 := w64 (by omega) (by omega)
    have e5 : Int.tmod (41 * h + bt s i + 1) 999979 = (41 * h + bt s i + 1) % 999979 := tm (by omega)
    obtain ⟨r, _, _, r0, r1, hall⟩ := ih (d + 1) ((41 * h + bt s i + 1) % 999979) (i + 1) (by omega) (by omega) (by omega) (by omega) (by omega) (by omega)
    have hw : wrap64 (i + 1) = i + 1 := w64 (by omega) (by omega)
    have key : ∀ m, d + 1 < m → spec_l1Sum.l0 m s h i = some r ∧ impl_checksum.l0 m s h (s.size : Int) i = some r := by
      intro m hm
      obtain ⟨m, rfl⟩ : ∃ q, m = q + 1 := ⟨m - 1, by omega⟩
      obtain ⟨a, b⟩ := hall m (by omega)
      constructor
      · simp only [spec_l1Sum.l0]; rw [if_pos hlt, if_pos h0, hw, e1, e2, e3, e4, e5]; exact a
      · simp only [impl_checksum.l0]; rw [if_pos hlt, if_pos h0, if_pos hlt, hw, e1, e2, e3, e4, e5]; exact b
    exact ⟨r, (key k hk).1, (key k hk).2, r0, r1, key⟩
/-- The checksum of a text: what both reckon. -/
theorem sum_ex (s : ByteArray) (hs : s.size ≤ 140737488351232) : ∃ r : Int, 0 ≤ r ∧ r ≤ 999978 ∧ ∀ m, s.size < m → spec_l1Sum.f m s = some r ∧ impl_checksum.f m s = some r := by
  obtain ⟨r, _, _, r0, r1, h⟩ := sums s hs s.size (s.size + 1) 7 0 (by omega) (by omega) (by omega) (by omega) (by omega) (by omega)
  exact ⟨r, r0, r1, fun m hm => h m hm⟩

/-- A text cut at a byte. -/
def sp (c : UInt8) (cur : List UInt8) : List UInt8 → List (List UInt8)
  | [] => [cur]
  | b :: l => if b = c then cur :: sp c [] l else sp c (cur ++ [b]) l
def mkB (l : List UInt8) : ByteArray := ⟨l.toArray⟩
theorem sp_length (c : UInt8) : ∀ (l cur : List UInt8), (sp c cur l).length ≤ l.length + 1
  | [], _ => Nat.le_refl _
  | b :: l, cur => by
    unfold sp
    split
    · have := sp_length c l []; simp only [List.length_cons]; omega
    · have := sp_length c l (cur ++ [b]); simp only [List.length_cons]; omega
theorem extract_mk (s : ByteArray) (i j : Nat) : s.extract i j = mkB ((s.data.toList.take j).drop i) := by
  apply ByteArray.ext
  rw [ByteArray.data_extract]
  apply Array.ext'
  simp [mkB, List.drop_take]
theorem size_data (s : ByteArray) : s.data.toList.length = s.size := Array.length_toList
theorem mk_data (s : ByteArray) : mkB s.data.toList = s := by simp [mkB]
theorem bt_list (s : ByteArray) (i : Nat) (h : i < s.size) : bt s (i : Int) = ((s.data.toList[i]'(by rw [size_data]; exact h)).toNat : Int) := by
  unfold bt
  rw [dif_pos (show (i : Int).toNat < s.size by omega)]
  rfl
theorem toNat_eq {x y : UInt8} : (x.toNat : Int) = (y.toNat : Int) ↔ x = y := by
  constructor
  · intro h
    exact UInt8.toNat_inj.mp (by omega)
  · intro h
    rw [h]
theorem idx_none (c : UInt8) : ∀ (l cur : List UInt8), Lib.indexByte l c < 0 → sp c cur l = [cur ++ l]
  | [], cur, _ => by simp [sp]
  | b :: l, cur, h => by
    unfold Lib.indexByte at h
    by_cases e : b = c
    · simp [e] at h
    · have hb : (b == c) = false := by simp [e]
      rw [hb] at h
      simp only [Bool.false_eq_true, if_false] at h
      have g := Lib.indexByte_ge l c
      have h2 : Lib.indexByte l c < 0 := by
        by_cases z : (Lib.indexByte l c == -1) = true
        · have := eq_of_beq z; omega
        · rw [if_neg z] at h; omega
      unfold sp
      rw [if_neg e, idx_none c l _ h2, List.append_assoc, List.singleton_append]
theorem idx_some (c : UInt8) : ∀ (l cur : List UInt8), 0 ≤ Lib.indexByte l c → (Lib.indexByte l c).toNat < l.length ∧ sp c cur l = (cur ++ l.take (Lib.indexByte l c).toNat) :: sp c [] (l.drop ((Lib.indexByte l c).toNat + 1))
  | [], cur, h => by simp [Lib.indexByte] at h
  | b :: l, cur, h => by
    unfold Lib.indexByte at h ⊢
    by_cases e : b = c
    · simp [e, sp]
    · have hb : (b == c) = false := by simp [e]
      rw [hb] at h ⊢
      simp only [Bool.false_eq_true, if_false] at h ⊢
      by_cases z : (Lib.indexByte l c == -1) = true
      · rw [if_pos z] at h; omega
      · rw [if_neg z] at h ⊢
        have g := Lib.indexByte_ge l c
        have h2 : 0 ≤ Lib.indexByte l c := by
          have : ¬ Lib.indexByte l c = -1 := fun q => z (by simp [q])
          omega
        obtain ⟨i1, i2⟩ := idx_some c l (cur ++ [b]) h2
        have et : (Lib.indexByte l c + 1).toNat = (Lib.indexByte l c).toNat + 1 := by omega
        rw [et]
        refine ⟨by simp only [List.length_cons]; omega, ?_⟩
        rw [show sp c cur (b :: l) = sp c (cur ++ [b]) l from if_neg e, i2, List.take_succ_cons, List.drop_succ_cons, List.append_assoc, List.singleton_append]
theorem u8_round (x : Int) (h0 : 0 ≤ x) (h1 : x ≤ 255) : ((x.toNat.toUInt8).toNat : Int) = x := by
  have e : (x.toNat.toUInt8).toNat = x.toNat % 256 := by simp [Nat.toUInt8]
  rw [e]; omega

def noC (c : UInt8) (s : ByteArray) : Bool := decide (Lib.indexByte s.data.toList c < 0)

theorem zHash : (⟨#[35]⟩ : ByteArray).size = 1 := rfl
/-- The text with its checksum r. -/
def sealT (s : ByteArray) (r : Int) : ByteArray := (s ++ (⟨#[35]⟩ : ByteArray)) ++ numT r
theorem sealT_size (s : ByteArray) (r : Int) : (sealT s r).size = s.size + 1 + (numT r).size := by
  unfold sealT
  rw [ByteArray.size_append, ByteArray.size_append, zHash]
theorem seal_eq (s : ByteArray) (hs : s.size ≤ 1048576) (r : Int) (r0 : 0 ≤ r) (r1 : r ≤ 999978) (h : ∀ m, s.size < m → spec_l1Sum.f m s = some r) {k : Nat} (hk : s.size + 1000000 < k) : spec_l1Seal.f k s = some (sealT s r) := by
  have hz := numT_size r (by omega) (by omega)
  unfold spec_l1Seal.f sealT
  rw [if_pos (by omega), h k (by omega)]
  simp only [Option.bind_some]
  rw [num_eq r (by omega) (by omega) (by omega)]
  simp only [Option.bind_some]
  rw [if_pos (by rw [ByteArray.size_append, zHash]; omega)]
theorem contains_hash (s : ByteArray) : strings_Contains.f s (⟨#[35]⟩ : ByteArray) = some (!noC 35 s) := by
  unfold strings_Contains.f noC
  show some (decide (0 ≤ Lib.indexByte s.data.toList 35)) = _
  refine congrArg some ?_
  rw [← decide_not]
  exact decide_eq_decide.mpr (by omega)
/-- AppendChecksum. -/
def appR (s : ByteArray) (r : Int) : ByteArray × Bool := if s.size ≤ 4000 ∧ noC 35 s = true ∧ (sealT s r).size ≤ 4000 then (sealT s r, true) else (⟨#[]⟩, false)
theorem implApp_eq (s : ByteArray) (hs : s.size ≤ 140737488351232) (r : Int) (r0 : 0 ≤ r) (r1 : r ≤ 999978) (h : ∀ m, s.size < m → impl_checksum.f m s = some r) {k : Nat} (hk : s.size + 1 < k) : impl_AppendChecksum.f k s = some (appR s r) := by
  obtain ⟨k, rfl⟩ : ∃ m, k = m + 1 := ⟨k - 1, by omega⟩
  have hz := numT_size r (by omega) (by omega)
  unfold impl_AppendChecksum.f appR
  by_cases c : (s.size : Int) > 4000
  · rw [if_pos c, if_neg (fun z => by have := z.1; omega)]
    simp [impl_AppendChecksum.j0]
  · rw [if_neg c, contains_hash]
    simp only [Option.bind_some]
    cases hn : noC 35 s with
    | false => simp [impl_AppendChecksum.j0]
    | true =>
      simp only [impl_AppendChecksum.j0, Bool.not_true, Bool.false_eq_true, if_false]
      rw [if_pos (by omega), h k (by omega)]
      simp only [Option.bind_some]
      rw [dec_eq r (by omega) (by omega)]
      simp only [Option.bind_some]
      rw [if_pos (by rw [ByteArray.size_append, zHash]; omega)]
      show (if ((sealT s r).size : Int) > 4000 then _ else some (sealT s r, true)) = _
      by_cases c2 : ((sealT s r).size : Int) > 4000
      · rw [if_pos c2, if_neg (fun z => by have := z.2.2; omega)]
      · rw [if_neg c2, if_pos ⟨by omega, trivial, by omega⟩]

theorem stands_loop (s : ByteArray) (c : UInt8) (hs : s.size ≤ 140737488351232) (d : Nat) : ∀ (k i : Nat), i + d = s.size → d < k →
    spec_l1Stands.l0 k s (c.toNat : Int) (i : Int) = some (!decide (Lib.indexByte (s.data.toList.drop i) c < 0)) := by
  induction d with
  | zero =>
    intro k i hi hk
    obtain ⟨k, rfl⟩ : ∃ m, k = m + 1 := ⟨k - 1, by omega⟩
    simp only [spec_l1Stands.l0]
    rw [if_neg (by omega), List.drop_of_length_le (by rw [size_data]; omega)]
    rfl
  | succ d ih =>
    intro k i hi hk
    obtain ⟨k, rfl⟩ : ∃ m, k = m + 1 := ⟨k - 1, by omega⟩
    have n1 : (i : Int) < (s.size : Int) := by omega
    have p0 : (0 : Int) ≤ (i : Int) := by omega
    have hL : i < s.data.toList.length := by rw [size_data]; omega
    have ew : wrap64 ((i : Int) + 1) = ((i + 1 : Nat) : Int) := (w64 (by omega) (by omega)).trans (by omega)
    have hd := List.drop_eq_getElem_cons hL
    have eb := bt_list s i (by omega)
    simp only [spec_l1Stands.l0, if_pos n1, if_pos p0, eb, toNat_eq, ew]
    rw [hd]
    unfold Lib.indexByte
    by_cases h : s.data.toList[i] = c
    · simp [h]
    · have hb : (s.data.toList[i] == c) = false := beq_eq_false_iff_ne.mpr h
      rw [if_neg h, ih k (i + 1) (by omega) (by omega), hb]
      simp only [Bool.false_eq_true, if_false]
      have g := Lib.indexByte_ge (s.data.toList.drop (i + 1)) c
      refine congrArg some (congrArg (!·) (decide_eq_decide.mpr ?_))
      by_cases z : (Lib.indexByte (s.data.toList.drop (i + 1)) c == -1) = true
      · have := eq_of_beq z
        rw [if_pos z]; omega
      · have : ¬ Lib.indexByte (s.data.toList.drop (i + 1)) c = -1 := fun q => z (by simp [q])
        rw [if_neg z]; omega
theorem stands_eq (s : ByteArray) (c : UInt8) (hs : s.size ≤ 140737488351232) {k : Nat} (hk : s.size < k) : spec_l1Stands.f k s (c.toNat : Int) = some (!noC c s) := by
  unfold spec_l1Stands.f noC
  have h := stands_loop s c hs s.size k 0 (by omega) hk
  simpa using h

theorem hashStands (s : ByteArray) (hs : s.size ≤ 1048576) {k : Nat} (hk : s.size < k) : spec_l1Stands.f k s 35 = some (!noC 35 s) := stands_eq s 35 (by omega) hk
theorem specApp_eq (s : ByteArray) (hs : s.size ≤ 1048576) (r : Int) (r0 : 0 ≤ r) (r1 : r ≤ 999978) (h : ∀ m, s.size < m → spec_l1Sum.f m s = some r) {k : Nat} (hk : s.size + 1000000 < k) : spec_AppendChecksum.f k s = some (appR s r) := by
  unfold spec_AppendChecksum.f appR
  by_cases c : (s.size : Int) > 4000
  · rw [if_pos c, if_neg (fun z => by have := z.1; omega)]
  · rw [if_neg c, hashStands s hs (by omega), seal_eq s hs r r0 r1 h hk]
    simp only [Option.bind_some]
    cases hn : noC 35 s with
    | false => simp
    | true =>
      simp only [Bool.not_true, Bool.false_eq_true, if_false]
      by_cases c2 : ((sealT s r).size : Int) > 4000
      · rw [if_pos c2, if_neg (fun z => by have := z.2.2; omega)]
      · rw [if_neg c2, if_pos ⟨by omega, trivial, by omega⟩]

/-- What stands ahead of the first mark, and whether there is a mark. -/
def preR (s : ByteArray) : ByteArray := if 0 ≤ Lib.indexByte s.data.toList 35 then s.extract 0 (Lib.indexByte s.data.toList 35).toNat else s
/-- VerifyChecksum; r: the checksum of what stands ahead of the first mark. -/
def verR (s : ByteArray) (r : Int) : ByteArray × Bool := if s.size ≤ 4000 ∧ sealT (preR s) r = s then (preR s, true) else (⟨#[]⟩, false)
theorem preR_size (s : ByteArray) : (preR s).size ≤ s.size := by
  unfold preR
  split
  · rw [ByteArray.size_extract]; omega
  · omega
theorem sealT_data (s : ByteArray) (r : Int) : (sealT s r).data.toList = s.data.toList ++ [35] ++ (numT r).data.toList := by
  unfold sealT
  rw [ByteArray.data_append, Array.toList_append, ByteArray.data_append, Array.toList_append]
theorem extract_take (s : ByteArray) (o : Nat) : (s.extract 0 o).data.toList = s.data.toList.take o := by
  rw [extract_mk]
  simp [mkB]
theorem preR_noC (s : ByteArray) : noC 35 (preR s) = true := by
  unfold preR
  have hg := Lib.indexByte_ge s.data.toList 35
  by_cases h : 0 ≤ Lib.indexByte s.data.toList 35
  · rw [if_pos h]
    obtain ⟨o, ho⟩ : ∃ o : Nat, Lib.indexByte s.data.toList 35 = o := ⟨(Lib.indexByte s.data.toList 35).toNat, by omega⟩
    obtain ⟨h1, h2⟩ := Lib.indexByte_some ho
    rw [ho, Int.toNat_natCast]
    unfold noC
    apply decide_eq_true
    rw [extract_take]
    have hg' := Lib.indexByte_ge (s.data.toList.take o) 35
    refine Int.not_le.mp fun hc => ?_
    obtain ⟨q, hq⟩ : ∃ q : Nat, Lib.indexByte (s.data.toList.take o) 35 = q := ⟨(Lib.indexByte (s.data.toList.take o) 35).toNat, by omega⟩
    obtain ⟨h3, _⟩ := Lib.indexByte_some hq
    have hlt : q < o := by
      have := (List.getElem?_eq_some_iff.mp h3).1
      rw [List.length_take] at this
      omega
    rw [List.getElem?_take, if_pos hlt] at h3
    exact h2 q hlt h3
  · rw [if_neg h]
    unfold noC
    exact decide_eq_true (by omega)
theorem implVer_eq (s : ByteArray) (hs : s.size ≤ 140737488351232) (r : Int) (r0 : 0 ≤ r) (r1 : r ≤ 999978) (h : ∀ m, (preR s).size < m → impl_checksum.f m (preR s) = some r) {k : Nat} (hk : s.size + 1 < k) : impl_VerifyChecksum.f k s = some (verR s r) := by
  have hp := preR_size s
  have hz := numT_size r (by omega) (by omega)
  have hc : strings_Cut.f s (⟨#[35]⟩ : ByteArray) = some (strings_Cut.at s 35) := by
    unfold strings_Cut.f
    show (if s.size ≤ 9223372036854775806 then some (strings_Cut.at s 35) else none) = _
    rw [if_pos (by omega)]
  have hc1 : (strings_Cut.at s 35).1 = preR s := by
    unfold strings_Cut.at preR
    split <;> rfl
  unfold impl_VerifyChecksum.f verR
  rw [hc]
  simp only [Option.bind_some]
  rw [hc1, implApp_eq (preR s) (by omega) r r0 r1 h (by omega)]
  simp only [Option.bind_some]
  by_cases q : sealT (preR s) r = s
  · have hsz := sealT_size (preR s) r
    have hsz' := hsz
    rw [q] at hsz
    by_cases c : s.size ≤ 4000
    · have h22 : (strings_Cut.at s 35).2.2 = true := by
        unfold strings_Cut.at
        by_cases hi : 0 ≤ Lib.indexByte s.data.toList 35
        · rw [if_pos hi]
        · exfalso
          have : preR s = s := by unfold preR; rw [if_neg hi]
          rw [this] at hsz
          omega
      have ea : appR (preR s) r = (sealT (preR s) r, true) := if_pos ⟨by omega, preR_noC s, by rw [q]; exact c⟩
      rw [ea, h22, if_pos (show s.size ≤ 4000 ∧ sealT (preR s) r = s from ⟨c, q⟩)]
      simp [q]
    · have ea : appR (preR s) r = (⟨#[]⟩, false) := if_neg (fun z => c (by have := z.2.2; rw [q] at this; exact this))
      rw [ea, if_neg (show ¬ (s.size ≤ 4000 ∧ sealT (preR s) r = s) from fun z => c z.1)]
      simp
  · rw [if_neg (show ¬ (s.size ≤ 4000 ∧ sealT (preR s) r = s) from fun z => q z.2)]
    have q' : ¬ (sealT (preR s) r).toList = s.toList := fun z => q (bytes_ext _ _ (by rw [← Lib.toList_data, ← Lib.toList_data]; exact z))
    unfold appR
    by_cases cc : (preR s).size ≤ 4000 ∧ noC 35 (preR s) = true ∧ (sealT (preR s) r).size ≤ 4000
    · simp only [if_pos cc, if_neg q']
      split <;> simp
    · simp only [if_neg cc]
      simp

theorem l1In_eq (a b c : Int) : spec_l1In.f a b c = some (decide (b ≤ a ∧ a ≤ c)) := by
  unfold spec_l1In.f
  by_cases h : a ≥ b
  · rw [if_pos h]
    have h' : b ≤ a := h
    simp [h']
  · rw [if_neg h]
    have h' : ¬ b ≤ a := h
    simp [h']

theorem within_eq (a b c : Int) : impl_within.f a b c = some (decide (b ≤ a ∧ a ≤ c)) := by
  unfold impl_within.f
  by_cases h : a ≥ b
  · rw [if_pos h]
    have h' : b ≤ a := h
    simp [h']
  · rw [if_neg h]
    have h' : ¬ b ≤ a := h
    simp [h']

theorem digit_val : ∀ d : Fin 10, Lib.digitVal (UInt8.ofNat (48 + d.val)) = some d.val := by decide
theorem decFrom_app (b : UInt8) : ∀ (l : List UInt8) (acc : Nat), Lib.decFrom acc (l ++ [b]) = (Lib.decFrom acc l).bind fun n => (Lib.digitVal b).map fun d => n * 10 + d
  | [], acc => by
    simp only [List.nil_append, Lib.decFrom, Option.bind_some]
    cases Lib.digitVal b <;> rfl
  | c :: l, acc => by
    simp only [List.cons_append, Lib.decFrom]
    cases h : Lib.digitVal c with
    | none => rfl
    | some d => exact decFrom_app b l _
theorem decFrom_digits (u : Nat) : Lib.decFrom 0 (Lib.decDigits u) = some u := by
  induction u using Nat.strongRecOn with
  | ind u ih =>
    by_cases h : u < 10
    · rw [Lib.decDigits_one h]
      have := digit_val ⟨u, h⟩
      simp only [Lib.decFrom]
      simp only at this
      rw [this]
      simp
    · rw [Lib.decDigits, dif_neg h, decFrom_app, ih (u / 10) (by omega)]
      have := digit_val ⟨u % 10, by omega⟩
      simp only at this
      rw [this]
      simp only [Option.bind_some, Option.map_some]
      exact congrArg some (by omega)
theorem nDigits_le : ∀ (k u : Nat), u < 10 ^ (k + 1) → Lib.nDigits u ≤ k + 1
  | 0, u, h => by
    rw [Lib.nDigits_small (by simpa using h)]
    omega
  | k + 1, u, h => by
    by_cases c : u < 10
    · rw [Lib.nDigits_small c]; omega
    · rw [Lib.nDigits_big c]
      have := nDigits_le k (u / 10) (by rw [Nat.pow_succ] at h; omega)
      omega
theorem decDigits_len (u : Nat) (h : u ≤ 999999) : 1 ≤ (Lib.decDigits u).length ∧ (Lib.decDigits u).length ≤ 6 := by
  rw [Lib.decDigits_length]
  exact ⟨Lib.nDigits_pos u, nDigits_le 5 u (by omega)⟩
theorem decDigits_head (u : Nat) : ∃ b r, Lib.decDigits u = b :: r ∧ 48 ≤ b.toNat ∧ b.toNat ≤ 57 := by
  have h := decFrom_digits u
  cases hl : Lib.decDigits u with
  | nil =>
    have := Lib.nDigits_pos u
    rw [← Lib.decDigits_length, hl] at this
    simp at this
  | cons b r =>
    rw [hl] at h
    simp only [Lib.decFrom] at h
    refine ⟨b, r, rfl, ?_⟩
    cases hd : Lib.digitVal b with
    | none => rw [hd] at h; cases h
    | some d => exact ⟨(Lib.digitVal_eq hd).1, (Lib.digitVal_eq hd).2.1⟩
theorem decNat_digits (u : Nat) : Lib.decNat (Lib.decDigits u) = some u := by
  obtain ⟨b, r, e, _⟩ := decDigits_head u
  unfold Lib.decNat
  rw [decFrom_digits, e]
  rfl
theorem atoi_itoa (m : Int) (h0 : -999999 ≤ m) (h1 : m ≤ 999999) : Lib.atoiAll (Lib.itoa m) = .ok m := by
  have hl := decDigits_len m.natAbs (by omega)
  have hl2 : (Lib.itoa m).length ≤ 18 := by
    unfold Lib.itoa
    split
    · simp only [List.length_cons]; omega
    · rw [show m.toNat = m.natAbs by omega]; omega
  rw [Lib.atoiAll_short _ hl2]
  unfold Lib.itoa
  by_cases h : m < 0
  · rw [if_pos h]
    simp only [Lib.atoi, beq_self_eq_true, if_true, decNat_digits, Option.map_some, Lib.NumEnd.ofOption]
    exact congrArg _ (by omega)
  · rw [if_neg h]
    obtain ⟨b, r, e, hb0, hb1⟩ := decDigits_head m.toNat
    have n45 : (b == 45) = false := beq_eq_false_iff_ne.mpr (fun z => by subst z; exact absurd hb0 (by decide))
    have n43 : (b == 43) = false := beq_eq_false_iff_ne.mpr (fun z => by subst z; exact absurd hb0 (by decide))
    have hd := decNat_digits m.toNat
    rw [e] at hd ⊢
    simp only [Lib.atoi, n45, n43, Bool.false_eq_true, if_false, hd, Option.map_some, Lib.NumEnd.ofOption]
    exact congrArg _ (by omega)
/-- What a reader of numbers answers at a text. -/
structure ReadsAs (s : ByteArray) (v : Int × Bool) : Prop where
  hit : ∀ m : Int, -999999 ≤ m → m ≤ 999999 → s.data.toList = Lib.itoa m → v = (m, true)
  only : v = (0, false) ∨ ∃ m : Int, -999999 ≤ m ∧ m ≤ 999999 ∧ s.data.toList = Lib.itoa m ∧ v = (m, true)
theorem ReadsAs.same {s : ByteArray} {v w : Int × Bool} (h : ReadsAs s v) (k : ReadsAs s w) : v = w := by
  rcases h.only with h0 | ⟨m, a, b, c, h1⟩
  · rcases k.only with k0 | ⟨m, a, b, c, k1⟩
    · rw [h0, k0]
    · rw [k1]; exact h.hit m a b c
  · rw [h1]; exact (k.hit m a b c).symm
theorem same_text (s : ByteArray) (n : Int) : (numT n).toList = s.toList ↔ s.data.toList = Lib.itoa n := by
  rw [Lib.toList_data, Lib.toList_data, numT_data]
  exact eq_comm
theorem implRead_eq (s : ByteArray) (hs : s.size ≤ 281474976710656) : ∃ v, impl_ParseInt.f s = some v ∧ ReadsAs s v := by
  unfold impl_ParseInt.f
  rw [if_pos hs]
  cases ha : Lib.atoiAll s.data.toList with
  | ok n =>
    have hb := Lib.atoiAll_bounds ha
    simp only
    rw [if_pos hb, dec_eq n hb.1 hb.2]
    simp only [Option.bind_some]
    have key : ∀ m : Int, -999999 ≤ m → m ≤ 999999 → s.data.toList = Lib.itoa m → m = n := fun m h0 h1 e => by
      rw [e, atoi_itoa m h0 h1] at ha
      injection ha
    by_cases c : (numT n).toList = s.toList
    · rw [if_pos c, within_eq]
      simp only [Option.bind_some]
      by_cases hw : -999999 ≤ n ∧ n ≤ 999999
      · rw [decide_eq_true hw, if_pos rfl]
        exact ⟨_, rfl, ⟨fun m h0 h1 e => by rw [key m h0 h1 e], .inr ⟨n, hw.1, hw.2, (same_text s n).mp c, rfl⟩⟩⟩
      · rw [decide_eq_false hw, if_neg (by simp)]
        exact ⟨_, rfl, ⟨fun m h0 h1 e => absurd (show -999999 ≤ n ∧ n ≤ 999999 from key m h0 h1 e ▸ ⟨h0, h1⟩) hw, .inl rfl⟩⟩
    · rw [if_neg c]
      exact ⟨_, rfl, ⟨fun m h0 h1 e => absurd ((same_text s n).mpr (by rw [← key m h0 h1 e]; exact e)) c, .inl rfl⟩⟩
  | range =>
    exact ⟨_, rfl, ⟨fun m h0 h1 e => (by rw [e, atoi_itoa m h0 h1] at ha; cases ha), .inl rfl⟩⟩
  | _ =>
    exact ⟨_, rfl, ⟨fun m h0 h1 e => (by rw [e, atoi_itoa m h0 h1] at ha; cases ha), .inl rfl⟩⟩
/-- What is answered behind the digits. -/
def finR (s t : ByteArray) (m : Nat) : Int × Bool := if t.size < s.size then (if (numT (-(m : Int))).toList = s.toList then (-(m : Int), true) else (0, false)) else (if (numT (m : Int)).toList = s.toList then ((m : Int), true) else (0, false))
theorem read_loop (s t : ByteArray) (ht : t.size ≤ 6) (hs : s.size ≤ 140737488351232) (d : Nat) : ∀ (k i n : Nat), i + d = t.size → n < 10 ^ i → d + 1000002 < k →
    spec_l1Read.l0 k s t (n : Int) (i : Int) = some (match Lib.decFrom n (t.data.toList.drop i) with | none => (0, false) | some m => finR s t m) := by
  induction d with
  | zero =>
    intro k i n hi hn hk
    obtain ⟨k, rfl⟩ : ∃ m, k = m + 1 := ⟨k - 1, by omega⟩
    have h6 : n < 10 ^ 6 := Nat.lt_of_lt_of_le hn (Nat.pow_le_pow_right (by decide) (by omega))
    have e6 : (10 : Nat) ^ 6 = 1000000 := by decide
    rw [e6] at h6
    have c1 : ¬ (i : Int) < (t.size : Int) := by omega
    have hd : t.data.toList.drop i = [] := List.drop_of_length_le (by rw [size_data]; omega)
    have ew : wrap64 (-(n : Int)) = -(n : Int) := w64 (by omega) (by omega)
    simp only [spec_l1Read.l0, if_neg c1, ew, num_eq (-(n : Int)) (by omega) (by omega) (show (-(n : Int)).natAbs + 1 < k by omega), num_eq (n : Int) (by omega) (by omega) (show (n : Int).natAbs + 1 < k by omega), Option.bind_some, hd, Lib.decFrom, finR]
    by_cases c : t.size < s.size
    · rw [if_pos (show (t.size : Int) < (s.size : Int) by omega), if_pos c]
      split <;> rfl
    · rw [if_neg (show ¬ (t.size : Int) < (s.size : Int) by omega), if_neg c]
      split <;> rfl
  | succ d ih =>
    intro k i n hi hn hk
    obtain ⟨k, rfl⟩ : ∃ m, k = m + 1 := ⟨k - 1, by omega⟩
    have h6 : n < 10 ^ 6 := Nat.lt_of_lt_of_le hn (Nat.pow_le_pow_right (by decide) (by omega))
    have e6 : (10 : Nat) ^ 6 = 1000000 := by decide
    rw [e6] at h6
    have hlt : i < t.data.toList.length := by rw [size_data]; omega
    have c1 : (i : Int) < (t.size : Int) := by omega
    have c2 : 0 ≤ (i : Int) := by omega
    have hd := List.drop_eq_getElem_cons hlt
    have eb := bt_list t i (by omega)
    have ew : wrap64 ((i : Int) + 1) = ((i + 1 : Nat) : Int) := (w64 (by omega) (by omega)).trans (by omega)
    simp only [spec_l1Read.l0, if_pos c1, if_pos c2, eb, ew]
    rw [hd]
    generalize hbb : t.data.toList[i] = b
    simp only [Lib.decFrom]
    have hb := b.toNat_lt
    by_cases h48 : (b.toNat : Int) < 48
    · have : Lib.digitVal b = none := by unfold Lib.digitVal; rw [if_neg (by omega)]
      rw [if_pos h48, this]
    · by_cases h57 : (b.toNat : Int) > 57
      · have : Lib.digitVal b = none := by unfold Lib.digitVal; rw [if_neg (by omega)]
        rw [if_neg h48, if_pos h57, this]
      · have hv : Lib.digitVal b = some (b.toNat - 48) := by unfold Lib.digitVal; rw [if_pos (by omega)]
        have e1 : wrap64 (10 * (n : Int)) = 10 * (n : Int) := w64 (by omega) (by omega)
        have e2 : wrap64 (10 * (n : Int) + ((b.toNat : Int) - 48) % 256) = ((n * 10 + (b.toNat - 48) : Nat) : Int) := by
          rw [show ((b.toNat : Int) - 48) % 256 = (b.toNat : Int) - 48 by omega]
          exact (w64 (by omega) (by omega)).trans (by omega)
        rw [if_neg h48, if_neg h57, hv, e1, e2]
        exact ih k (i + 1) (n * 10 + (b.toNat - 48)) (by omega) (by rw [Nat.pow_succ]; omega) (by omega)
/-- The digits behind a sign. -/
def bodyT (s : ByteArray) : ByteArray := if 1 < s.size ∧ (bt s 0) = 45 then s.extract 1 s.size else s
def readV (s : ByteArray) : Int × Bool := if 1 ≤ (bodyT s).size ∧ (bodyT s).size ≤ 6 then (match Lib.decFrom 0 (bodyT s).data.toList with | none => (0, false) | some m => finR s (bodyT s) m) else (0, false)
theorem specRead_eq (s : ByteArray) (hs : s.size ≤ 140737488351232) {k : Nat} (hk : 1000020 < k) : spec_l1Read.f k s = some (readV s) := by
  obtain ⟨k, rfl⟩ : ∃ m, k = m + 2 := ⟨k - 2, by omega⟩
  have j1 : ∀ t : ByteArray, spec_l1Read.j1 (k + 1) s t = some (if 1 ≤ t.size ∧ t.size ≤ 6 then (match Lib.decFrom 0 t.data.toList with | none => (0, false) | some m => finR s t m) else (0, false)) := by
    intro t
    simp only [spec_l1Read.j1, l1In_eq, Option.bind_some]
    by_cases h : 1 ≤ t.size ∧ t.size ≤ 6
    · have hl := read_loop s t h.2 hs t.size k 0 0 (by omega) (by decide) (by omega)
      rw [decide_eq_true (show (1 : Int) ≤ (t.size : Int) ∧ (t.size : Int) ≤ 6 by omega), if_pos rfl, if_pos h]
      exact hl
    · rw [decide_eq_false (show ¬ ((1 : Int) ≤ (t.size : Int) ∧ (t.size : Int) ≤ 6) by omega), if_neg (by simp), if_neg h]
  unfold spec_l1Read.f readV
  by_cases c : (s.size : Int) > 1
  · rw [if_pos c, if_pos (by omega)]
    simp only [spec_l1Read.j0]
    by_cases hb : bt s 0 = 45
    · have e : bodyT s = s.extract 1 s.size := if_pos ⟨by omega, hb⟩
      rw [if_pos (show (bt s 0 == 45) = true by rw [hb]; rfl), if_pos (by omega), j1, e]
    · have e : bodyT s = s := if_neg (fun z => hb z.2)
      rw [if_neg (show ¬ (bt s 0 == 45) = true by simpa using hb), j1, e]
  · have e : bodyT s = s := if_neg (fun z => c (by omega))
    rw [if_neg c]
    simp only [spec_l1Read.j0, Bool.false_eq_true, if_false]
    rw [j1, e]
theorem readV_reads (s : ByteArray) : ReadsAs s (readV s) := by
  constructor
  · intro m h0 h1 e
    have hz : s.size = (Lib.itoa m).length := by rw [← e, size_data]
    have hl := decDigits_len m.natAbs (by omega)
    by_cases h : m < 0
    · have ei : Lib.itoa m = 45 :: Lib.decDigits m.natAbs := if_pos h
      rw [ei] at e hz
      simp only [List.length_cons] at hz
      have hb : bt s 0 = 45 := by
        have := bt_list s 0 (by omega)
        simp only [e, List.getElem_cons_zero] at this
        exact this
      have eb : bodyT s = s.extract 1 s.size := if_pos ⟨by omega, hb⟩
      have hd : (s.extract 1 s.size).data.toList = Lib.decDigits m.natAbs := by
        rw [extract_mk, List.take_of_length_le (Nat.le_of_eq (size_data s)), e]
        simp [mkB]
      have hzt : (s.extract 1 s.size).size = (Lib.decDigits m.natAbs).length := by rw [← hd, size_data]
      unfold readV
      rw [eb, if_pos (by omega), hd, decFrom_digits]
      unfold finR
      have hn : (-(m.natAbs : Int)) = m := by omega
      simp only [hn]
      rw [if_pos (by omega), if_pos ((same_text s m).mpr (by rw [ei]; exact e))]
    · have ei : Lib.itoa m = Lib.decDigits m.natAbs := by unfold Lib.itoa; rw [if_neg h, show m.toNat = m.natAbs by omega]
      rw [ei] at e hz
      obtain ⟨b, r, ed, hb0, hb1⟩ := decDigits_head m.natAbs
      have eb : bodyT s = s := by
        refine if_neg (fun z => ?_)
        have := bt_list s 0 (by omega)
        simp only [e, ed, List.getElem_cons_zero] at this
        have h45 := z.2
        rw [show bt s 0 = ((b.toNat : Nat) : Int) from this] at h45
        omega
      unfold readV
      rw [eb, if_pos (by omega), e, decFrom_digits]
      unfold finR
      have hn : ((m.natAbs : Nat) : Int) = m := by omega
      simp only [hn]
      rw [if_neg (by omega), if_pos ((same_text s m).mpr (by rw [ei]; exact e))]
  · unfold readV
    split
    · rename_i hz
      cases hd : Lib.decFrom 0 (bodyT s).data.toList with
      | none => exact .inl rfl
      | some m =>
        have hlt := Lib.decFrom_lt _ _ _ hd
        rw [size_data] at hlt
        have h6 : (10 : Nat) ^ (bodyT s).size ≤ 10 ^ 6 := Nat.pow_le_pow_right (by decide) hz.2
        have e6 : (10 : Nat) ^ 6 = 1000000 := by decide
        rw [e6] at h6
        simp only
        unfold finR
        split
        · split
          · rename_i c
            exact .inr ⟨_, by omega, by omega, (same_text s _).mp c, rfl⟩
          · exact .inl rfl
        · split
          · rename_i c
            exact .inr ⟨_, by omega, by omega, (same_text s _).mp c, rfl⟩
          · exact .inl rfl
    · exact .inl rfl

theorem rd_u8 {l : List Int} (hl : ∀ y ∈ l, (Lit.int .u8 y).wf = true) (i : Int) : 0 ≤ rd l i ∧ rd l i ≤ 255 := by
  unfold rd
  rw [List.getD_eq_getElem?_getD]
  cases e : l[i.toNat]? with
  | none => simp
  | some x =>
    have h := hl x (List.mem_of_getElem? e)
    simp only [Lit.wf, Bool.and_eq_true, decide_eq_true_eq] at h
    have h2 : 0 ≤ x ∧ x ≤ 255 := h
    simpa using h2
theorem and_255 (x : Int) (h0 : 0 ≤ x) (h1 : x < 18446744073709551616) : 0 ≤ Go.bits .and .u64 x 255 ∧ Go.bits .and .u64 x 255 ≤ 255 := by
  have h := bits_and_u64_nat x.toNat 255 (by omega) (by omega)
  have e : ((x.toNat : Nat) : Int) = x := Int.toNat_of_nonneg h0
  rw [e] at h
  have e2 : ((255 : Nat) : Int) = 255 := rfl
  rw [e2] at h
  rw [h]
  have := Nat.and_le_right (n := x.toNat) (m := 255)
  omega
/-- A state's place: not negative, and not too far. -/
def Pl (p : Int) : Prop := 0 ≤ p ∧ p ≤ 1000000
theorem u64_bound (x : Int) : 0 ≤ IntKind.u64.wrap x ∧ IntKind.u64.wrap x < 18446744073709551616 := by
  have e : IntKind.u64.wrap x = x % 18446744073709551616 := rfl
  rw [e]
  omega
theorem next_ok {l : List Int} (hl : ∀ y ∈ l, (Lit.int .u8 y).wf = true) (p q : Int) (h0 : 0 ≤ p) (h1 : p ≤ 1000000) : ∃ v p' q', spec_l1Cur_next.f l p q = some (v, p', q') ∧ 0 ≤ v ∧ v ≤ 255 ∧ 0 ≤ p' ∧ p' ≤ p + 1 := by
  have ep : wrap64 (p + 1) = p + 1 := w64 (by omega) (by omega)
  have hd : ∀ x : Int, 0 ≤ wrap64 (Go.bits .and .u64 (IntKind.u64.wrap x / 1099511627776) 255) ∧ wrap64 (Go.bits .and .u64 (IntKind.u64.wrap x / 1099511627776) 255) ≤ 255 := by
    intro x
    have hb := u64_bound x
    have h := and_255 (IntKind.u64.wrap x / 1099511627776) (by omega) (by omega)
    rw [w64 (by omega) (by omega)]
    exact h
  unfold spec_l1Cur_next.f
  rw [ep]
  have hr := rd_u8 hl p
  have er : wrap64 (rd l p) = rd l p := w64 (by omega) (by omega)
  by_cases c : p < (l.length : Int)
  · have c2 : p + 1 ≤ (l.length : Int) := by omega
    simp only [if_pos c, if_pos h0, if_pos c2]
    exact ⟨_, _, _, rfl, by rw [er]; exact hr.1, by rw [er]; exact hr.2, by omega, by omega⟩
  · have c2 : ¬ p + 1 ≤ (l.length : Int) := by omega
    simp only [if_neg c, if_neg c2]
    exact ⟨_, _, _, rfl, (hd _).1, (hd _).2, by omega, by omega⟩
theorem pick_ok {l : List Int} (hl : ∀ y ∈ l, (Lit.int .u8 y).wf = true) (p q n : Int) (h0 : 0 ≤ p) (h1 : p ≤ 900000) (hn : 1 ≤ n) (hn1 : n ≤ 1000000) : ∃ v p' q', spec_l1Cur_pick.f l p q n = some (v, p', q') ∧ 0 ≤ v ∧ v < n ∧ 0 ≤ p' ∧ p' ≤ p + 2 := by
  unfold spec_l1Cur_pick.f
  by_cases c : n ≤ 1
  · rw [if_pos c]
    exact ⟨_, _, _, rfl, by omega, by omega, by omega, by omega⟩
  · have cz : ¬ n = 0 := by omega
    obtain ⟨v, p1, q1, e1, a1, a2, a3, a4⟩ := next_ok hl p q h0 (by omega)
    rw [if_neg c, e1]
    simp only [Option.bind_some, if_neg cz]
    by_cases c2 : n > 200
    · obtain ⟨v2, p2, q2, e2, b1, b2, b3, b4⟩ := next_ok hl p1 q1 a3 (by omega)
      rw [if_pos c2, e2]
      simp only [Option.bind_some]
      rw [w64 (x := v * 256) (by omega) (by omega), w64 (x := v * 256 + v2) (by omega) (by omega), Int.tmod_eq_emod_of_nonneg (by omega)]
      exact ⟨_, _, _, rfl, Int.emod_nonneg _ cz, Int.emod_lt_of_pos _ (by omega), by omega, by omega⟩
    · rw [if_neg c2, Int.tmod_eq_emod_of_nonneg (by omega)]
      exact ⟨_, _, _, rfl, Int.emod_nonneg _ cz, Int.emod_lt_of_pos _ (by omega), by omega, by omega⟩

theorem among_ok {l : List Int} (hl : ∀ y ∈ l, (Lit.int .u8 y).wf = true) (p q : Int) (xs : List Int) (h0 : 0 ≤ p) (h1 : p ≤ 900000) (hx : 1 ≤ xs.length) (hx1 : xs.length ≤ 1000000) {P : Int → Prop} (hP : ∀ x ∈ xs, P x) : ∃ v p' q', spec_l1Cur_among.f l p q xs = some (v, p', q') ∧ P v ∧ 0 ≤ p' ∧ p' ≤ p + 2 := by
  obtain ⟨v, p1, q1, e1, a1, a2, a3, a4⟩ := pick_ok hl p q (xs.length : Int) h0 h1 (by omega) (by omega)
  unfold spec_l1Cur_among.f
  rw [e1]
  simp only [Option.bind_some]
  rw [if_pos a1, if_pos a2]
  refine ⟨_, _, _, rfl, ?_, a3, a4⟩
  have hv : v.toNat < xs.length := by omega
  have e : rd xs v = xs[v.toNat] := by unfold rd; rw [List.getD_eq_getElem?_getD, List.getElem?_eq_getElem hv]; rfl
  rw [e]
  exact hP _ (List.getElem_mem hv)

theorem one_ok {l : List Int} (hl : ∀ y ∈ l, (Lit.int .u8 y).wf = true) (p q n : Int) (h0 : 0 ≤ p) (h1 : p ≤ 900000) (hn : 1 ≤ n) (hn1 : n ≤ 1000000) : ∃ b p' q', spec_l1Cur_one.f l p q n = some (b, p', q') ∧ 0 ≤ p' ∧ p' ≤ p + 2 := by
  obtain ⟨v, p1, q1, e1, a1, a2, a3, a4⟩ := pick_ok hl p q n h0 h1 hn hn1
  unfold spec_l1Cur_one.f
  rw [e1]
  exact ⟨_, _, _, rfl, a3, a4⟩

theorem of_ok {l : List Int} (hl : ∀ y ∈ l, (Lit.int .u8 y).wf = true) (p q : Int) (xs : List ByteArray) (h0 : 0 ≤ p) (h1 : p ≤ 900000) (hx : 1 ≤ xs.length) (hx1 : xs.length ≤ 1000000) {P : ByteArray → Prop} (hP : ∀ x ∈ xs, P x) : ∃ s p' q', spec_l1Cur_of.f l p q xs = some (s, p', q') ∧ P s ∧ 0 ≤ p' ∧ p' ≤ p + 2 := by
  obtain ⟨v, p1, q1, e1, a1, a2, a3, a4⟩ := pick_ok hl p q (xs.length : Int) h0 h1 (by omega) (by omega)
  unfold spec_l1Cur_of.f
  rw [e1]
  simp only [Option.bind_some]
  rw [if_pos a1, if_pos a2]
  refine ⟨_, _, _, rfl, hP _ ?_, a3, a4⟩
  have hlt : v.toNat < xs.length := by omega
  have e : rdOf ByteArray.empty xs v = xs[v.toNat] := by simp [rdOf, hlt]
  rw [e]
  exact List.getElem_mem hlt
theorem any1_ok {l : List Int} (hl : ∀ y ∈ l, (Lit.int .u8 y).wf = true) (p q : Int) (h0 : 0 ≤ p) (h1 : p ≤ 900000) : ∃ s p' q', spec_l1Cur_any1.f l p q = some (s, p', q') ∧ s.size ≤ 10 ∧ 0 ≤ p' ∧ p' ≤ p + 2 := by
  unfold spec_l1Cur_any1.f
  obtain ⟨s, p1, q1, e1, a1, a2, a3⟩ := of_ok hl p q ([(⟨#[]⟩ : ByteArray), (⟨#[97]⟩ : ByteArray), (⟨#[97, 44, 98]⟩ : ByteArray), (⟨#[115, 111, 109, 101, 32, 119, 111, 114, 100, 115]⟩ : ByteArray), (⟨#[120, 35, 121]⟩ : ByteArray), (⟨#[45, 49, 50]⟩ : ByteArray), (⟨#[0, 255]⟩ : ByteArray), (⟨#[44, 44]⟩ : ByteArray), (⟨#[48]⟩ : ByteArray)] : List ByteArray) h0 h1 (by decide) (by decide) (P := fun s => s.size ≤ 10) (by decide)
  rw [e1]
  exact ⟨_, _, _, rfl, a1, a2, a3⟩

theorem itoa_nat (n : Int) (h : 0 ≤ n) : Lib.itoa n = Lib.decDigits n.toNat := by unfold Lib.itoa; rw [if_neg (by omega)]
theorem decFrom_no35 : ∀ (l : List UInt8) (acc v : Nat), Lib.decFrom acc l = some v → (35 : UInt8) ∉ l
  | [], _, _, _ => by simp
  | b :: l, acc, v, h => by
    simp only [Lib.decFrom] at h
    cases hb : Lib.digitVal b with
    | none => rw [hb] at h; cases h
    | some d =>
      rw [hb] at h
      intro hm
      rcases List.mem_cons.mp hm with e | hm
      · rw [← e] at hb
        have : Lib.digitVal 35 = none := by decide
        rw [this] at hb; cases hb
      · exact decFrom_no35 l _ v h hm
theorem itoa_no35 (n : Int) (h0 : 0 ≤ n) (h1 : n ≤ 999978) : (35 : UInt8) ∉ Lib.itoa n := by
  rw [itoa_nat n h0]
  exact decFrom_no35 _ 0 _ (decFrom_digits n.toNat)
theorem itoa_inj (n m : Int) (h0 : 0 ≤ n) (h1 : n ≤ 999978) (h2 : 0 ≤ m) (h3 : m ≤ 999978) (h : Lib.itoa n = Lib.itoa m) : n = m := by
  have a := atoi_itoa n (by omega) (by omega)
  have b := atoi_itoa m (by omega) (by omega)
  rw [h, b] at a
  injection a with a
  exact a.symm
/-- The checksum, as a number. -/
def hashOf (s : ByteArray) : Int := Sp.hashL s.data.toList 7
theorem hashL_range : ∀ (l : List UInt8) (h : Int), 0 ≤ h ∧ h ≤ 999978 → 0 ≤ Sp.hashL l h ∧ Sp.hashL l h ≤ 999978
  | [], _, h => h
  | a :: l, h, _ => hashL_range l _ (Sp.hstep_range h a)
theorem sumsV (s : ByteArray) (hs : s.size ≤ 140737488351232) (d : Nat) : ∀ (k i : Nat) (h : Int), 0 ≤ h → h ≤ 999978 → i + d = s.size → d < k →
    spec_l1Sum.l0 k s h (i : Int) = some (Sp.hashL (s.data.toList.drop i) h) ∧ impl_checksum.l0 k s h (s.size : Int) (i : Int) = some (Sp.hashL (s.data.toList.drop i) h) := by
  have hsz : s.data.toList.length = s.size := by simp
  induction d with
  | zero =>
    intro k i h h0 h1 hd hk
    obtain ⟨k, rfl⟩ : ∃ m, k = m + 1 := ⟨k - 1, by omega⟩
    rw [List.drop_of_length_le (by omega)]
    constructor
    · simp only [spec_l1Sum.l0]; rw [if_neg (by omega)]; rfl
    · simp only [impl_checksum.l0]; rw [if_neg (by omega)]; rfl
  | succ d ih =>
    intro k i h h0 h1 hd hk
    obtain ⟨k, rfl⟩ : ∃ m, k = m + 1 := ⟨k - 1, by omega⟩
    have hi : i < s.size := by omega
    have hil : i < s.data.toList.length := by omega
    have hlt : (i : Int) < (s.size : Int) := by omega
    have h0i : 0 ≤ (i : Int) := by omega
    have hb := bt_range s (i : Int)
    have hbl := bt_list s i hi
    have e1 : wrap64 (41 * h) = 41 * h := w64 (by omega) (by omega)
    have e2 : wrap64 (bt s (i : Int)) = bt s (i : Int) := w64 (by omega) (by omega)
    have e3 : wrap64 (41 * h + bt s (i : Int)) = 41 * h + bt s (i : Int) := w64 (by omega) (by omega)
    have e4 : wrap64 (41 * h + bt s (i : Int) + 1) = 41 * h + bt s (i : Int) + 1 := w64 (by omega) (by omega)
    have e5 : Int.tmod (41 * h + bt s (i : Int) + 1) 999979 = (41 * h + bt s (i : Int) + 1) % 999979 := tm (by omega)
    have hw : wrap64 ((i : Int) + 1) = ((i + 1 : Nat) : Int) := (w64 (by omega) (by omega)).trans (by omega)
    have es : (41 * h + bt s (i : Int) + 1) % 999979 = Sp.hstep h (s.data.toList[i]) := by unfold Sp.hstep; rw [hbl]
    have hr := Sp.hstep_range h (s.data.toList[i])
    obtain ⟨a, b⟩ := ih k (i + 1) (Sp.hstep h (s.data.toList[i])) hr.1 hr.2 (by omega) (by omega)
    have ed : Sp.hashL (s.data.toList.drop i) h = Sp.hashL (s.data.toList.drop (i + 1)) (Sp.hstep h (s.data.toList[i])) := by
      rw [List.drop_eq_getElem_cons hil]; rfl
    rw [ed]
    constructor
    · simp only [spec_l1Sum.l0]; rw [if_pos hlt, if_pos h0i, hw, e1, e2, e3, e4, e5, es]; exact a
    · simp only [impl_checksum.l0]; rw [if_pos hlt, if_pos h0i, if_pos hlt, hw, e1, e2, e3, e4, e5, es]; exact b
theorem sumV (s : ByteArray) (hs : s.size ≤ 140737488351232) : ∀ m, s.size < m → spec_l1Sum.f m s = some (hashOf s) ∧ impl_checksum.f m s = some (hashOf s) := fun m hm => by
  have h := sumsV s hs s.size m 0 7 (by omega) (by omega) (by omega) hm
  exact h
theorem hashOf_range (s : ByteArray) : 0 ≤ hashOf s ∧ hashOf s ≤ 999978 := hashL_range _ 7 (by omega)
theorem idx_nonneg (c : UInt8) (l : List UInt8) (i : Nat) (h : l[i]? = some c) : 0 ≤ Lib.indexByte l c := by
  refine Int.not_lt.mp fun hc => ?_
  have := Lib.indexByte_none (l := l) (c := c) (by have := Lib.indexByte_ge l c; omega)
  exact this i h
theorem noC_mem (s : ByteArray) : noC 35 s = true ↔ (35 : UInt8) ∉ s.data.toList := by
  unfold noC
  rw [decide_eq_true_eq]
  have hg := Lib.indexByte_ge s.data.toList 35
  constructor
  · intro h hm
    obtain ⟨i, hi, e⟩ := List.getElem_of_mem hm
    exact absurd h (Int.not_lt.mpr (idx_nonneg 35 s.data.toList i (by rw [List.getElem?_eq_getElem hi, e])))
  · intro h
    refine Int.not_le.mp fun hc => h ?_
    obtain ⟨q, hq⟩ : ∃ q : Nat, Lib.indexByte s.data.toList 35 = q := ⟨(Lib.indexByte s.data.toList 35).toNat, by omega⟩
    exact List.mem_of_getElem? (Lib.indexByte_some hq).1
theorem sealT_list (s : ByteArray) (r : Int) : (sealT s r).data.toList = s.data.toList ++ 35 :: Lib.itoa r := by
  rw [sealT_data, numT_data]; simp
theorem idx_app (l r : List UInt8) (h : (35 : UInt8) ∉ l) : Lib.indexByte (l ++ 35 :: r) 35 = l.length := by
  have hg := Lib.indexByte_ge (l ++ 35 :: r) 35
  have hpos : 0 ≤ Lib.indexByte (l ++ 35 :: r) 35 := idx_nonneg 35 _ l.length (by simp)
  obtain ⟨q, hq⟩ : ∃ q : Nat, Lib.indexByte (l ++ 35 :: r) 35 = q := ⟨(Lib.indexByte (l ++ 35 :: r) 35).toNat, by omega⟩
  obtain ⟨h1, h2⟩ := Lib.indexByte_some hq
  rw [hq]
  rcases Nat.lt_trichotomy q l.length with c | c | c
  · rw [List.getElem?_append_left c] at h1
    exact absurd (List.mem_of_getElem? h1) h
  · omega
  · exact absurd (by simp) (h2 l.length c)
theorem preR_seal (x : ByteArray) (r : Int) (h : noC 35 x = true) : preR (sealT x r) = x := by
  have hm := (noC_mem x).mp h
  obtain ⟨t, ht⟩ : ∃ t, preR (sealT x r) = t := ⟨_, rfl⟩
  have hn := preR_noC (sealT x r)
  have key : Lib.indexByte (sealT x r).data.toList 35 = x.data.toList.length := by
    rw [sealT_list]
    exact idx_app x.data.toList _ hm
  unfold preR
  rw [key, if_pos (by omega), Int.toNat_natCast]
  apply bytes_ext
  rw [extract_take, sealT_list, List.take_left]
/-! Draws. -/
theorem drawFmt_ok {l : List Int} (hw : ∀ y ∈ l, (Lit.int .u8 y).wf = true) : ∃ n, spec_DrawFormatInt.f l = some n := by
  unfold spec_DrawFormatInt.f spec_DrawFormatInt_in.f
  obtain ⟨v, p1, q1, e1, a1, a2, a3, a4⟩ := pick_ok hw 0 0 1000 (by omega) (by omega) (by omega) (by omega)
  obtain ⟨v2, p2, q2, e2, _⟩ := among_ok hw p1 q1 [0, 1, (-1), 10, 999999, (-999999), 1000000, (-1000000), wrap64 (v - 500)] a3 (by omega) (by simp) (by simp) (P := fun _ => True) (fun _ _ => trivial)
  exact ⟨v2, by rw [e1]; simp only [Option.bind_some]; rw [e2]; rfl⟩
theorem drawParse_ok {l : List Int} (hw : ∀ y ∈ l, (Lit.int .u8 y).wf = true) {k : Nat} (hk : 2000 ≤ k) : ∃ t, spec_DrawParseInt.f k l = some t ∧ t.size ≤ 21 := by
  unfold spec_DrawParseInt.f spec_DrawParseInt_in.f
  obtain ⟨b, p1, q1, e1, a3, a4⟩ := one_ok hw 0 0 2 (by omega) (by omega) (by omega) (by omega)
  rw [e1]
  simp only [Option.bind_some]
  cases b with
  | true =>
    obtain ⟨s, p2, q2, e2, b1, b2, b3⟩ := of_ok hw p1 q1 ([(⟨#[]⟩ : ByteArray), (⟨#[45]⟩ : ByteArray), (⟨#[45, 48]⟩ : ByteArray), (⟨#[48, 48]⟩ : ByteArray), (⟨#[48, 49]⟩ : ByteArray), (⟨#[45, 45, 49]⟩ : ByteArray), (⟨#[49, 120]⟩ : ByteArray), (⟨#[57, 57, 57, 57, 57, 57]⟩ : ByteArray), (⟨#[49, 48, 48, 48, 48, 48, 48]⟩ : ByteArray), (⟨#[45, 57, 57, 57, 57, 57, 57]⟩ : ByteArray), (⟨#[49, 56, 52, 52, 54, 55, 52, 52, 48, 55, 51, 55, 48, 57, 53, 53, 49, 54, 49, 55]⟩ : ByteArray)] : List ByteArray) a3 (by omega) (by decide) (by decide) (P := fun s => s.size ≤ 21) (by decide)
    rw [if_pos rfl, e2]
    exact ⟨s, rfl, b1⟩
  | false =>
    obtain ⟨v, p2, q2, e2, b1, b2, b3, b4⟩ := pick_ok hw p1 q1 2000 a3 (by omega) (by omega) (by omega)
    rw [if_neg (by decide), e2]
    simp only [Option.bind_some]
    rw [w64 (x := v - 1000) (by omega) (by omega), num_eq (v - 1000) (by omega) (by omega) (by omega)]
    exact ⟨numT (v - 1000), rfl, numT_size _ (by omega) (by omega)⟩
theorem strOfNums_rep (n : Nat) : (strOfNums (List.replicate n 0)).size = n := by
  show Array.size _ = n
  simp [strOfNums]
theorem drawApp_ok {l : List Int} (hw : ∀ y ∈ l, (Lit.int .u8 y).wf = true) : ∃ x, spec_DrawAppendChecksum.f l = some x ∧ x.size ≤ 4000 := by
  unfold spec_DrawAppendChecksum.f spec_DrawAppendChecksum_in.f
  obtain ⟨b, p1, q1, e1, a3, a4⟩ := one_ok hw 0 0 20 (by omega) (by omega) (by omega) (by omega)
  rw [e1]
  simp only [Option.bind_some]
  cases b with
  | true =>
    obtain ⟨v, p2, q2, e2, b1, b2, b3, b4⟩ := pick_ok hw p1 q1 10 a3 (by omega) (by omega) (by omega)
    rw [if_pos rfl, e2]
    simp only [Option.bind_some]
    rw [w64 (x := 3990 + v) (by omega) (by omega), if_pos (by omega), if_pos (by omega)]
    exact ⟨_, rfl, by rw [strOfNums_rep]; omega⟩
  | false =>
    obtain ⟨s, p2, q2, e2, b1, b2, b3⟩ := any1_ok hw p1 q1 a3 (by omega)
    rw [if_neg (by decide), e2]
    exact ⟨s, rfl, by omega⟩
theorem vAt_ok {l : List Int} (hw : ∀ y ∈ l, (Lit.int .u8 y).wf = true) (hl : l.length ≤ 65536) (i : Int) (h0 : 0 ≤ i) (h1 : i ≤ 10) : ∃ a, laws_vAt.f l i = some a ∧ 0 ≤ a ∧ a ≤ 255 := by
  unfold laws_vAt.f
  by_cases c : i < (l.length : Int)
  · have hr := rd_u8 hw i
    rw [if_pos c, if_pos h0, w64 (by omega) (by omega)]
    exact ⟨_, rfl, hr.1, hr.2⟩
  · rw [if_neg c, w64 (x := i * 7) (by omega) (by omega), w64 (x := i * 7 + (l.length : Int)) (by omega) (by omega), tm (by omega)]
    exact ⟨_, rfl, by omega, by omega⟩
/-! The tail. -/
def fmtR (n : Int) : ByteArray × Bool := if -999999 ≤ n ∧ n ≤ 999999 then (numT n, true) else (⟨#[]⟩, false)
theorem fmt_eq (n : Int) {K : Nat} (hK : 1000002 ≤ K) : spec_FormatInt.f K n = some (fmtR n) ∧ impl_FormatInt.f n = some (fmtR n) := by
  unfold spec_FormatInt.f impl_FormatInt.f fmtR
  rw [l1In_eq, within_eq]
  simp only [Option.bind_some]
  by_cases h : -999999 ≤ n ∧ n ≤ 999999
  · rw [decide_eq_true h, if_pos h, num_eq n (by omega) (by omega) (by omega), dec_eq n (by omega) (by omega)]
    simp
  · rw [decide_eq_false h, if_neg h]
    simp
theorem bits_xor8 (a b : Nat) (ha : a < 256) (hb : b < 256) : Go.bits .xor .u8 (a : Int) (b : Int) = ((a ^^^ b : Nat) : Int) := by
  have hx : a ^^^ b < 2 ^ 8 := Nat.xor_lt_two_pow (by omega) (by omega)
  have h1 : (BitVec.ofInt 8 (a : Int)).toNat = a := by
    rw [BitVec.ofInt_natCast, BitVec.toNat_ofNat]; exact Nat.mod_eq_of_lt (by omega)
  have h2 : (BitVec.ofInt 8 (b : Int)).toNat = b := by
    rw [BitVec.ofInt_natCast, BitVec.toNat_ofNat]; exact Nat.mod_eq_of_lt (by omega)
  show IntKind.u8.wrap ((BitVec.ofInt 8 (a : Int) ^^^ BitVec.ofInt 8 (b : Int)).toNat : Int) = _
  rw [BitVec.toNat_xor, h1, h2, IntKind.wrap_u8]
  omega
theorem xor_ne (o d : Int) (h0 : 0 ≤ o) (h1 : o ≤ 255) (d0 : 1 ≤ d) (d1 : d ≤ 255) : (Go.bits .xor .u8 o d).toNat % 256 ≠ o.toNat := by
  have hb := bits_xor8 o.toNat d.toNat (by omega) (by omega)
  rw [show ((o.toNat : Nat) : Int) = o by omega, show ((d.toNat : Nat) : Int) = d by omega] at hb
  rw [hb, Int.toNat_natCast]
  have hx : o.toNat ^^^ d.toNat < 256 := Nat.xor_lt_two_pow (n := 8) (by omega) (by omega)
  rw [Nat.mod_eq_of_lt hx]
  intro e
  have h2 : o.toNat ^^^ (o.toNat ^^^ d.toNat) = o.toNat ^^^ o.toNat := by rw [e]
  rw [← Nat.xor_assoc, Nat.xor_self, Nat.zero_xor] at h2
  omega
theorem flip_size (y : ByteArray) (i b : Int) : (flipB y i b).size = y.size := by
  obtain ⟨d⟩ := y
  show Array.size _ = Array.size _
  rw [List.size_toArray, List.length_set, Array.length_toList]
theorem flip_bad (x : ByteArray) (hx : noC 35 x = true) (i b : Int) (hi0 : 0 ≤ i) (hi1 : i < ((sealT x (hashOf x)).size : Int)) (b0 : 0 ≤ b) (b1 : b ≤ 255) :
    (verR (flipB (sealT x (hashOf x)) i b) (hashOf (preR (flipB (sealT x (hashOf x)) i b)))).2 = false := by
  obtain ⟨n, rfl⟩ : ∃ n : Nat, i = n := ⟨i.toNat, by omega⟩
  obtain ⟨F, hF⟩ : ∃ F, flipB (sealT x (hashOf x)) (n : Int) b = F := ⟨_, rfl⟩
  rw [hF]
  unfold verR
  split
  case isFalse => rfl
  rename_i h
  exfalso
  have hn : n < (sealT x (hashOf x)).data.toList.length := by rw [show (sealT x (hashOf x)).data.toList.length = (sealT x (hashOf x)).size by simp]; omega
  have hd : IntKind.u8.wrap (wrap64 (1 + Int.tmod b 255)) = 1 + b % 255 := by
    rw [tm b0, w64 (by omega) (by omega), IntKind.wrap_u8]; omega
  have e := h.2
  have e2 : F.data.toList = (sealT x (hashOf x)).data.toList.set n (UInt8.ofNat (Go.bits .xor .u8 (((sealT x (hashOf x)).data.toList[n].toNat : Nat) : Int) (1 + b % 255)).toNat) := by
    rw [← hF]
    unfold flipB
    rw [hd, Int.toNat_natCast]
    have hg : ((sealT x (hashOf x)).data.toList.getD n 0) = (sealT x (hashOf x)).data.toList[n] := by rw [List.getD_eq_getElem?_getD, List.getElem?_eq_getElem hn]; rfl
    rw [hg]
  rw [← e, sealT_list] at e2
  have hp := (noC_mem _).mp (preR_noC F)
  have hxx := (noC_mem x).mp hx
  have hlist := sealT_list x (hashOf x)
  obtain ⟨Y, hY⟩ : ∃ Y, (sealT x (hashOf x)).data.toList = Y := ⟨_, rfl⟩
  simp only [hY] at e2 hn hlist
  have hne : Y[n]? ≠ some (UInt8.ofNat (Go.bits .xor .u8 ((Y[n].toNat : Nat) : Int) (1 + b % 255)).toNat) := by
    rw [List.getElem?_eq_getElem hn]
    intro q
    have q1 := congrArg UInt8.toNat (Option.some.inj q)
    rw [UInt8.toNat_ofNat'] at q1
    have hy := Y[n].toNat_lt
    have := xor_ne ((Y[n].toNat : Nat) : Int) (1 + b % 255) (by omega) (by omega) (by omega) (by omega)
    rw [Int.toNat_natCast] at this
    exact this (by omega)
  subst hlist
  exact Sp.corrupt Lib.itoa itoa_no35 itoa_inj x.data.toList (preR F).data.toList hxx hp n _ hn hne e2.symm
section
variable {l : List Int} (hw : ∀ y ∈ l, (Lit.int .u8 y).wf = true)
include hw
theorem j1_ok (hl : l.length ≤ 65536) {k : Nat} (hk : 1000000 ≤ k) (x : ByteArray) (hx : x.size ≤ 4000) : laws_FnStrings.j1 (k + 1) l x (appR x (hashOf x)).1 (appR x (hashOf x)).2 false = some true := by
  simp only [laws_FnStrings.j1, Bool.false_eq_true, if_false]
  unfold appR
  by_cases h : x.size ≤ 4000 ∧ noC 35 x = true ∧ (sealT x (hashOf x)).size ≤ 4000
  · rw [if_pos h]
    simp only [if_true]
    have hr := hashOf_range x
    have hpre := preR_seal x (hashOf x) h.2.1
    obtain ⟨a, ea, a0, a1⟩ := vAt_ok hw hl 9 (by omega) (by omega)
    obtain ⟨b, eb, b0, b1⟩ := vAt_ok hw hl 10 (by omega) (by omega)
    have hs : 0 < (sealT x (hashOf x)).size := by rw [sealT_size]; omega
    have ht : Int.tmod a ((sealT x (hashOf x)).size : Int) = a % ((sealT x (hashOf x)).size : Int) := tm a0
    have hm0 := Int.emod_nonneg a (show ((sealT x (hashOf x)).size : Int) ≠ 0 by omega)
    have hm1 := Int.emod_lt_of_pos a (show (0 : Int) < ((sealT x (hashOf x)).size : Int) by omega)
    have v1 : impl_VerifyChecksum.f k (sealT x (hashOf x)) = some (x, true) := by
      have hsum := sumV (preR (sealT x (hashOf x))) (by rw [hpre]; omega)
      have hh : hashOf (preR (sealT x (hashOf x))) = hashOf x := by rw [hpre]
      rw [hh] at hsum
      rw [implVer_eq (sealT x (hashOf x)) (by omega) (hashOf x) hr.1 hr.2 (fun m hm => (hsum m hm).2) (by omega)]
      unfold verR
      rw [hpre, if_pos ⟨h.2.2, rfl⟩]
    have hbad := flip_bad x h.2.1 (a % ((sealT x (hashOf x)).size : Int)) b hm0 hm1 b0 b1
    obtain ⟨F, hF⟩ : ∃ F, flipB (sealT x (hashOf x)) (a % ((sealT x (hashOf x)).size : Int)) b = F := ⟨_, rfl⟩
    rw [hF] at hbad
    have hFs : F.size = (sealT x (hashOf x)).size := by rw [← hF]; exact flip_size _ _ _
    have hp := preR_size F
    have hrF := hashOf_range (preR F)
    have v2 := implVer_eq F (by omega) (hashOf (preR F)) hrF.1 hrF.2 (fun m hm => (sumV (preR F) (by omega) m hm).2) (show F.size + 1 < k by omega)
    simp only [v1, ea, eb, Option.bind_some, ht, hF, v2]
    rw [if_pos ⟨hs, a0⟩, if_pos ⟨trivial, trivial, hbad⟩]
  · rw [if_neg h]
    simp only [Bool.false_eq_true, if_false]
    rw [Lib.toList_data]
    rfl
theorem j0_ok (hl : l.length ≤ 65536) {k : Nat} (hk : 1000000 ≤ k) (n : Int) (x : ByteArray) (hx : x.size ≤ 4000) : laws_FnStrings.j0 (k + 2) l n (fmtR n).1 (fmtR n).2 x (appR x (hashOf x)).1 (appR x (hashOf x)).2 false = some true := by
  simp only [laws_FnStrings.j0, Bool.false_eq_true, if_false]
  unfold fmtR
  by_cases h : -999999 ≤ n ∧ n ≤ 999999
  · rw [if_pos h]
    have hz := numT_size n (by omega) (by omega)
    obtain ⟨v, e, hv⟩ := implRead_eq (numT n) (by omega)
    have hvn := hv.hit n h.1 h.2 (numT_data n)
    subst hvn
    simp only [e, Option.bind_some, if_true, bne_self_eq_false]
    exact j1_ok hw hl hk x hx
  · rw [if_neg h]
    obtain ⟨v, e, _⟩ := implRead_eq (⟨#[]⟩ : ByteArray) (by decide)
    simp only [e, Option.bind_some, Bool.false_eq_true, if_false]
    exact j1_ok hw hl hk x hx
end
theorem FnStrings : Asked := by
  intro l hl hw
  refine ⟨1005002, ?_⟩
  generalize hK : 1005002 = K
  unfold laws_FnStrings.f laws_vBig.f
  simp only [Option.bind_some]
  by_cases c : (l.length : Int) > 65536
  · simp [c]
  · obtain ⟨n, e1⟩ := drawFmt_ok hw
    obtain ⟨t, e2, ht⟩ := drawParse_ok hw (show 2000 ≤ K by omega)
    obtain ⟨x, e3, hx⟩ := drawApp_ok hw
    obtain ⟨f1, f2⟩ := fmt_eq n (show 1000002 ≤ K by omega)
    obtain ⟨v, ev, hv⟩ := implRead_eq t (by omega)
    have hq : v = readV t := hv.same (readV_reads t)
    subst hq
    have g1 : spec_ParseInt.f K t = some (readV t) := by
      unfold spec_ParseInt.f
      rw [specRead_eq t (by omega) (by omega)]
      rfl
    have hr := hashOf_range x
    have s1 := specApp_eq x (by omega) (hashOf x) hr.1 hr.2 (fun m hm => (sumV x (by omega) m hm).1) (show x.size + 1000000 < K by omega)
    have s2 := implApp_eq x (by omega) (hashOf x) hr.1 hr.2 (fun m hm => (sumV x (by omega) m hm).2) (show x.size + 1 < K by omega)
    obtain ⟨k, rfl⟩ : ∃ k, K = k + 2 := ⟨K - 2, by omega⟩
    simp only [decide_eq_true_eq, if_neg c, e1, e2, e3, Option.bind_some, f1, f2, ev, g1, s1, s2, if_true, bne_self_eq_false, Bool.false_eq_true, if_false]
    exact j0_ok hw (by omega) (by omega) n x hx
end Go.Proofs.YtcmccjiimiomhaaDoor.Pure
