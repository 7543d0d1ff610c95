/- The pure statement of the law of SplitString: true for every two strings; no condition but a string's reach. -/
import Derived.Test.YtpfmhoikhnhdcaaAskFnExactSplitString
namespace Go.Proofs.Ytpfmhoikhnhdcaa.Pure
open Go.RowKit Go.Proofs.Ytpfmhoikhnhdcaa.XFnExactSplitString Go.Proofs.Ytpfmhoikhnhdcaa.AskFnExactSplitString Go.Proofs.YtpfmhoikhnhdcaaW.PrintWords Go.Proofs.YtpfmhoikhnhdcaaW.PrintLast
set_option linter.unusedVariables false
set_option linter.unusedSimpArgs false

theorem w64 {x : Int} (h0 : -9223372036854775808 ≤ x) (h1 : x ≤ 9223372036854775807) : wrap64 x = x := by
  unfold wrap64
  omega

/-- The text of a mark: there is one, whatever the fuel. -/
theorem markText_loop : ∀ (n : Nat) (k : Nat) (x : Int) (s : ByteArray), 0 ≤ x → x < 10 ^ n → x ≤ 9223372036854775807 → n < k → s.size + n ≤ 1000 →
    ∃ r, r.size ≤ s.size + n + 1 ∧ ∀ k, n < k → laws_markText.l0 k x s = some r
  | 0, _, x, s, h0, h1, hb, _, hs => by
    have hz : x = 0 := by simp at h1; omega
    subst hz
    refine ⟨(⟨#[109]⟩ : ByteArray) ++ s, by rw [ByteArray.size_append]; show 1 + s.size ≤ _; omega, fun k hk => ?_⟩
    obtain ⟨k, rfl⟩ : ∃ m, k = m + 1 := ⟨k - 1, by omega⟩
    simp only [laws_markText.l0]
    rw [if_neg (by omega), if_pos (by omega)]
  | n + 1, k, x, s, h0, h1, hb, hk, hs => by
    by_cases c : x > 0
    · have ed : Int.tdiv x 10 = x / 10 := Int.tdiv_eq_ediv_of_nonneg h0
      have ew : wrap64 (x / 10) = x / 10 := w64 (by omega) (by omega)
      have hlt : x / 10 < 10 ^ n := by
        rw [Int.pow_succ] at h1
        exact Int.ediv_lt_of_lt_mul (by omega) h1
      have hsz : (strOfNums [(wrap64 (48 + (Int.tmod x 10))) % 256] ++ s).size = s.size + 1 := by
        rw [ByteArray.size_append]
        have : (strOfNums [(wrap64 (48 + (Int.tmod x 10))) % 256]).size = 1 := rfl
        omega
      obtain ⟨r, hr, e⟩ := markText_loop n (n + 1) (x / 10) (strOfNums [(wrap64 (48 + (Int.tmod x 10))) % 256] ++ s) (by omega) hlt (by omega) (by omega) (by omega)
      refine ⟨r, by omega, fun k hk => ?_⟩
      obtain ⟨k, rfl⟩ : ∃ m, k = m + 1 := ⟨k - 1, by omega⟩
      have h1' : (strOfNums [(wrap64 (48 + (Int.tmod x 10))) % 256]).size + s.size ≤ 9223372036854775807 := by
        have : (strOfNums [(wrap64 (48 + (Int.tmod x 10))) % 256]).size = 1 := rfl
        omega
      simp only [laws_markText.l0, if_pos c, Option.bind_some, if_pos h1', ed, ew]
      exact e k (by omega)
    · have hz : x = 0 := by omega
      subst hz
      refine ⟨(⟨#[109]⟩ : ByteArray) ++ s, by rw [ByteArray.size_append]; show 1 + s.size ≤ _; omega, fun k hk => ?_⟩
      obtain ⟨k, rfl⟩ : ∃ m, k = m + 1 := ⟨k - 1, by omega⟩
      simp only [laws_markText.l0]
      rw [if_neg (by omega), if_pos (by omega)]
theorem markText_some (m : Int) (h0 : 0 ≤ m) (h1 : m ≤ 9223372036854775807) : ∃ r, ∀ k, 19 < k → laws_markText.f k m = some r := by
  unfold laws_markText.f
  by_cases c : m ≤ 0
  · exact ⟨_, fun k _ => by rw [if_pos c]⟩
  · obtain ⟨r, _, e⟩ := markText_loop 19 20 m (⟨#[]⟩ : ByteArray) h0 (by omega) h1 (by omega) (by decide)
    exact ⟨r, fun k hk => by rw [if_neg c]; exact e k hk⟩
/-- The mark's text. -/
def mt (m : Int) : ByteArray := (laws_markText.f 20 m).getD ByteArray.empty
theorem mt_eq {m : Int} (h0 : 0 ≤ m) (h1 : m ≤ 9223372036854775807) {k : Nat} (hk : 19 < k) : laws_markText.f k m = some (mt m) := by
  obtain ⟨r, h⟩ := markText_some m h0 h1
  unfold mt
  rw [h k hk, h 20 (by omega)]
  rfl
theorem markStr_loop (n : Nat) (hn : n ≤ 100000000) (d : Nat) : ∀ (k i : Nat) (x : List ByteArray), x.length = n → i + d = n → d + 20 < k →
    ∃ r, r.length = n ∧ laws_markStringS.l0 k x ((i : Int) + 1) (i : Int) = some ((n : Int) + 1, r) ∧ (∀ j, j < i → r[j]? = x[j]?) ∧ ∀ j : Nat, i ≤ j → j < n → r[j]? = some (mt ((j : Int) + 1)) := by
  induction d with
  | zero =>
    intro k i x hx hi hk
    obtain ⟨k, rfl⟩ : ∃ m, k = m + 1 := ⟨k - 1, by omega⟩
    refine ⟨x, hx, ?_, fun _ _ => rfl, fun j h1 h2 => absurd h2 (by omega)⟩
    simp only [laws_markStringS.l0]
    rw [if_neg (by omega)]
    have : (i : Int) = (n : Int) := by omega
    rw [this]
  | succ d ih =>
    intro k i x hx hi hk
    obtain ⟨k, rfl⟩ : ∃ m, k = m + 1 := ⟨k - 1, by omega⟩
    have c1 : (i : Int) < (x.length : Int) := by omega
    have c2 : 0 ≤ (i : Int) := by omega
    have e1 : wrap64 ((i : Int) + 1) = ((i + 1 : Nat) : Int) := (w64 (by omega) (by omega)).trans (by omega)
    have e2 : wrap64 ((i : Int) + 1 + 1) = ((i + 1 : Nat) : Int) + 1 := (w64 (by omega) (by omega)).trans (by omega)
    obtain ⟨r, hr, e, h1, h2⟩ := ih k (i + 1) (x.set i (mt ((i : Int) + 1))) (by simp [hx]) (by omega) (by omega)
    refine ⟨r, hr, ?_, ?_, ?_⟩
    · simp only [laws_markStringS.l0, if_pos c1, if_pos c2, mt_eq (m := (i : Int) + 1) (by omega) (by omega) (show 19 < k by omega), Option.bind_some, e1, e2]
      exact e
    · intro j hj
      rw [h1 j (by omega), List.getElem?_set_ne (by omega)]
    · intro j hj hjn
      by_cases c : j = i
      · subst c
        rw [h1 j (by omega), List.getElem?_set_self (by omega)]
      · exact h2 j (by omega) hjn
theorem heldStr_loop (n : Nat) (hn : n ≤ 100000000) (x : List ByteArray) (hx : x.length = n) (hm : ∀ j : Nat, j < n → x[j]? = some (mt ((j : Int) + 1))) (d : Nat) : ∀ (k i : Nat), i + d = n → d + 20 < k → laws_heldStringS.l0 k x ((i : Int) + 1) (i : Int) = some ((n : Int) + 1) := by
  induction d with
  | zero =>
    intro k i hi hk
    obtain ⟨k, rfl⟩ : ∃ m, k = m + 1 := ⟨k - 1, by omega⟩
    simp only [laws_heldStringS.l0]
    rw [if_neg (by omega)]
    have : (i : Int) = (n : Int) := by omega
    rw [this]
  | succ d ih =>
    intro k i hi hk
    obtain ⟨k, rfl⟩ : ∃ m, k = m + 1 := ⟨k - 1, by omega⟩
    have c1 : (i : Int) < (x.length : Int) := by omega
    have c2 : 0 ≤ (i : Int) := by omega
    have e1 : wrap64 ((i : Int) + 1) = ((i + 1 : Nat) : Int) := (w64 (by omega) (by omega)).trans (by omega)
    have e2 : wrap64 ((i : Int) + 1 + 1) = ((i + 1 : Nat) : Int) + 1 := (w64 (by omega) (by omega)).trans (by omega)
    have er : rdOf ByteArray.empty x (i : Int) = mt ((i : Int) + 1) := by
      unfold rdOf
      rw [Int.toNat_natCast, List.getD_eq_getElem?_getD, hm i (by omega)]; rfl
    simp only [laws_heldStringS.l0, if_pos c1, if_pos c2, mt_eq (m := (i : Int) + 1) (by omega) (by omega) (show 19 < k by omega), Option.bind_some, er, if_true, e1, e2]
    exact ih k (i + 1) (by omega) (by omega)
/-- Marks laid and read. -/
theorem mark_held (x : List ByteArray) (hx : x.length ≤ 100000000) : ∃ r : List ByteArray, ∀ k, x.length + 20 < k → laws_markStringS.f k x 1 = some ((x.length : Int) + 1, r) ∧ laws_heldStringS.f k r 1 = some ((x.length : Int) + 1) := by
  obtain ⟨r0, h0, e0, _, g0⟩ := markStr_loop x.length hx x.length (x.length + 21) 0 x rfl (by omega) (by omega)
  refine ⟨r0, fun k hk => ?_⟩
  obtain ⟨r, h, e, _, g⟩ := markStr_loop x.length hx x.length k 0 x rfl (by omega) hk
  have er : r = r0 := by
    apply List.ext_getElem? 
    intro j
    by_cases c : j < x.length
    · rw [g j (by omega) c, g0 j (by omega) c]
    · rw [List.getElem?_eq_none (by omega), List.getElem?_eq_none (by omega)]
  subst er
  exact ⟨e, heldStr_loop x.length hx r h (fun j hj => g j (by omega) hj) x.length k 0 (by omega) hk⟩
theorem eqStr_loop (x : List ByteArray) (hx : x.length ≤ 100000000) (d : Nat) : ∀ (k i : Nat), i + d = x.length → d < k → laws_eqStringS.l0 k x x (i : Int) = some true := by
  induction d with
  | zero =>
    intro k i hi hk
    obtain ⟨k, rfl⟩ : ∃ m, k = m + 1 := ⟨k - 1, by omega⟩
    simp only [laws_eqStringS.l0]
    rw [if_neg (by omega)]
  | succ d ih =>
    intro k i hi hk
    obtain ⟨k, rfl⟩ : ∃ m, k = m + 1 := ⟨k - 1, by omega⟩
    have c1 : (i : Int) < (x.length : Int) := by omega
    have c2 : 0 ≤ (i : Int) := by omega
    have e1 : wrap64 ((i : Int) + 1) = ((i + 1 : Nat) : Int) := (w64 (by omega) (by omega)).trans (by omega)
    simp only [laws_eqStringS.l0, if_pos c1, if_pos c2, if_true, e1]
    exact ih k (i + 1) (by omega) (by omega)
theorem eqStr_eq (x : List ByteArray) (hx : x.length ≤ 100000000) {k : Nat} (hk : x.length < k) : laws_eqStringS.f k x x = some true := by
  unfold laws_eqStringS.f
  rw [if_pos rfl]
  exact eqStr_loop x hx x.length k 0 (by omega) hk

/-- A text cut at a byte. -/
def sp (c : UInt8) (cur : List UInt8) : List UInt8 → List (List UInt8)
  | [] => [cur]
  | b :: l => if b = c then cur :: sp c [] l else sp c (cur ++ [b]) l
def mkB (l : List UInt8) : ByteArray := ⟨l.toArray⟩
theorem sp_length (c : UInt8) : ∀ (l cur : List UInt8), (sp c cur l).length ≤ l.length + 1
  | [], _ => Nat.le_refl _
  | b :: l, cur => by
    unfold sp
    split
    · have := sp_length c l []; simp only [List.length_cons]; omega
    · have := sp_length c l (cur ++ [b]); simp only [List.length_cons]; omega
theorem extract_mk (s : ByteArray) (i j : Nat) : s.extract i j = mkB ((s.data.toList.take j).drop i) := by
  apply ByteArray.ext
  rw [ByteArray.data_extract]
  apply Array.ext'
  simp [mkB, List.drop_take]
theorem size_data (s : ByteArray) : s.data.toList.length = s.size := Array.length_toList
theorem mk_data (s : ByteArray) : mkB s.data.toList = s := by simp [mkB]
theorem bt_list (s : ByteArray) (i : Nat) (h : i < s.size) : bt s (i : Int) = ((s.data.toList[i]'(by rw [size_data]; exact h)).toNat : Int) := by
  unfold bt
  rw [dif_pos (show (i : Int).toNat < s.size by omega)]
  rfl
theorem toNat_eq {x y : UInt8} : (x.toNat : Int) = (y.toNat : Int) ↔ x = y := by
  constructor
  · intro h
    exact UInt8.toNat_inj.mp (by omega)
  · intro h
    rw [h]
theorem specSplit_loop (s : ByteArray) (c : UInt8) (hs : s.size ≤ 4000) (d : Nat) : ∀ (k a b : Nat) (acc : List ByteArray), b + d = s.size → a ≤ b → acc.length + d ≤ 100000 → d < k →
    spec_l1Split.l0 k s (c.toNat : Int) acc (a : Int) (b : Int) = some (acc ++ (sp c ((s.data.toList.take b).drop a) (s.data.toList.drop b)).map mkB) := by
  induction d with
  | zero =>
    intro k a b acc hb hab ha hk
    obtain ⟨k, rfl⟩ : ∃ m, k = m + 1 := ⟨k - 1, by omega⟩
    have n1 : ¬ (b : Int) < (s.size : Int) := by omega
    have p1 : (0 : Int) ≤ (a : Int) := by omega
    have p2 : (a : Int) ≤ (s.size : Int) := by omega
    have p3 : acc.length < 8796093022208 := by omega
    simp only [spec_l1Split.l0, if_neg n1, if_pos p1, if_pos p2, if_pos p3]
    rw [List.drop_of_length_le (i := b) (by rw [size_data]; omega), extract_mk, Int.toNat_natCast]
    have e : b = s.size := by omega
    subst e
    rfl
  | succ d ih =>
    intro k a b acc hb hab ha hk
    obtain ⟨k, rfl⟩ : ∃ m, k = m + 1 := ⟨k - 1, by omega⟩
    have n1 : (b : Int) < (s.size : Int) := by omega
    have n2 : (b : Int) ≤ (s.size : Int) := by omega
    have p0 : (0 : Int) ≤ (b : Int) := by omega
    have p1 : (0 : Int) ≤ (a : Int) := by omega
    have p2 : (a : Int) ≤ (b : Int) := by omega
    have p3 : acc.length < 8796093022208 := by omega
    have hL : b < s.data.toList.length := by rw [size_data]; omega
    have ew : wrap64 ((b : Int) + 1) = ((b + 1 : Nat) : Int) := (w64 (by omega) (by omega)).trans (by omega)
    have hd := List.drop_eq_getElem_cons hL
    rw [hd]
    have eb := bt_list s b (by omega)
    simp only [spec_l1Split.l0, if_pos n1, if_pos p0, eb, toNat_eq, ew]
    by_cases h : s.data.toList[b] = c
    · simp only [if_pos h, if_pos p1, if_pos p2, if_pos n2, if_pos p3]
      rw [ih k (b + 1) (b + 1) _ (by omega) (by omega) (by simp; omega) (by omega)]
      have e0 : List.drop (b + 1) (List.take (b + 1) s.data.toList) = [] := List.drop_of_length_le (by rw [List.length_take]; omega)
      simp only [sp, if_pos h, e0, extract_mk, Int.toNat_natCast, List.map_cons, List.append_assoc, List.singleton_append]
    · simp only [if_neg h]
      rw [ih k a (b + 1) acc (by omega) (by omega) (by omega) (by omega)]
      have e0 : List.drop a (List.take (b + 1) s.data.toList) = List.drop a (List.take b s.data.toList) ++ [s.data.toList[b]] := by
        rw [List.take_succ_eq_append_getElem hL, List.drop_append_of_le_length (by rw [List.length_take]; omega)]
      simp only [sp, if_neg h, e0]
theorem idx_none (c : UInt8) : ∀ (l cur : List UInt8), Lib.indexByte l c < 0 → sp c cur l = [cur ++ l]
  | [], cur, _ => by simp [sp]
  | b :: l, cur, h => by
    unfold Lib.indexByte at h
    by_cases e : b = c
    · simp [e] at h
    · have hb : (b == c) = false := by simp [e]
      rw [hb] at h
      simp only [Bool.false_eq_true, if_false] at h
      have g := Lib.indexByte_ge l c
      have h2 : Lib.indexByte l c < 0 := by
        by_cases z : (Lib.indexByte l c == -1) = true
        · have := eq_of_beq z; omega
        · rw [if_neg z] at h; omega
      unfold sp
      rw [if_neg e, idx_none c l _ h2, List.append_assoc, List.singleton_append]
theorem idx_some (c : UInt8) : ∀ (l cur : List UInt8), 0 ≤ Lib.indexByte l c → (Lib.indexByte l c).toNat < l.length ∧ sp c cur l = (cur ++ l.take (Lib.indexByte l c).toNat) :: sp c [] (l.drop ((Lib.indexByte l c).toNat + 1))
  | [], cur, h => by simp [Lib.indexByte] at h
  | b :: l, cur, h => by
    unfold Lib.indexByte at h ⊢
    by_cases e : b = c
    · simp [e, sp]
    · have hb : (b == c) = false := by simp [e]
      rw [hb] at h ⊢
      simp only [Bool.false_eq_true, if_false] at h ⊢
      by_cases z : (Lib.indexByte l c == -1) = true
      · rw [if_pos z] at h; omega
      · rw [if_neg z] at h ⊢
        have g := Lib.indexByte_ge l c
        have h2 : 0 ≤ Lib.indexByte l c := by
          have : ¬ Lib.indexByte l c = -1 := fun q => z (by simp [q])
          omega
        obtain ⟨i1, i2⟩ := idx_some c l (cur ++ [b]) h2
        have et : (Lib.indexByte l c + 1).toNat = (Lib.indexByte l c).toNat + 1 := by omega
        rw [et]
        refine ⟨by simp only [List.length_cons]; omega, ?_⟩
        rw [show sp c cur (b :: l) = sp c (cur ++ [b]) l from if_neg e, i2, List.take_succ_cons, List.drop_succ_cons, List.append_assoc, List.singleton_append]
theorem implSplit_loop (x1 : ByteArray) (h1 : 0 < x1.size) (d : Nat) : ∀ (k : Nat) (s : ByteArray) (acc : List ByteArray), s.size ≤ d → d ≤ 4000 → acc.length + d ≤ 100000 → d < k →
    impl_SplitString.l0 k s x1 acc = some (acc ++ (sp ((bt x1 0).toNat.toUInt8) [] s.data.toList).map mkB, true) := by
  induction d with
  | zero =>
    intro k s acc hd hm ha hk
    obtain ⟨k, rfl⟩ : ∃ m, k = m + 1 := ⟨k - 1, by omega⟩
    have p1 : (0 : Int) < (x1.size : Int) := by omega
    have p3 : acc.length < 8796093022208 := by omega
    have e0 : s.data.toList = [] := List.eq_nil_of_length_eq_zero (by rw [size_data]; omega)
    have hi : Lib.indexByte s.data.toList ((bt x1 0).toNat.toUInt8) < 0 := by rw [e0]; show (-1 : Int) < 0; decide
    simp only [impl_SplitString.l0, if_pos p1, strings_IndexByte.f, Option.bind_some, if_pos hi, if_pos p3, idx_none _ _ _ hi, List.nil_append, List.map_cons, List.map_nil, mk_data]
  | succ d ih =>
    intro k s acc hd hm ha hk
    obtain ⟨k, rfl⟩ : ∃ m, k = m + 1 := ⟨k - 1, by omega⟩
    have p1 : (0 : Int) < (x1.size : Int) := by omega
    have p3 : acc.length < 8796093022208 := by omega
    simp only [impl_SplitString.l0, if_pos p1, strings_IndexByte.f, Option.bind_some]
    by_cases hi : Lib.indexByte s.data.toList ((bt x1 0).toNat.toUInt8) < 0
    · simp only [if_pos hi, if_pos p3, idx_none _ _ _ hi, List.nil_append, List.map_cons, List.map_nil, mk_data]
    · obtain ⟨g1, g2⟩ := idx_some ((bt x1 0).toNat.toUInt8) s.data.toList [] (by omega)
      rw [size_data] at g1
      generalize Lib.indexByte s.data.toList ((bt x1 0).toNat.toUInt8) = i at *
      have q0 : 0 ≤ i := by omega
      have q1 : i ≤ (s.size : Int) := by omega
      have ew : wrap64 (i + 1) = i + 1 := w64 (by omega) (by omega)
      have q2 : 0 ≤ i + 1 := by omega
      have q3 : i + 1 ≤ (s.size : Int) := by omega
      have en : (i + 1).toNat = i.toNat + 1 := by omega
      have el : (s.extract (i.toNat + 1) s.size).data.toList = s.data.toList.drop (i.toNat + 1) := by
        rw [extract_mk, List.take_of_length_le (by rw [size_data]; omega)]
        simp [mkB]
      have hsz : (s.extract (i.toNat + 1) s.size).size ≤ d := by
        rw [← size_data, el, List.length_drop, size_data]; omega
      simp only [if_neg hi, if_pos q0, if_pos q1, if_pos p3, ew, if_pos q2, if_pos q3, en]
      rw [ih k _ _ hsz (by omega) (by simp; omega) (by omega), el, g2, extract_mk]
      simp
theorem u8_round (x : Int) (h0 : 0 ≤ x) (h1 : x ≤ 255) : ((x.toNat.toUInt8).toNat : Int) = x := by
  have e : (x.toNat.toUInt8).toNat = x.toNat % 256 := by simp [Nat.toUInt8]
  rw [e]; omega
/-- SplitString. -/
def splitR (s p : ByteArray) : List ByteArray × Bool := if p.size = 1 ∧ s.size ≤ 4000 then ((sp ((bt p 0).toNat.toUInt8) [] s.data.toList).map mkB, true) else ([], false)
theorem splitR_length (s p : ByteArray) : (splitR s p).1.length ≤ 4001 := by
  unfold splitR
  split
  · rename_i h
    have := sp_length ((bt p 0).toNat.toUInt8) s.data.toList []
    rw [size_data] at this
    simp only [List.length_map]
    omega
  · simp
theorem specSplit_eq (s p : ByteArray) {k : Nat} (hk : 4001 < k) : spec_SplitString.f k s p = some (splitR s p) := by
  unfold spec_SplitString.f splitR spec_l1Split.f
  by_cases h : p.size = 1
  · by_cases h2 : s.size ≤ 4000
    · have b := bt_range p 0
      have c1 : (p.size : Int) = 1 := by omega
      have c2 : ¬ (s.size : Int) > 4000 := by omega
      have c3 : (0 : Int) < (p.size : Int) := by omega
      have e := specSplit_loop s ((bt p 0).toNat.toUInt8) h2 s.size k 0 0 [] (by omega) (by omega) (by simp; omega) (by omega)
      rw [u8_round _ b.1 b.2] at e
      have e' : spec_l1Split.l0 k s (bt p 0) [] 0 0 = _ := e
      rw [if_pos c1, if_neg c2, if_pos c3, e', if_pos ⟨h, h2⟩]
      simp
    · rw [if_pos (by omega), if_pos (by omega), if_neg (by omega)]
  · rw [if_neg (by omega), if_neg (by omega)]
theorem implSplit_eq (s p : ByteArray) {k : Nat} (hk : 4002 < k) : impl_SplitString.f k s p = some (splitR s p) := by
  obtain ⟨k, rfl⟩ : ∃ m, k = m + 1 := ⟨k - 1, by omega⟩
  unfold impl_SplitString.f splitR
  by_cases h2 : s.size ≤ 4000
  · have c2 : ¬ (s.size : Int) > 4000 := by omega
    rw [if_neg c2]
    by_cases h : p.size = 1
    · have e := implSplit_loop p (by omega) s.size k s [] (by omega) h2 (by simp; omega) (by omega)
      rw [if_pos ⟨h, h2⟩, h]
      simp only [impl_SplitString.j0]
      rw [if_neg (by decide), e]
      simp
    · have hb : ((p.size : Int) != 1) = true := by simp; omega
      rw [if_neg (fun z => h z.1), hb]
      simp [impl_SplitString.j0]
  · rw [if_pos (by omega), if_neg (fun z => h2 z.2)]
    simp [impl_SplitString.j0]

theorem FnExactSplitString : Asked := by
  intro s p _ _
  refine ⟨5000, ?_⟩
  generalize hK : (5000 : Nat) = K
  obtain ⟨K, rfl⟩ : ∃ m, K = m + 2 := ⟨K - 2, by omega⟩
  unfold laws_FnExactSplitString.f
  by_cases c1 : (s.size : Int) > 1048576
  · rw [if_pos c1]
  · by_cases c2 : (p.size : Int) > 1048576
    · rw [if_neg c1, if_pos c2]
    · have hn := splitR_length s p
      obtain ⟨r, hr⟩ := mark_held (splitR s p).1 (by omega)
      obtain ⟨m1, m2⟩ := hr (K + 1) (by omega)
      obtain ⟨m3, m4⟩ := hr K (by omega)
      have g1 : ¬ ((splitR s p).1.length : Int) + 1 < 0 := by omega
      rw [if_neg c1, if_neg c2, specSplit_eq s p (by omega), implSplit_eq s p (by omega)]
      simp only [Option.bind_some, eqStr_eq (splitR s p).1 (by omega) (show (splitR s p).1.length < K + 2 by omega), if_true, bne_self_eq_false]
      simp only [laws_FnExactSplitString.j0, Bool.false_eq_true, if_false, m1, m2, Option.bind_some, if_neg g1, if_true, implSplit_eq s p (show 4002 < K + 1 by omega),
        eqStr_eq (splitR s p).1 (by omega) (show (splitR s p).1.length < K + 1 by omega), bne_self_eq_false, laws_FnExactSplitString.j1, m4]
end Go.Proofs.Ytpfmhoikhnhdcaa.Pure
