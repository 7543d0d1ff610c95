/- The pure statement of the law of SmallestTeam: true for every list of people and every skills; no condition but the reach. -/
import Derived.Test.YtafdklajmklmkaaDoorAskFnExactSmallestTeam
namespace Go.Proofs.YtafdklajmklmkaaDoor.Pure
open Go.RowKit Go.Proofs.YtafdklajmklmkaaDoor.XFnExactSmallestTeam Go.Proofs.YtafdklajmklmkaaDoor.AskFnExactSmallestTeam Go.Proofs.YtafdklajmklmkaaDoorW.PrintWords Go.Proofs.YtafdklajmklmkaaDoorW.PrintLast
set_option linter.unusedVariables false
set_option linter.unusedSimpArgs false

theorem w64 {x : Int} (h0 : -9223372036854775808 ≤ x) (h1 : x ≤ 9223372036854775807) : wrap64 x = x := by
  unfold wrap64
  omega

/-- A text cut at a byte. -/
def sp (c : UInt8) (cur : List UInt8) : List UInt8 → List (List UInt8)
  | [] => [cur]
  | b :: l => if b = c then cur :: sp c [] l else sp c (cur ++ [b]) l
def mkB (l : List UInt8) : ByteArray := ⟨l.toArray⟩
theorem sp_length (c : UInt8) : ∀ (l cur : List UInt8), (sp c cur l).length ≤ l.length + 1
  | [], _ => Nat.le_refl _
  | b :: l, cur => by
    unfold sp
    split
    · have := sp_length c l []; simp only [List.length_cons]; omega
    · have := sp_length c l (cur ++ [b]); simp only [List.length_cons]; omega
theorem extract_mk (s : ByteArray) (i j : Nat) : s.extract i j = mkB ((s.data.toList.take j).drop i) := by
  apply ByteArray.ext
  rw [ByteArray.data_extract]
  apply Array.ext'
  simp [mkB, List.drop_take]
theorem size_data (s : ByteArray) : s.data.toList.length = s.size := Array.length_toList
theorem mk_data (s : ByteArray) : mkB s.data.toList = s := by simp [mkB]
theorem bt_list (s : ByteArray) (i : Nat) (h : i < s.size) : bt s (i : Int) = ((s.data.toList[i]'(by rw [size_data]; exact h)).toNat : Int) := by
  unfold bt
  rw [dif_pos (show (i : Int).toNat < s.size by omega)]
  rfl
theorem toNat_eq {x y : UInt8} : (x.toNat : Int) = (y.toNat : Int) ↔ x = y := by
  constructor
  · intro h
    exact UInt8.toNat_inj.mp (by omega)
  · intro h
    rw [h]
theorem idx_none (c : UInt8) : ∀ (l cur : List UInt8), Lib.indexByte l c < 0 → sp c cur l = [cur ++ l]
  | [], cur, _ => by simp [sp]
  | b :: l, cur, h => by
    unfold Lib.indexByte at h
    by_cases e : b = c
    · simp [e] at h
    · have hb : (b == c) = false := by simp [e]
      rw [hb] at h
      simp only [Bool.false_eq_true, if_false] at h
      have g := Lib.indexByte_ge l c
      have h2 : Lib.indexByte l c < 0 := by
        by_cases z : (Lib.indexByte l c == -1) = true
        · have := eq_of_beq z; omega
        · rw [if_neg z] at h; omega
      unfold sp
      rw [if_neg e, idx_none c l _ h2, List.append_assoc, List.singleton_append]
theorem idx_some (c : UInt8) : ∀ (l cur : List UInt8), 0 ≤ Lib.indexByte l c → (Lib.indexByte l c).toNat < l.length ∧ sp c cur l = (cur ++ l.take (Lib.indexByte l c).toNat) :: sp c [] (l.drop ((Lib.indexByte l c).toNat + 1))
  | [], cur, h => by simp [Lib.indexByte] at h
  | b :: l, cur, h => by
    unfold Lib.indexByte at h ⊢
    by_cases e : b = c
    · simp [e, sp]
    · have hb : (b == c) = false := by simp [e]
      rw [hb] at h ⊢
      simp only [Bool.false_eq_true, if_false] at h ⊢
      by_cases z : (Lib.indexByte l c == -1) = true
      · rw [if_pos z] at h; omega
      · rw [if_neg z] at h ⊢
        have g := Lib.indexByte_ge l c
        have h2 : 0 ≤ Lib.indexByte l c := by
          have : ¬ Lib.indexByte l c = -1 := fun q => z (by simp [q])
          omega
        obtain ⟨i1, i2⟩ := idx_some c l (cur ++ [b]) h2
        have et : (Lib.indexByte l c + 1).toNat = (Lib.indexByte l c).toNat + 1 := by omega
        rw [et]
        refine ⟨by simp only [List.length_cons]; omega, ?_⟩
        rw [show sp c cur (b :: l) = sp c (cur ++ [b]) l from if_neg e, i2, List.take_succ_cons, List.drop_succ_cons, List.append_assoc, List.singleton_append]
theorem u8_round (x : Int) (h0 : 0 ≤ x) (h1 : x ≤ 255) : ((x.toNat.toUInt8).toNat : Int) = x := by
  have e : (x.toNat.toUInt8).toNat = x.toNat % 256 := by simp [Nat.toUInt8]
  rw [e]; omega

theorem l1In_eq (a b c : Int) : spec_l1In.f a b c = some (decide (b ≤ a ∧ a ≤ c)) := by
  unfold spec_l1In.f
  by_cases h : a ≥ b
  · rw [if_pos h]
    have h' : b ≤ a := h
    simp [h']
  · rw [if_neg h]
    have h' : ¬ b ≤ a := h
    simp [h']

theorem letters_has : ∀ b : Fin 256, ([97, 98, 99, 100, 101, 102, 103, 104, 105, 106, 107, 108, 109, 110, 111, 112, 113, 114, 115, 116, 117, 118, 119, 120, 121, 122] : List UInt8).contains (UInt8.ofNat b.val) = decide (97 ≤ b.val ∧ b.val ≤ 122) := by decide +kernel
theorem letters_at (b : UInt8) : ([97, 98, 99, 100, 101, 102, 103, 104, 105, 106, 107, 108, 109, 110, 111, 112, 113, 114, 115, 116, 117, 118, 119, 120, 121, 122] : List UInt8).contains b = decide (97 ≤ b.toNat ∧ b.toNat ≤ 122) := by
  have h := letters_has ⟨b.toNat, b.toNat_lt⟩
  simp only [UInt8.ofNat_toNat] at h
  exact h
theorem dropWhile_nil {α : Type} (p : α → Bool) : ∀ l : List α, l.dropWhile p = [] ↔ ∀ x ∈ l, p x = true
  | [] => by simp
  | x :: l => by
    rw [List.dropWhile_cons]
    cases h : p x with
    | true => simp only [if_true, dropWhile_nil p l, List.mem_cons, forall_eq_or_imp, h, true_and]
    | false => simp [h]
theorem takeWhile_all {α : Type} (p : α → Bool) : ∀ (l : List α) (x : α), x ∈ l.takeWhile p → p x = true
  | [], x, h => by simp at h
  | y :: l, x, h => by
    rw [List.takeWhile_cons] at h
    cases hy : p y with
    | false => rw [hy] at h; simp at h
    | true =>
      rw [hy] at h
      simp only [if_true, List.mem_cons] at h
      rcases h with rfl | h
      · exact hy
      · exact takeWhile_all p l x h
theorem trimS_nil (l cs : List UInt8) : Lib.trimS l cs = [] ↔ ∀ x ∈ l, cs.contains x = true := by
  unfold Lib.trimS Lib.trimLeftS Lib.trimRightS
  rw [dropWhile_nil]
  constructor
  · intro h x hx
    have hs : l.reverse = l.reverse.takeWhile (cs.contains ·) ++ l.reverse.dropWhile (cs.contains ·) := (List.takeWhile_append_dropWhile).symm
    have hx' : x ∈ l.reverse := List.mem_reverse.mpr hx
    rw [hs] at hx'
    rcases List.mem_append.mp hx' with h1 | h1
    · exact takeWhile_all _ _ _ h1
    · exact h x (List.mem_reverse.mpr h1)
  · intro h x hx
    have hx' := List.mem_reverse.mp hx
    exact h x (List.mem_reverse.mp (List.dropWhile_sublist _ |>.mem hx'))
/-- A word: one to ten small letters. -/
def vWord (s : ByteArray) : Bool := decide ((1 ≤ s.size ∧ s.size ≤ 10) ∧ ∀ b ∈ s.data.toList, 97 ≤ b.toNat ∧ b.toNat ≤ 122)
theorem isWord_eq (s : ByteArray) : impl_isWord.f s = some (vWord s) := by
  unfold impl_isWord.f vWord
  by_cases c1 : (s.size : Int) ≥ 1
  · by_cases c2 : (s.size : Int) ≤ 10
    · rw [if_pos c1, if_pos c2]
      have ht : strings_Trim.f s (⟨#[97, 98, 99, 100, 101, 102, 103, 104, 105, 106, 107, 108, 109, 110, 111, 112, 113, 114, 115, 116, 117, 118, 119, 120, 121, 122]⟩ : ByteArray) = some (⟨(Lib.trimS s.data.toList [97, 98, 99, 100, 101, 102, 103, 104, 105, 106, 107, 108, 109, 110, 111, 112, 113, 114, 115, 116, 117, 118, 119, 120, 121, 122]).toArray⟩ : ByteArray) := by
        unfold strings_Trim.f
        rw [if_pos ⟨by omega, by decide, by decide⟩]
      rw [ht]
      simp only [Option.bind_some]
      refine congrArg some ?_
      rw [Lib.toList_data]
      have e : (Lib.trimS s.data.toList [97, 98, 99, 100, 101, 102, 103, 104, 105, 106, 107, 108, 109, 110, 111, 112, 113, 114, 115, 116, 117, 118, 119, 120, 121, 122] = []) = ((1 ≤ s.size ∧ s.size ≤ 10) ∧ ∀ b ∈ s.data.toList, 97 ≤ b.toNat ∧ b.toNat ≤ 122) := by
        apply propext
        rw [trimS_nil]
        constructor
        · intro h
          refine ⟨by omega, fun b hb => ?_⟩
          have := h b hb
          rw [letters_at] at this
          exact of_decide_eq_true this
        · intro h b hb
          rw [letters_at]
          exact decide_eq_true (h.2 b hb)
      rw [Bool.eq_iff_iff]
      simp only [beq_iff_eq, decide_eq_true_eq]
      rw [← e]
    · rw [if_pos c1, if_neg c2]
      exact congrArg some (decide_eq_false (fun h => c2 (by omega))).symm
  · rw [if_neg c1]
    exact congrArg some (decide_eq_false (fun h => c1 (by omega))).symm
theorem word_loop (s : ByteArray) (hs : s.size ≤ 140737488351232) (d : Nat) : ∀ (k i : Nat), i + d = s.size → d < k →
    spec_l2Word.l0 k s (i : Int) = some (decide ((1 ≤ s.size ∧ s.size ≤ 10) ∧ ∀ b ∈ s.data.toList.drop i, 97 ≤ b.toNat ∧ b.toNat ≤ 122)) := by
  induction d with
  | zero =>
    intro k i hi hk
    obtain ⟨k, rfl⟩ : ∃ m, k = m + 1 := ⟨k - 1, by omega⟩
    have c1 : ¬ (i : Int) < (s.size : Int) := by omega
    have hd : s.data.toList.drop i = [] := List.drop_of_length_le (by rw [size_data]; omega)
    simp only [spec_l2Word.l0, if_neg c1, l1In_eq, Option.bind_some, hd]
    refine congrArg some (decide_eq_decide.mpr ?_)
    simp only [List.not_mem_nil, false_implies, implies_true, and_true]
    omega
  | succ d ih =>
    intro k i hi hk
    obtain ⟨k, rfl⟩ : ∃ m, k = m + 1 := ⟨k - 1, by omega⟩
    have hlt : i < s.data.toList.length := by rw [size_data]; omega
    have c1 : (i : Int) < (s.size : Int) := by omega
    have c2 : 0 ≤ (i : Int) := by omega
    have hd := List.drop_eq_getElem_cons hlt
    have eb := bt_list s i (by omega)
    have ew : wrap64 ((i : Int) + 1) = ((i + 1 : Nat) : Int) := (w64 (by omega) (by omega)).trans (by omega)
    simp only [spec_l2Word.l0, if_pos c1, if_pos c2, eb, ew]
    rw [hd]
    generalize s.data.toList[i] = b
    by_cases h1 : (b.toNat : Int) < 97
    · rw [if_pos h1]
      refine congrArg some (decide_eq_false (fun h => ?_)).symm
      have := h.2 b List.mem_cons_self
      omega
    · by_cases h2 : (b.toNat : Int) > 122
      · rw [if_neg h1, if_pos h2]
        refine congrArg some (decide_eq_false (fun h => ?_)).symm
        have := h.2 b List.mem_cons_self
        omega
      · rw [if_neg h1, if_neg h2, ih k (i + 1) (by omega) (by omega)]
        refine congrArg some (decide_eq_decide.mpr ?_)
        simp only [List.mem_cons, forall_eq_or_imp]
        exact ⟨fun h => ⟨h.1, by omega, h.2⟩, fun h => ⟨h.1, h.2.2⟩⟩
theorem l2Word_eq (s : ByteArray) (hs : s.size ≤ 140737488351232) {k : Nat} (hk : s.size < k) : spec_l2Word.f k s = some (vWord s) := by
  unfold spec_l2Word.f vWord
  have h := word_loop s hs s.size k 0 (by omega) hk
  simpa using h

theorem within_eq (a b c : Int) : impl_within.f a b c = some (decide (b ≤ a ∧ a ≤ c)) := by
  unfold impl_within.f
  by_cases h : a ≥ b
  · rw [if_pos h]
    have h' : b ≤ a := h
    simp [h']
  · rw [if_neg h]
    have h' : ¬ b ≤ a := h
    simp [h']

/-- Person i is fit, behind and beside those ahead of it. -/
def okAt (l : List S56) (i : Nat) : Prop := (1 ≤ (rd_T56 l (i : Int)).f0 ∧ (rd_T56 l (i : Int)).f0 ≤ 99) ∧ vWord (rd_T56 l (i : Int)).f1 = true ∧ (0 ≤ (rd_T56 l (i : Int)).f2 ∧ (rd_T56 l (i : Int)).f2 ≤ 15) ∧ (0 ≤ (rd_T56 l (i : Int)).f3 ∧ (rd_T56 l (i : Int)).f3 ≤ 500) ∧ (0 < i → (rd_T56 l ((i - 1 : Nat) : Int)).f0 < (rd_T56 l (i : Int)).f0) ∧ ∀ j, j < i → ¬ (rd_T56 l (j : Int)).f1.toList = (rd_T56 l (i : Int)).f1.toList
def goodFrom (l : List S56) (i : Nat) : Prop := (∀ m, i ≤ m → m < l.length → okAt l m) ∧ l.length ≤ 10
noncomputable def goodB (l : List S56) (i : Nat) : Bool := @decide (goodFrom l i) (Classical.propDecidable _)
theorem goodB_true (l : List S56) (i : Nat) : goodB l i = true ↔ goodFrom l i := by unfold goodB; simp
theorem goodB_step {l : List S56} {i : Nat} (h : okAt l i) : goodB l i = goodB l (i + 1) := by
  rw [Bool.eq_iff_iff, goodB_true, goodB_true]
  refine ⟨fun g => ⟨fun m h1 h2 => g.1 m (by omega) h2, g.2⟩, fun g => ⟨fun m h1 h2 => ?_, g.2⟩⟩
  rcases Nat.eq_or_lt_of_le h1 with rfl | hlt
  · exact h
  · exact g.1 m hlt h2
theorem goodB_not {l : List S56} {i : Nat} (hi : i < l.length) (h : ¬ okAt l i) : goodB l i = false := by
  rw [← Bool.not_eq_true, goodB_true]
  exact fun g => h (g.1 i (Nat.le_refl _) hi)
/-- Somebody from place j on, ahead of i, has the name of person i. -/
def sameP (l : List S56) (i j : Nat) : Prop := ∃ m, j ≤ m ∧ m < i ∧ (rd_T56 l (m : Int)).f1.toList = (rd_T56 l (i : Int)).f1.toList
noncomputable def sameB (l : List S56) (i j : Nat) : Bool := @decide (sameP l i j) (Classical.propDecidable _)
theorem sameB_true (l : List S56) (i j : Nat) : sameB l i j = true ↔ sameP l i j := by unfold sameB; simp
theorem sameB_end (l : List S56) (i j : Nat) (h : i ≤ j) : sameB l i j = false := by
  rw [← Bool.not_eq_true, sameB_true]
  rintro ⟨m, h1, h2, _⟩
  omega
theorem sameB_hit (l : List S56) (i j : Nat) (hj : j < i) (h : (rd_T56 l (j : Int)).f1.toList = (rd_T56 l (i : Int)).f1.toList) : sameB l i j = true := (sameB_true l i j).mpr ⟨j, Nat.le_refl _, hj, h⟩
theorem sameB_step (l : List S56) (i j : Nat) (h : ¬ (rd_T56 l (j : Int)).f1.toList = (rd_T56 l (i : Int)).f1.toList) : sameB l i (j + 1) = sameB l i j := by
  rw [Bool.eq_iff_iff, sameB_true, sameB_true]
  constructor
  · rintro ⟨m, h1, h2, h3⟩
    exact ⟨m, by omega, h2, h3⟩
  · rintro ⟨m, h1, h2, h3⟩
    rcases Nat.eq_or_lt_of_le h1 with rfl | q
    · exact absurd h3 h
    · exact ⟨m, q, h2, h3⟩
theorem specNames (l : List S56) (i : Nat) (hi : i < l.length) (hl : l.length ≤ 140737488351232) (a : Int) (c d : Int) (e : Nat) : ∀ (k j : Nat), j + e = i → e < k →
    spec_l5Good.l1 k l (i : Int) (j : Int) a (rd_T56 l (i : Int)).f1 c d = if sameB l i j = true then some false else spec_l5Good.l0 (k - e - 1) l ((i + 1 : Nat) : Int) := by
  induction e with
  | zero =>
    intro k j hj hk
    obtain ⟨k, rfl⟩ : ∃ m, k = m + 1 := ⟨k - 1, by omega⟩
    have c1 : ¬ (j : Int) < (i : Int) := by omega
    have ew : wrap64 ((i : Int) + 1) = ((i + 1 : Nat) : Int) := (w64 (by omega) (by omega)).trans (by omega)
    simp only [spec_l5Good.l1, if_neg c1, ew]
    rw [sameB_end l i j (by omega), if_neg (by simp)]
    rfl
  | succ e ih =>
    intro k j hj hk
    obtain ⟨k, rfl⟩ : ∃ m, k = m + 1 := ⟨k - 1, by omega⟩
    have c1 : (j : Int) < (i : Int) := by omega
    have c2 : 0 ≤ (j : Int) := by omega
    have c3 : (j : Int) < (l.length : Int) := by omega
    have ew : wrap64 ((j : Int) + 1) = ((j + 1 : Nat) : Int) := (w64 (by omega) (by omega)).trans (by omega)
    simp only [spec_l5Good.l1, if_pos c1, if_pos c2, if_pos c3, ew]
    by_cases h : (rd_T56 l (j : Int)).f1.toList = (rd_T56 l (i : Int)).f1.toList
    · rw [if_pos h, sameB_hit l i j (by omega) h, if_pos rfl]
    · have e2 : k + 1 - (e + 1) - 1 = k - e - 1 := by omega
      rw [if_neg h, ih k (j + 1) (by omega) (by omega), e2, sameB_step l i j h]
theorem rd_take (l : List S56) (i j : Nat) (h : j < i) : rd_T56 (l.take i) (j : Int) = rd_T56 l (j : Int) := by
  unfold rd_T56
  rw [Int.toNat_natCast, List.getD_eq_getElem?_getD, List.getD_eq_getElem?_getD, List.getElem?_take, if_pos h]
theorem implNames (l : List S56) (i : Nat) (hi : i < l.length) (hl : l.length ≤ 140737488351232) (a : Int) (c d : Int) (e : Nat) : ∀ (k j : Nat), j + e = i → e < k →
    impl_ArePeople.l1 k l l (l.length : Int) (i : Int) (l.take i) ((l.take i).length : Int) (j : Int) a (rd_T56 l (i : Int)).f1 c d = if sameB l i j = true then some false else impl_ArePeople.l0 (k - e - 1) l l (l.length : Int) ((i + 1 : Nat) : Int) := by
  have ht : (l.take i).length = i := by rw [List.length_take]; omega
  induction e with
  | zero =>
    intro k j hj hk
    obtain ⟨k, rfl⟩ : ∃ m, k = m + 1 := ⟨k - 1, by omega⟩
    have c1 : ¬ (j : Int) < ((l.take i).length : Int) := by omega
    have ew : wrap64 ((i : Int) + 1) = ((i + 1 : Nat) : Int) := (w64 (by omega) (by omega)).trans (by omega)
    simp only [impl_ArePeople.l1, if_neg c1, ew]
    rw [sameB_end l i j (by omega), if_neg (by simp)]
    rfl
  | succ e ih =>
    intro k j hj hk
    obtain ⟨k, rfl⟩ : ∃ m, k = m + 1 := ⟨k - 1, by omega⟩
    have c1 : (j : Int) < ((l.take i).length : Int) := by omega
    have c2 : 0 ≤ (j : Int) := by omega
    have ew : wrap64 ((j : Int) + 1) = ((j + 1 : Nat) : Int) := (w64 (by omega) (by omega)).trans (by omega)
    simp only [impl_ArePeople.l1, if_pos c1, if_pos c2, ew, rd_take l i j (by omega)]
    by_cases h : (rd_T56 l (j : Int)).f1.toList = (rd_T56 l (i : Int)).f1.toList
    · rw [if_pos h, sameB_hit l i j (by omega) h, if_pos rfl]
    · have e2 : k + 1 - (e + 1) - 1 = k - e - 1 := by omega
      rw [if_neg h, ih k (j + 1) (by omega) (by omega), e2, sameB_step l i j h]
theorem skills_eq (x : Int) : spec_l5Skills.f x = some (decide (0 ≤ x ∧ x ≤ 15)) := by unfold spec_l5Skills.f; rw [l1In_eq]; rfl
theorem areSkills_eq (x : Int) : impl_areSkills.f x = some (decide (0 ≤ x ∧ x ≤ 15)) := by unfold impl_areSkills.f; rw [within_eq]; rfl
theorem isId_eq (x : Int) : impl_isId.f x = some (decide (1 ≤ x ∧ x ≤ 99)) := by unfold impl_isId.f; rw [within_eq]; rfl
theorem specGood_loop (l : List S56) (hl : l.length ≤ 140737488351232) (M : Nat) (hM : ∀ x ∈ l, x.f1.size < M ∧ x.f1.size ≤ 140737488351232) (d : Nat) : ∀ (k i : Nat), i + d = l.length → d * (l.length + 3) + M < k →
    spec_l5Good.l0 k l (i : Int) = some (goodB l i) := by
  induction d with
  | zero =>
    intro k i hd hk
    obtain ⟨k, rfl⟩ : ∃ m, k = m + 1 := ⟨k - 1, by omega⟩
    have c1 : ¬ (i : Int) < (l.length : Int) := by omega
    simp only [spec_l5Good.l0, if_neg c1]
    refine congrArg some ?_
    rw [Bool.eq_iff_iff, goodB_true, decide_eq_true_eq]
    exact ⟨fun h => ⟨fun m h1 h2 => by omega, by omega⟩, fun h => by have := h.2; omega⟩
  | succ d ih =>
    intro k i hd hk
    rw [Nat.succ_mul] at hk
    obtain ⟨k, rfl⟩ : ∃ m, k = m + 2 := ⟨k - 2, by omega⟩
    have hi : i < l.length := by omega
    have c1 : (i : Int) < (l.length : Int) := by omega
    have c2 : 0 ≤ (i : Int) := by omega
    have hmem : rd_T56 l (i : Int) ∈ l := by
      have : rd_T56 l (i : Int) = l[i] := by simp [rd_T56, hi]
      rw [this]
      exact List.getElem_mem hi
    have hw := hM _ hmem
    simp only [spec_l5Good.l0, if_pos c1, if_pos c2, l1In_eq, l2Word_eq _ hw.2 (show (rd_T56 l (i : Int)).f1.size < k + 1 by omega), skills_eq, Option.bind_some]
    have hbad : ∀ a c e, spec_l5Good.j1 (k + 1) l (i : Int) true a (rd_T56 l (i : Int)).f1 c e = some false := fun a c e => by simp [spec_l5Good.j1]
    by_cases h1 : 1 ≤ (rd_T56 l (i : Int)).f0 ∧ (rd_T56 l (i : Int)).f0 ≤ 99
    case neg =>
      rw [decide_eq_false h1, if_neg (by simp), hbad, goodB_not hi (fun z => h1 z.1)]
    rw [decide_eq_true h1, if_pos rfl]
    by_cases h2 : vWord (rd_T56 l (i : Int)).f1 = true
    case neg =>
      rw [if_neg h2, hbad, goodB_not hi (fun z => h2 z.2.1)]
    rw [if_pos h2]
    by_cases h3 : 0 ≤ (rd_T56 l (i : Int)).f2 ∧ (rd_T56 l (i : Int)).f2 ≤ 15
    case neg =>
      rw [decide_eq_false h3, if_neg (by simp), hbad, goodB_not hi (fun z => h3 z.2.2.1)]
    rw [decide_eq_true h3, if_pos rfl]
    by_cases h4 : 0 ≤ (rd_T56 l (i : Int)).f3 ∧ (rd_T56 l (i : Int)).f3 ≤ 500
    case neg =>
      rw [decide_eq_false h4, if_neg (by simp), hbad, goodB_not hi (fun z => h4 z.2.2.2.1)]
    rw [decide_eq_true h4, if_pos rfl]
    have last : ∀ a c e, (0 < i → (rd_T56 l ((i - 1 : Nat) : Int)).f0 < (rd_T56 l (i : Int)).f0) → spec_l5Good.j1 (k + 1) l (i : Int) false a (rd_T56 l (i : Int)).f1 c e = some (goodB l i) := by
      intro a c e h5
      simp only [spec_l5Good.j1, Bool.false_eq_true, if_false]
      have hn := specNames l i hi hl a c e i k 0 (by omega) (by omega)
      have hn' : spec_l5Good.l1 k l (i : Int) 0 a (rd_T56 l (i : Int)).f1 c e = _ := hn
      rw [hn']
      by_cases q : sameB l i 0 = true
      · rw [if_pos q, goodB_not hi (fun z => by obtain ⟨m, _, h6, h7⟩ := (sameB_true l i 0).mp q; exact z.2.2.2.2.2 m h6 h7)]
      · rw [if_neg q, ih (k - i - 1) (i + 1) (by omega) (by omega), goodB_step (i := i) ⟨h1, h2, h3, h4, h5, fun j hj z => q ((sameB_true l i 0).mpr ⟨j, Nat.zero_le _, hj, z⟩)⟩]
    by_cases h0 : (i : Int) > 0
    · have ew' : wrap64 ((i : Int) - 1) = ((i - 1 : Nat) : Int) := (w64 (by omega) (by omega)).trans (by omega)
      have c3 : 0 ≤ ((i - 1 : Nat) : Int) := by omega
      have c4 : ((i - 1 : Nat) : Int) < (l.length : Int) := by omega
      rw [if_pos h0, ew', if_pos c3, if_pos c4]
      by_cases h5 : (rd_T56 l ((i - 1 : Nat) : Int)).f0 ≥ (rd_T56 l (i : Int)).f0
      · rw [decide_eq_true h5, hbad, goodB_not hi (fun z => by have := z.2.2.2.2.1 (by omega); omega)]
      · rw [decide_eq_false h5]
        exact last _ _ _ (fun _ => by omega)
    · rw [if_neg h0]
      exact last _ _ _ (fun z => by omega)
theorem implGood_loop (l : List S56) (hl : l.length ≤ 140737488351232) (d : Nat) : ∀ (k i : Nat), i + d = l.length → d * (l.length + 3) < k →
    impl_ArePeople.l0 k l l (l.length : Int) (i : Int) = some (goodB l i) := by
  induction d with
  | zero =>
    intro k i hd hk
    obtain ⟨k, rfl⟩ : ∃ m, k = m + 1 := ⟨k - 1, by omega⟩
    have c1 : ¬ (i : Int) < (l.length : Int) := by omega
    simp only [impl_ArePeople.l0, if_neg c1]
    refine congrArg some ?_
    rw [Bool.eq_iff_iff, goodB_true, decide_eq_true_eq]
    exact ⟨fun h => ⟨fun m h1 h2 => by omega, by omega⟩, fun h => by have := h.2; omega⟩
  | succ d ih =>
    intro k i hd hk
    rw [Nat.succ_mul] at hk
    obtain ⟨k, rfl⟩ : ∃ m, k = m + 2 := ⟨k - 2, by omega⟩
    have hi : i < l.length := by omega
    have c1 : (i : Int) < (l.length : Int) := by omega
    have c2 : 0 ≤ (i : Int) := by omega
    simp only [impl_ArePeople.l0, if_pos c1, if_pos c2, within_eq, isId_eq, isWord_eq, areSkills_eq, Option.bind_some]
    have hbad : ∀ a c e, impl_ArePeople.j1 (k + 1) l (i : Int) l (l.length : Int) (i : Int) true a (rd_T56 l (i : Int)).f1 c e = some false := fun a c e => by simp [impl_ArePeople.j1]
    by_cases h1 : 1 ≤ (rd_T56 l (i : Int)).f0 ∧ (rd_T56 l (i : Int)).f0 ≤ 99
    case neg =>
      rw [decide_eq_false h1, if_neg (by simp), hbad, goodB_not hi (fun z => h1 z.1)]
    rw [decide_eq_true h1, if_pos rfl]
    by_cases h2 : vWord (rd_T56 l (i : Int)).f1 = true
    case neg =>
      rw [if_neg h2, hbad, goodB_not hi (fun z => h2 z.2.1)]
    rw [if_pos h2]
    by_cases h3 : 0 ≤ (rd_T56 l (i : Int)).f2 ∧ (rd_T56 l (i : Int)).f2 ≤ 15
    case neg =>
      rw [decide_eq_false h3, if_neg (by simp), hbad, goodB_not hi (fun z => h3 z.2.2.1)]
    rw [decide_eq_true h3, if_pos rfl]
    by_cases h4 : 0 ≤ (rd_T56 l (i : Int)).f3 ∧ (rd_T56 l (i : Int)).f3 ≤ 500
    case neg =>
      rw [decide_eq_false h4, if_neg (by simp), hbad, goodB_not hi (fun z => h4 z.2.2.2.1)]
    rw [decide_eq_true h4, if_pos rfl]
    have last : ∀ a c e, (0 < i → (rd_T56 l ((i - 1 : Nat) : Int)).f0 < (rd_T56 l (i : Int)).f0) → impl_ArePeople.j1 (k + 1) l (i : Int) l (l.length : Int) (i : Int) false a (rd_T56 l (i : Int)).f1 c e = some (goodB l i) := by
      intro a c e h5
      have c5 : (i : Int) ≤ (l.length : Int) := by omega
      simp only [impl_ArePeople.j1, Bool.false_eq_true, if_false, if_pos c2, if_pos c5, Option.bind_some, Int.toNat_natCast]
      have hn := implNames l i hi hl a c e i k 0 (by omega) (by omega)
      have hn' : impl_ArePeople.l1 k l l (l.length : Int) (i : Int) (l.take i) ((l.take i).length : Int) 0 a (rd_T56 l (i : Int)).f1 c e = _ := hn
      rw [hn']
      by_cases q : sameB l i 0 = true
      · rw [if_pos q, goodB_not hi (fun z => by obtain ⟨m, _, h6, h7⟩ := (sameB_true l i 0).mp q; exact z.2.2.2.2.2 m h6 h7)]
      · rw [if_neg q, ih (k - i - 1) (i + 1) (by omega) (by omega), goodB_step (i := i) ⟨h1, h2, h3, h4, h5, fun j hj z => q ((sameB_true l i 0).mpr ⟨j, Nat.zero_le _, hj, z⟩)⟩]
    by_cases h0 : (i : Int) > 0
    · have ew' : wrap64 ((i : Int) - 1) = ((i - 1 : Nat) : Int) := (w64 (by omega) (by omega)).trans (by omega)
      have c3 : 0 ≤ ((i - 1 : Nat) : Int) := by omega
      have c4 : ((i - 1 : Nat) : Int) < (l.length : Int) := by omega
      rw [if_pos h0, ew', if_pos c3, if_pos c4]
      by_cases h5 : (rd_T56 l ((i - 1 : Nat) : Int)).f0 ≥ (rd_T56 l (i : Int)).f0
      · rw [decide_eq_true h5, hbad, goodB_not hi (fun z => by have := z.2.2.2.2.1 (by omega); omega)]
      · rw [decide_eq_false h5]
        exact last _ _ _ (fun _ => by omega)
    · rw [if_neg h0]
      exact last _ _ _ (fun z => by omega)
/-- Whether people are valid. -/
noncomputable def goodP (l : List S56) : Bool := goodB l 0
theorem specGood_eq (l : List S56) (hl : l.length ≤ 1048576) (M : Nat) (hM : ∀ x ∈ l, x.f1.size < M ∧ x.f1.size ≤ 140737488351232) {k : Nat} (hk : l.length * (l.length + 3) + M < k) : spec_l5Good.f k l = some (goodP l) :=
  specGood_loop l (by omega) M hM l.length k 0 (by omega) hk
theorem implGood_eq (l : List S56) (hl : l.length ≤ 1048576) {k : Nat} (hk : l.length * (l.length + 3) < k) : impl_ArePeople.f k l = some (goodP l) :=
  implGood_loop l (by omega) l.length k 0 (by omega) hk

theorem szP_loop (l : List S55) (hl : l.length ≤ 140737488351232) (hw : ∀ y ∈ l, y.f1.size ≤ 9223372036854775807) (d : Nat) : ∀ (i : Nat) (left : Int), i + d = l.length → 0 ≤ left → left ≤ 1048576 →
    ∃ t, (∀ k, d < k → laws_szPersonS.l0 k l left (i : Int) = some t) ∧ (t < 0 ∨ ∀ j, i ≤ j → j < l.length → (rd_T55 l (j : Int)).f1.size ≤ 1048576) := by
  induction d with
  | zero =>
    intro i left hi h0 h1
    refine ⟨left, fun k hk => ?_, .inr fun j h1 h2 => by omega⟩
    obtain ⟨k, rfl⟩ : ∃ m, k = m + 1 := ⟨k - 1, by omega⟩
    simp only [laws_szPersonS.l0]
    rw [if_neg (by omega)]
  | succ d ih =>
    intro i left hi h0 h1
    have hlt : i < l.length := by omega
    have c1 : (i : Int) < (l.length : Int) := by omega
    have c2 : 0 ≤ (i : Int) := by omega
    have ew : wrap64 ((i : Int) + 1) = ((i + 1 : Nat) : Int) := (w64 (by omega) (by omega)).trans (by omega)
    have hmem : rd_T55 l (i : Int) ∈ l := by
      have : rd_T55 l (i : Int) = l[i] := by simp [rd_T55, hlt]
      rw [this]
      exact List.getElem_mem hlt
    have hs := hw _ hmem
    have e1 : wrap64 (left - ((rd_T55 l (i : Int)).f1.size : Int)) = left - ((rd_T55 l (i : Int)).f1.size : Int) := w64 (by omega) (by omega)
    by_cases h : left - ((rd_T55 l (i : Int)).f1.size : Int) < 0
    · refine ⟨-1, fun k hk => ?_, .inl (by omega)⟩
      obtain ⟨k, rfl⟩ : ∃ m, k = m + 1 := ⟨k - 1, by omega⟩
      simp only [laws_szPersonS.l0, laws_szPerson.f, if_pos c1, if_pos c2, e1, if_pos h, Option.bind_some]
      rfl
    · obtain ⟨t, ht, hq⟩ := ih (i + 1) (left - ((rd_T55 l (i : Int)).f1.size : Int)) (by omega) (by omega) (by omega)
      refine ⟨t, fun k hk => ?_, hq.imp id fun hq j h3 h4 => ?_⟩
      · obtain ⟨k, rfl⟩ : ∃ m, k = m + 1 := ⟨k - 1, by omega⟩
        simp only [laws_szPersonS.l0, laws_szPerson.f, if_pos c1, if_pos c2, e1, if_neg h, Option.bind_some, ew]
        exact ht k (by omega)
      · rcases Nat.eq_or_lt_of_le h3 with rfl | q
        · omega
        · exact hq j q h4
theorem szP_eq (l : List S55) (hl : l.length ≤ 140737488351232) (hw : ∀ y ∈ l, y.f1.size ≤ 9223372036854775807) : ∃ t, (∀ k, l.length < k → laws_szPersonS.f k l 1048576 = some t) ∧ (t < 0 ∨ (l.length ≤ 1048576 ∧ ∀ y ∈ l, y.f1.size ≤ 1048576)) := by
  have e0 : wrap64 (1048576 - (l.length : Int)) = 1048576 - (l.length : Int) := w64 (by omega) (by omega)
  by_cases h : 1048576 - (l.length : Int) < 0
  · refine ⟨-1, fun k _ => ?_, .inl (by omega)⟩
    unfold laws_szPersonS.f
    rw [e0, if_pos h]
  · obtain ⟨t, ht, hq⟩ := szP_loop l hl hw l.length 0 (1048576 - (l.length : Int)) (by omega) (by omega) (by omega)
    refine ⟨t, fun k hk => ?_, hq.imp id fun hq => ⟨by omega, fun y hy => ?_⟩⟩
    · unfold laws_szPersonS.f
      rw [e0, if_neg h]
      exact ht k hk
    · obtain ⟨j, hj, e⟩ := List.getElem_of_mem hy
      have := hq j (Nat.zero_le _) hj
      have er : rd_T55 l (j : Int) = y := by simp [rd_T55, hj, e]
      rw [er] at this
      exact this

theorem set_step {α : Type} (m : List α) (z : α) (i n : Nat) (hm : m.length = n) (hi : i < n) :
    (m.take i ++ (List.replicate n z).drop i).set i (m[i]'(by omega)) = m.take (i + 1) ++ (List.replicate n z).drop (i + 1) := by
  have e1 : (List.replicate n z).drop i = z :: (List.replicate n z).drop (i + 1) := by
    rw [List.drop_eq_getElem_cons (by simpa using hi)]
    simp
  have e2 : (m.take i).length = i := by simp; omega
  rw [List.set_append_right _ _ (by omega), e2, Nat.sub_self, e1, List.set_cons_zero, List.take_succ_eq_append_getElem (by omega), List.append_assoc]
  rfl

theorem set_to {α : Type} (m r : List α) (i n : Nat) (hm : m.length = n) (hr : r.length = n) (hi : i < n) :
    (m.take i ++ r.drop i).set i (m[i]'(by omega)) = m.take (i + 1) ++ r.drop (i + 1) := by
  have e1 : r.drop i = r[i]'(by omega) :: r.drop (i + 1) := List.drop_eq_getElem_cons (by omega)
  have e2 : (m.take i).length = i := by simp; omega
  rw [List.set_append_right _ _ (by omega), e2, Nat.sub_self, e1, List.set_cons_zero, List.take_succ_eq_append_getElem (by omega), List.append_assoc]
  rfl

theorem eqInts_loop (l : List Int) (hl : l.length ≤ 140737488351232) (d : Nat) : ∀ (k i : Nat), i + d = l.length → d < k → laws_eqIntS.l0 k l l (i : Int) = some true := by
  induction d with
  | zero =>
    intro k i hd hk
    obtain ⟨k, rfl⟩ : ∃ m, k = m + 1 := ⟨k - 1, by omega⟩
    simp only [laws_eqIntS.l0]
    rw [if_neg (by omega)]
  | succ d ih =>
    intro k i hd hk
    obtain ⟨k, rfl⟩ : ∃ m, k = m + 1 := ⟨k - 1, by omega⟩
    have ew : wrap64 ((i : Int) + 1) = ((i + 1 : Nat) : Int) := (w64 (by omega) (by omega)).trans (by omega)
    have c1 : (i : Int) < (l.length : Int) := by omega
    have c2 : 0 ≤ (i : Int) := by omega
    simp only [laws_eqIntS.l0, if_pos c1, if_pos c2, if_true, ew]
    exact ih k (i + 1) (by omega) (by omega)
theorem eqInts_eq (l : List Int) (hl : l.length ≤ 140737488351232) {k : Nat} (hk : l.length < k) : laws_eqIntS.f k l l = some true := by
  unfold laws_eqIntS.f
  rw [if_pos rfl]
  exact eqInts_loop l hl l.length k 0 (by omega) hk

def marks (n : Nat) : List Int := (List.range n).map fun (j : Nat) => (j : Int) + 1
theorem marks_len (n : Nat) : (marks n).length = n := by simp [marks]
theorem marks_get (n i : Nat) (h : i < (marks n).length) : (marks n)[i] = (i : Int) + 1 := by simp [marks]
theorem markInts_loop (r : List Int) (hl : r.length ≤ 140737488351232) (d : Nat) : ∀ (k i : Nat), i + d = r.length → d < k →
    laws_markIntS.l0 k ((marks r.length).take i ++ r.drop i) ((i : Int) + 1) (i : Int) = some ((r.length : Int) + 1, marks r.length) := by
  induction d with
  | zero =>
    intro k i hd hk
    obtain ⟨k, rfl⟩ : ∃ m, k = m + 1 := ⟨k - 1, by omega⟩
    have e : i = r.length := by omega
    subst e
    have el : ((marks r.length).take r.length ++ r.drop r.length).length = r.length := by simp [marks_len]
    simp only [laws_markIntS.l0, el]
    rw [if_neg (by omega), List.take_of_length_le (by simp [marks_len]), List.drop_of_length_le (by simp), List.append_nil]
  | succ d ih =>
    intro k i hd hk
    obtain ⟨k, rfl⟩ : ∃ m, k = m + 1 := ⟨k - 1, by omega⟩
    have ew : wrap64 ((i : Int) + 1) = ((i + 1 : Nat) : Int) := (w64 (by omega) (by omega)).trans (by omega)
    have ew2 : wrap64 ((i : Int) + 1 + 1) = ((i + 1 : Nat) : Int) + 1 := (w64 (by omega) (by omega)).trans (by omega)
    have el : ((marks r.length).take i ++ r.drop i).length = r.length := by simp [marks_len]; omega
    have c1 : (i : Int) < (r.length : Int) := by omega
    have c2 : 0 ≤ (i : Int) := by omega
    have es := set_to (marks r.length) r i r.length (marks_len _) rfl (by omega)
    rw [marks_get] at es
    simp only [laws_markIntS.l0, el, if_pos c1, if_pos c2, ew, ew2, Int.toNat_natCast, es]
    exact ih k (i + 1) (by omega) (by omega)
theorem markInts_eq (r : List Int) (hl : r.length ≤ 140737488351232) {k : Nat} (hk : r.length < k) : laws_markIntS.f k r 1 = some ((r.length : Int) + 1, marks r.length) := by
  have h := markInts_loop r hl r.length k 0 (by omega) hk
  unfold laws_markIntS.f
  simpa using h
theorem heldInts_loop (n : Nat) (hl : n ≤ 140737488351232) (d : Nat) : ∀ (k i : Nat), i + d = n → d < k → laws_heldIntS.l0 k (marks n) ((i : Int) + 1) (i : Int) = some ((n : Int) + 1) := by
  induction d with
  | zero =>
    intro k i hd hk
    obtain ⟨k, rfl⟩ : ∃ m, k = m + 1 := ⟨k - 1, by omega⟩
    simp only [laws_heldIntS.l0, marks_len]
    rw [if_neg (by omega)]
    exact congrArg some (by omega)
  | succ d ih =>
    intro k i hd hk
    obtain ⟨k, rfl⟩ : ∃ m, k = m + 1 := ⟨k - 1, by omega⟩
    have ew : wrap64 ((i : Int) + 1) = ((i + 1 : Nat) : Int) := (w64 (by omega) (by omega)).trans (by omega)
    have ew2 : wrap64 ((i : Int) + 1 + 1) = ((i + 1 : Nat) : Int) + 1 := (w64 (by omega) (by omega)).trans (by omega)
    have c1 : (i : Int) < (n : Int) := by omega
    have c2 : 0 ≤ (i : Int) := by omega
    have hr : rd (marks n) (i : Int) = (i : Int) + 1 := by
      unfold rd
      rw [Int.toNat_natCast, List.getD_eq_getElem?_getD, List.getElem?_eq_getElem (by rw [marks_len]; omega), Option.getD_some, marks_get]
    simp only [laws_heldIntS.l0, marks_len, if_pos c1, if_pos c2, hr, if_true, ew, ew2]
    exact ih k (i + 1) (by omega) (by omega)
theorem heldInts_eq (n : Nat) (hl : n ≤ 140737488351232) {k : Nat} (hk : n < k) : laws_heldIntS.f k (marks n) 1 = some ((n : Int) + 1) := by
  have h := heldInts_loop n hl n k 0 (by omega) hk
  unfold laws_heldIntS.f
  simpa using h

/-- The text of a mark: there is one, whatever the fuel. -/
theorem markText_loop : ∀ (n : Nat) (k : Nat) (x : Int) (s : ByteArray), 0 ≤ x → x < 10 ^ n → x ≤ 9223372036854775807 → n < k → s.size + n ≤ 1000 →
    ∃ r, r.size ≤ s.size + n + 1 ∧ ∀ k, n < k → laws_markText.l0 k x s = some r
  | 0, _, x, s, h0, h1, hb, _, hs => by
    have hz : x = 0 := by simp at h1; omega
    subst hz
    refine ⟨(⟨#[109]⟩ : ByteArray) ++ s, by rw [ByteArray.size_append]; show 1 + s.size ≤ _; omega, fun k hk => ?_⟩
    obtain ⟨k, rfl⟩ : ∃ m, k = m + 1 := ⟨k - 1, by omega⟩
    simp only [laws_markText.l0]
    rw [if_neg (by omega), if_pos (by omega)]
  | n + 1, k, x, s, h0, h1, hb, hk, hs => by
    by_cases c : x > 0
    · have ed : Int.tdiv x 10 = x / 10 := Int.tdiv_eq_ediv_of_nonneg h0
      have ew : wrap64 (x / 10) = x / 10 := w64 (by omega) (by omega)
      have hlt : x / 10 < 10 ^ n := by
        rw [Int.pow_succ] at h1
        exact Int.ediv_lt_of_lt_mul (by omega) h1
      have hsz : (strOfNums [(wrap64 (48 + (Int.tmod x 10))) % 256] ++ s).size = s.size + 1 := by
        rw [ByteArray.size_append]
        have : (strOfNums [(wrap64 (48 + (Int.tmod x 10))) % 256]).size = 1 := rfl
        omega
      obtain ⟨r, hr, e⟩ := markText_loop n (n + 1) (x / 10) (strOfNums [(wrap64 (48 + (Int.tmod x 10))) % 256] ++ s) (by omega) hlt (by omega) (by omega) (by omega)
      refine ⟨r, by omega, fun k hk => ?_⟩
      obtain ⟨k, rfl⟩ : ∃ m, k = m + 1 := ⟨k - 1, by omega⟩
      have h1' : (strOfNums [(wrap64 (48 + (Int.tmod x 10))) % 256]).size + s.size ≤ 9223372036854775807 := by
        have : (strOfNums [(wrap64 (48 + (Int.tmod x 10))) % 256]).size = 1 := rfl
        omega
      simp only [laws_markText.l0, if_pos c, Option.bind_some, if_pos h1', ed, ew]
      exact e k (by omega)
    · have hz : x = 0 := by omega
      subst hz
      refine ⟨(⟨#[109]⟩ : ByteArray) ++ s, by rw [ByteArray.size_append]; show 1 + s.size ≤ _; omega, fun k hk => ?_⟩
      obtain ⟨k, rfl⟩ : ∃ m, k = m + 1 := ⟨k - 1, by omega⟩
      simp only [laws_markText.l0]
      rw [if_neg (by omega), if_pos (by omega)]
theorem markText_some (m : Int) (h0 : 0 ≤ m) (h1 : m ≤ 9223372036854775807) : ∃ r, ∀ k, 19 < k → laws_markText.f k m = some r := by
  unfold laws_markText.f
  by_cases c : m ≤ 0
  · exact ⟨_, fun k _ => by rw [if_pos c]⟩
  · obtain ⟨r, _, e⟩ := markText_loop 19 20 m (⟨#[]⟩ : ByteArray) h0 (by omega) h1 (by omega) (by decide)
    exact ⟨r, fun k hk => by rw [if_neg c]; exact e k hk⟩
/-- The mark's text. -/
def mt (m : Int) : ByteArray := (laws_markText.f 20 m).getD ByteArray.empty
theorem mt_eq {m : Int} (h0 : 0 ≤ m) (h1 : m ≤ 9223372036854775807) {k : Nat} (hk : 19 < k) : laws_markText.f k m = some (mt m) := by
  obtain ⟨r, h⟩ := markText_some m h0 h1
  unfold mt
  rw [h k hk, h 20 (by omega)]
  rfl

/-- One person marked. -/
def markStep (l : List S56) (i : Int) (x : Int) (tx : ByteArray) : List S56 :=
  let y1 := l.set i.toNat ⟨x, (rd_T56 l i).f1, (rd_T56 l i).f2, (rd_T56 l i).f3⟩
  let y2 := y1.set i.toNat ⟨(rd_T56 y1 i).f0, tx, (rd_T56 y1 i).f2, (rd_T56 y1 i).f3⟩
  let y3 := y2.set i.toNat ⟨(rd_T56 y2 i).f0, (rd_T56 y2 i).f1, x + 2, (rd_T56 y2 i).f3⟩
  y3.set i.toNat ⟨(rd_T56 y3 i).f0, (rd_T56 y3 i).f1, (rd_T56 y3 i).f2, x + 3⟩
theorem markStep_length (l : List S56) (i : Int) (x : Int) (tx : ByteArray) : (markStep l i x tx).length = l.length := by simp [markStep]
theorem markP_loop (d : Nat) : ∀ (i : Nat) (x : Int) (l : List S56), i + d = l.length → l.length ≤ 2097152 → 0 ≤ x → x + 4 * d ≤ 4611686018427387904 →
    ∃ m l', 0 ≤ m ∧ ∀ k, d + 20 < k → laws_markPersonS.l0 k l x (i : Int) = some (m, l') := by
  induction d with
  | zero =>
    intro i x l hd hl hx _
    refine ⟨x, l, hx, fun k hk => ?_⟩
    obtain ⟨k, rfl⟩ : ∃ m, k = m + 1 := ⟨k - 1, by omega⟩
    simp only [laws_markPersonS.l0]
    rw [if_neg (by omega)]
  | succ d ih =>
    intro i x l hd hl hx hb
    have ew : wrap64 ((i : Int) + 1) = ((i + 1 : Nat) : Int) := (w64 (by omega) (by omega)).trans (by omega)
    have c1 : (i : Int) < (l.length : Int) := by omega
    have c2 : 0 ≤ (i : Int) := by omega
    have e1 : wrap64 (x + 1) = x + 1 := w64 (by omega) (by omega)
    have e2 : wrap64 (x + 1 + 1) = x + 2 := (w64 (by omega) (by omega)).trans (by omega)
    have e3 : wrap64 (x + 2 + 1) = x + 3 := (w64 (by omega) (by omega)).trans (by omega)
    have e4 : wrap64 (x + 3 + 1) = x + 4 := (w64 (by omega) (by omega)).trans (by omega)
    obtain ⟨tx, htx⟩ := markText_some (x + 1) (by omega) (by omega)
    have key : ∀ k, 19 < k → laws_markPersonS.l0 (k + 1) l x (i : Int) = laws_markPersonS.l0 k (markStep l (i : Int) x tx) (x + 4) ((i + 1 : Nat) : Int) := by
      intro k hk
      simp only [laws_markPersonS.l0, if_pos c1, if_pos c2, e1, htx k hk, Option.bind_some, e2, e3, e4, ew]
      rfl
    obtain ⟨m, l', hm, h⟩ := ih (i + 1) (x + 4) (markStep l (i : Int) x tx) (by rw [markStep_length]; omega) (by rw [markStep_length]; omega) (by omega) (by omega)
    refine ⟨m, l', hm, fun k hk => ?_⟩
    obtain ⟨k, rfl⟩ : ∃ m, k = m + 1 := ⟨k - 1, by omega⟩
    rw [key k (by omega)]
    exact h k (by omega)
theorem markP_eq (l : List S56) (hl : l.length ≤ 1048576) : ∃ m l', 0 ≤ m ∧ ∀ k, l.length + 20 < k → laws_markPersonS.f k l 1 = some (m, l') :=
  markP_loop l.length 0 1 l (by omega) (by omega) (by omega) (by omega)

def ixFrom (id : Int) : List S56 → Nat → Int
  | [], _ => -1
  | y :: r, i => if y.f0 = id then (i : Int) else ixFrom id r (i + 1)
theorem rd_T56_drop (l : List S56) (j : Nat) (h : j < l.length) : l.drop j = rd_T56 l (j : Int) :: l.drop (j + 1) := by
  rw [List.drop_eq_getElem_cons h]
  congr 1
  simp [rd_T56, h]
theorem ids_drop (l : List Int) (j : Nat) (h : j < l.length) : l.drop j = rd l (j : Int) :: l.drop (j + 1) := by
  rw [List.drop_eq_getElem_cons h]
  congr 1
  simp [rd, h]
theorem ixFrom_le (id : Int) : ∀ (l : List S56) (i : Nat), ixFrom id l i < (i : Int) + l.length := by
  intro l
  induction l with
  | nil => intro i; simp only [ixFrom, List.length_nil]; omega
  | cons y r ih =>
    intro i
    simp only [ixFrom, List.length_cons]
    split
    · omega
    · have := ih (i + 1); omega
theorem ixFrom_f0 (id : Int) : ∀ (l : List S56) (i : Nat), 0 ≤ ixFrom id l i → (i : Int) ≤ ixFrom id l i ∧ (rd_T56 l (ixFrom id l i - i)).f0 = id := by
  intro l
  induction l with
  | nil => intro i h; simp only [ixFrom] at h; omega
  | cons y r ih =>
    intro i h
    simp only [ixFrom] at h ⊢
    split
    · rename_i hy
      refine ⟨Int.le_refl _, ?_⟩
      rw [Int.sub_self]
      exact hy
    · rename_i hy
      rw [if_neg hy] at h
      obtain ⟨h1, h2⟩ := ih (i + 1) h
      refine ⟨by omega, ?_⟩
      have e : (ixFrom id r (i + 1) - (i : Int)).toNat = (ixFrom id r (i + 1) - ((i + 1 : Nat) : Int)).toNat + 1 := by omega
      unfold rd_T56 at h2 ⊢
      rw [e, List.getD_cons_succ]
      exact h2
theorem find_loop (l : List S56) (id : Int) (hl : l.length ≤ 140737488351232) (d : Nat) : ∀ (k i : Nat), i + d = l.length → d < k → spec_l5Find.l0 k l id (i : Int) = some (ixFrom id (l.drop i) i) := by
  induction d with
  | zero =>
    intro k i hd hk
    obtain ⟨k, rfl⟩ : ∃ m, k = m + 1 := ⟨k - 1, by omega⟩
    have c1 : ¬ (i : Int) < (l.length : Int) := by omega
    simp only [spec_l5Find.l0, if_neg c1]
    rw [List.drop_of_length_le (by omega)]
    rfl
  | succ d ih =>
    intro k i hd hk
    obtain ⟨k, rfl⟩ : ∃ m, k = m + 1 := ⟨k - 1, by omega⟩
    have ew : wrap64 ((i : Int) + 1) = ((i + 1 : Nat) : Int) := (w64 (by omega) (by omega)).trans (by omega)
    have c1 : (i : Int) < (l.length : Int) := by omega
    have c2 : 0 ≤ (i : Int) := by omega
    simp only [spec_l5Find.l0, if_pos c1, if_pos c2, ew]
    rw [rd_T56_drop l i (by omega)]
    simp only [ixFrom]
    by_cases h : (rd_T56 l (i : Int)).f0 = id
    · rw [if_pos h, if_pos h]
    · rw [if_neg h, if_neg h]
      exact ih k (i + 1) (by omega) (by omega)
theorem find_eq (l : List S56) (id : Int) (hl : l.length ≤ 140737488351232) {k : Nat} (hk : l.length < k) : spec_l5Find.f k l id = some (ixFrom id l 0) := by
  have h := find_loop l id hl l.length k 0 (by omega) hk
  simpa [spec_l5Find.f] using h
/-- The ids are in order, one by one from place i on, and within 1..99. -/
def allIn (l : List S56) (ids : List Int) : Bool := ids.all fun id => decide (0 ≤ ixFrom id l 0)
def mem (l : List S56) (id : Int) : S56 := rd_T56 l (ixFrom id l 0)

theorem bit1 (s : Int) (h0 : 0 ≤ s) (h1 : s ≤ 15) : Go.bits .and .i64 s 1 = s % 2 := by
  have : ∀ n : Fin 16, Go.bits .and .i64 (n.val : Int) 1 = (n.val : Int) % 2 := by decide +kernel
  have h := this ⟨s.toNat, by omega⟩
  simp only [Int.toNat_of_nonneg h0] at h
  exact h
theorem bit2 (s : Int) (h0 : 0 ≤ s) (h1 : s ≤ 15) : Go.bits .and .i64 s 2 = s / 2 % 2 * 2 := by
  have : ∀ n : Fin 16, Go.bits .and .i64 (n.val : Int) 2 = (n.val : Int) / 2 % 2 * 2 := by decide +kernel
  have h := this ⟨s.toNat, by omega⟩
  simp only [Int.toNat_of_nonneg h0] at h
  exact h
theorem bit3 (s : Int) (h0 : 0 ≤ s) (h1 : s ≤ 15) : Go.bits .and .i64 s 3 = s % 4 := by
  have : ∀ n : Fin 16, Go.bits .and .i64 (n.val : Int) 3 = (n.val : Int) % 4 := by decide +kernel
  have h := this ⟨s.toNat, by omega⟩
  simp only [Int.toNat_of_nonneg h0] at h
  exact h
theorem bitOr (s t : Int) (h0 : 0 ≤ s) (h1 : s ≤ 15) (g0 : 0 ≤ t) (g1 : t ≤ 15) : 0 ≤ Go.bits .or .i64 s t ∧ Go.bits .or .i64 s t ≤ 15 ∧ (Go.bits .or .i64 s t % 2 = 0 ↔ s % 2 = 0 ∧ t % 2 = 0) ∧ (Go.bits .or .i64 s t / 2 % 2 = 0 ↔ s / 2 % 2 = 0 ∧ t / 2 % 2 = 0) := by
  have : ∀ n m : Fin 16, 0 ≤ Go.bits .or .i64 (n.val : Int) (m.val : Int) ∧ Go.bits .or .i64 (n.val : Int) (m.val : Int) ≤ 15 ∧ (Go.bits .or .i64 (n.val : Int) (m.val : Int) % 2 = 0 ↔ (n.val : Int) % 2 = 0 ∧ (m.val : Int) % 2 = 0) ∧ (Go.bits .or .i64 (n.val : Int) (m.val : Int) / 2 % 2 = 0 ↔ (n.val : Int) / 2 % 2 = 0 ∧ (m.val : Int) / 2 % 2 = 0) := by decide +kernel
  have h := this ⟨s.toNat, by omega⟩ ⟨t.toNat, by omega⟩
  simp only [Int.toNat_of_nonneg h0, Int.toNat_of_nonneg g0] at h
  exact h
/-- The skills of all together. -/
def orAll : List S56 → Int → Int
  | [], s => s
  | x :: r, s => orAll r (Go.bits .or .i64 s x.f2)
def tripsAll : List S56 → Int → Int
  | [], s => s
  | x :: r, s => tripsAll r (wrap64 (s + x.f3))
/-- How many can keep the book or hold the tape. -/
def able (M : List S56) : List S56 := M.filter fun x => decide (¬ Go.bits .and .i64 x.f2 3 = 0)
theorem all_loop (l : List S56) (ids : List Int) (hl : l.length ≤ 1048576) (hi : ids.length ≤ 1048576) (ha : allIn l ids = true) (d : Nat) : ∀ (k i : Nat) (s t : Int), i + d = ids.length → d + l.length + 1 < k → spec_l5All.l0 k l ids s t (i : Int) = some (orAll ((ids.drop i).map (mem l)) s, tripsAll ((ids.drop i).map (mem l)) t) := by
  induction d with
  | zero =>
    intro k i s t hd hk
    obtain ⟨k, rfl⟩ : ∃ m, k = m + 1 := ⟨k - 1, by omega⟩
    have c1 : ¬ (i : Int) < (ids.length : Int) := by omega
    simp only [spec_l5All.l0, if_neg c1]
    rw [List.drop_of_length_le (by omega)]
    rfl
  | succ d ih =>
    intro k i s t hd hk
    obtain ⟨k, rfl⟩ : ∃ m, k = m + 1 := ⟨k - 1, by omega⟩
    have ew : wrap64 ((i : Int) + 1) = ((i + 1 : Nat) : Int) := (w64 (by omega) (by omega)).trans (by omega)
    have c1 : (i : Int) < (ids.length : Int) := by omega
    have c2 : 0 ≤ (i : Int) := by omega
    have hd2 := ids_drop ids i (by omega)
    have hle := ixFrom_le (rd ids (i : Int)) l 0
    have h0 : 0 ≤ ixFrom (rd ids (i : Int)) l 0 := by
      have hm : rd ids (i : Int) ∈ ids := by
        have e : rd ids (i : Int) = ids[i] := by simp [rd, show i < ids.length by omega]
        rw [e]; exact List.getElem_mem _
      simpa using List.all_eq_true.mp ha _ hm
    have h1 : ixFrom (rd ids (i : Int)) l 0 < (l.length : Int) := by omega
    simp only [spec_l5All.l0, if_pos c1, if_pos c2, ew, find_eq l _ (show l.length ≤ 140737488351232 by omega) (show l.length < k by omega), Option.bind_some, if_pos h0, if_pos h1]
    rw [hd2, ih k (i + 1) _ _ (by omega) (by omega)]
    rfl
theorem all_eq (l : List S56) (ids : List Int) (hl : l.length ≤ 1048576) (hi : ids.length ≤ 1048576) (ha : allIn l ids = true) {k : Nat} (hk : ids.length + l.length + 1 < k) : spec_l5All.f k l ids = some (orAll (ids.map (mem l)) 0, tripsAll (ids.map (mem l)) 0) := by
  have h := all_loop l ids hl hi ha ids.length k 0 0 0 (by omega) hk
  simpa [spec_l5All.f] using h
theorem team_loop (l : List S56) (ids : List Int) (s : Int) (hl : l.length ≤ 1048576) (hi : ids.length ≤ 1048576) (ha : allIn l ids = true) (d : Nat) : ∀ (k i c : Nat), i + d = ids.length → c ≤ i → d + l.length + 1 < k → spec_l5Team.l0 k l ids s (c : Int) (i : Int) = some (decide (2 ≤ ids.length ∧ ids.length ≤ 5 ∧ Go.bits .and .i64 s 3 = 3 ∧ 2 ≤ c + (able ((ids.drop i).map (mem l))).length)) := by
  induction d with
  | zero =>
    intro k i c hd hc hk
    obtain ⟨k, rfl⟩ : ∃ m, k = m + 1 := ⟨k - 1, by omega⟩
    have c1 : ¬ (i : Int) < (ids.length : Int) := by omega
    simp only [spec_l5Team.l0, if_neg c1, l1In_eq, Option.bind_some]
    rw [List.drop_of_length_le (by omega)]
    have e0 : (able (List.map (mem l) [])).length = 0 := rfl
    rw [e0]
    by_cases h1 : (2 : Int) ≤ (ids.length : Int) ∧ (ids.length : Int) ≤ 5
    · rw [decide_eq_true h1, if_pos rfl]
      by_cases h2 : Go.bits .and .i64 s 3 = 3
      · rw [if_pos h2]
        refine congrArg some (decide_eq_decide.mpr ⟨fun z => ⟨by omega, by omega, h2, by omega⟩, fun z => by have := z.2.2.2; omega⟩)
      · rw [if_neg h2]
        exact congrArg some (decide_eq_false (fun z => h2 z.2.2.1)).symm
    · rw [decide_eq_false h1, if_neg (by simp)]
      exact congrArg some (decide_eq_false (fun z => h1 ⟨by have := z.1; omega, by have := z.2.1; omega⟩)).symm
  | succ d ih =>
    intro k i c hd hc hk
    obtain ⟨k, rfl⟩ : ∃ m, k = m + 1 := ⟨k - 1, by omega⟩
    have ew : wrap64 ((i : Int) + 1) = ((i + 1 : Nat) : Int) := (w64 (by omega) (by omega)).trans (by omega)
    have ewc : wrap64 ((c : Int) + 1) = ((c + 1 : Nat) : Int) := (w64 (by omega) (by omega)).trans (by omega)
    have c1 : (i : Int) < (ids.length : Int) := by omega
    have c2 : 0 ≤ (i : Int) := by omega
    have hd2 := ids_drop ids i (by omega)
    have hle := ixFrom_le (rd ids (i : Int)) l 0
    have h0 : 0 ≤ ixFrom (rd ids (i : Int)) l 0 := by
      have hm : rd ids (i : Int) ∈ ids := by
        have e : rd ids (i : Int) = ids[i] := by simp [rd, show i < ids.length by omega]
        rw [e]; exact List.getElem_mem _
      simpa using List.all_eq_true.mp ha _ hm
    have h1 : ixFrom (rd ids (i : Int)) l 0 < (l.length : Int) := by omega
    simp only [spec_l5Team.l0, if_pos c1, if_pos c2, ew, ewc, find_eq l _ (show l.length ≤ 140737488351232 by omega) (show l.length < k by omega), Option.bind_some, if_pos h0, if_pos h1]
    rw [hd2, List.map_cons]
    by_cases h : Go.bits .and .i64 (mem l (rd ids (i : Int))).f2 3 = 0
    · have e : able (mem l (rd ids (i : Int)) :: (ids.drop (i + 1)).map (mem l)) = able ((ids.drop (i + 1)).map (mem l)) := by
        unfold able; rw [List.filter_cons_of_neg (by simpa using h)]
      rw [e]
      have h' : Go.bits .and .i64 (rd_T56 l (ixFrom (rd ids (i : Int)) l 0)).f2 3 = 0 := h
      rw [if_pos h']
      exact ih k (i + 1) c (by omega) (by omega) (by omega)
    · have e : able (mem l (rd ids (i : Int)) :: (ids.drop (i + 1)).map (mem l)) = mem l (rd ids (i : Int)) :: able ((ids.drop (i + 1)).map (mem l)) := by
        unfold able; rw [List.filter_cons_of_pos (by simpa using h)]
      rw [e, List.length_cons]
      have h' : ¬ Go.bits .and .i64 (rd_T56 l (ixFrom (rd ids (i : Int)) l 0)).f2 3 = 0 := h
      rw [if_neg h', ih k (i + 1) (c + 1) (by omega) (by omega) (by omega)]
      refine congrArg some (decide_eq_decide.mpr ?_)
      have : c + 1 + (able ((ids.drop (i + 1)).map (mem l))).length = c + ((able ((ids.drop (i + 1)).map (mem l))).length + 1) := by omega
      rw [this]
/-- Whether people make a team. -/
def teamP (M : List S56) : Bool := decide (2 ≤ M.length ∧ M.length ≤ 5 ∧ Go.bits .and .i64 (orAll M 0) 3 = 3 ∧ 2 ≤ (able M).length)
theorem team_eq (l : List S56) (ids : List Int) (hl : l.length ≤ 1048576) (hi : ids.length ≤ 1048576) (ha : allIn l ids = true) {k : Nat} (hk : ids.length + l.length + 1 < k) : spec_l5Team.f k l ids = some (teamP (ids.map (mem l))) := by
  unfold spec_l5Team.f
  rw [all_eq l ids hl hi ha hk]
  simp only [Option.bind_some]
  have h := team_loop l ids (orAll (ids.map (mem l)) 0) hl hi ha ids.length k 0 0 (by omega) (by omega) hk
  rw [List.drop_zero] at h
  refine Eq.trans h ?_
  unfold teamP
  rw [List.length_map, Nat.zero_add]
/-- One who keeps the book, another who holds the tape. -/
def pairOf (x y : S56) : Prop := x.f0 ≠ y.f0 ∧ ¬ Go.bits .and .i64 x.f2 1 = 0 ∧ ¬ Go.bits .and .i64 y.f2 2 = 0
instance (x y : S56) : Decidable (pairOf x y) := by unfold pairOf; infer_instance
theorem mate_loop (M : List S56) (hM : M.length ≤ 1048576) (i : Nat) (hi : i < M.length) (d : Nat) : ∀ (k j : Nat), j + d = M.length → d < k →
    ((∃ y ∈ M.drop j, pairOf (rd_T56 M (i : Int)) y) → impl_areTeam.l1 k M M (M.length : Int) (i : Int) M (M.length : Int) (j : Int) (rd_T56 M (i : Int)).f0 (rd_T56 M (i : Int)).f1 (rd_T56 M (i : Int)).f2 (rd_T56 M (i : Int)).f3 = some true) ∧
    (¬ (∃ y ∈ M.drop j, pairOf (rd_T56 M (i : Int)) y) → impl_areTeam.l1 k M M (M.length : Int) (i : Int) M (M.length : Int) (j : Int) (rd_T56 M (i : Int)).f0 (rd_T56 M (i : Int)).f1 (rd_T56 M (i : Int)).f2 (rd_T56 M (i : Int)).f3 = impl_areTeam.l0 (k - d - 1) M M (M.length : Int) ((i + 1 : Nat) : Int)) := by
  induction d with
  | zero =>
    intro k j hj hk
    obtain ⟨k, rfl⟩ : ∃ m, k = m + 1 := ⟨k - 1, by omega⟩
    have c1 : ¬ (j : Int) < (M.length : Int) := by omega
    have ew : wrap64 ((i : Int) + 1) = ((i + 1 : Nat) : Int) := (w64 (by omega) (by omega)).trans (by omega)
    rw [List.drop_of_length_le (by omega)]
    refine ⟨fun ⟨y, hy, _⟩ => by simp at hy, fun _ => ?_⟩
    simp only [impl_areTeam.l1, if_neg c1, ew]
    rfl
  | succ d ih =>
    intro k j hj hk
    obtain ⟨k, rfl⟩ : ∃ m, k = m + 1 := ⟨k - 1, by omega⟩
    have c1 : (j : Int) < (M.length : Int) := by omega
    have c2 : 0 ≤ (j : Int) := by omega
    have ew : wrap64 ((j : Int) + 1) = ((j + 1 : Nat) : Int) := (w64 (by omega) (by omega)).trans (by omega)
    have e2 : k + 1 - (d + 1) - 1 = k - d - 1 := by omega
    rw [e2]
    have ih := ih k (j + 1) (by omega) (by omega)
    have hex : (∃ y ∈ M.drop j, pairOf (rd_T56 M (i : Int)) y) ↔ (pairOf (rd_T56 M (i : Int)) (rd_T56 M (j : Int)) ∨ ∃ y ∈ M.drop (j + 1), pairOf (rd_T56 M (i : Int)) y) := by
      rw [rd_T56_drop M j (by omega)]
      simp only [List.mem_cons, exists_eq_or_imp]
    simp only [impl_areTeam.l1, if_pos c1, if_pos c2, ew]
    rw [hex]
    by_cases h1 : (rd_T56 M (i : Int)).f0 = (rd_T56 M (j : Int)).f0
    · have hn : ¬ pairOf (rd_T56 M (i : Int)) (rd_T56 M (j : Int)) := fun z => z.1 h1
      simp only [if_pos h1, hn, false_or]
      exact ih
    simp only [if_neg h1]
    by_cases h2 : Go.bits .and .i64 (rd_T56 M (i : Int)).f2 1 = 0
    · have hn : ¬ pairOf (rd_T56 M (i : Int)) (rd_T56 M (j : Int)) := fun z => z.2.1 h2
      simp only [if_pos h2, hn, false_or]
      exact ih
    simp only [if_neg h2]
    by_cases h3 : Go.bits .and .i64 (rd_T56 M (j : Int)).f2 2 = 0
    · have hn : ¬ pairOf (rd_T56 M (i : Int)) (rd_T56 M (j : Int)) := fun z => z.2.2 h3
      simp only [if_pos h3, hn, false_or]
      exact ih
    simp only [if_neg h3]
    have hp : pairOf (rd_T56 M (i : Int)) (rd_T56 M (j : Int)) := ⟨h1, h2, h3⟩
    exact ⟨fun _ => trivial, fun z => absurd (Or.inl hp) z⟩
theorem mates_loop (M : List S56) (hM : M.length ≤ 1048576) (d : Nat) : ∀ (k i : Nat), i + d = M.length → d * (M.length + 2) < k →
    ((∃ x ∈ M.drop i, ∃ y ∈ M, pairOf x y) → impl_areTeam.l0 k M M (M.length : Int) (i : Int) = some true) ∧ (¬ (∃ x ∈ M.drop i, ∃ y ∈ M, pairOf x y) → impl_areTeam.l0 k M M (M.length : Int) (i : Int) = some false) := by
  induction d with
  | zero =>
    intro k i hj hk
    obtain ⟨k, rfl⟩ : ∃ m, k = m + 1 := ⟨k - 1, by omega⟩
    have c1 : ¬ (i : Int) < (M.length : Int) := by omega
    rw [List.drop_of_length_le (by omega)]
    refine ⟨fun ⟨y, hy, _⟩ => by simp at hy, fun _ => ?_⟩
    simp only [impl_areTeam.l0, if_neg c1]
  | succ d ih =>
    intro k i hj hk
    rw [Nat.succ_mul] at hk
    obtain ⟨k, rfl⟩ : ∃ m, k = m + 1 := ⟨k - 1, by omega⟩
    have c1 : (i : Int) < (M.length : Int) := by omega
    have c2 : 0 ≤ (i : Int) := by omega
    have hex : (∃ x ∈ M.drop i, ∃ y ∈ M, pairOf x y) ↔ ((∃ y ∈ M, pairOf (rd_T56 M (i : Int)) y) ∨ ∃ x ∈ M.drop (i + 1), ∃ y ∈ M, pairOf x y) := by
      rw [rd_T56_drop M i (by omega)]
      simp only [List.mem_cons, exists_eq_or_imp]
    obtain ⟨q1, q2⟩ := mate_loop M hM i (by omega) M.length k 0 (by omega) (by omega)
    rw [List.drop_zero] at q1 q2
    simp only [impl_areTeam.l0, if_pos c1, if_pos c2]
    rw [hex]
    by_cases h : ∃ y ∈ M, pairOf (rd_T56 M (i : Int)) y
    · refine ⟨fun _ => q1 h, fun z => absurd (Or.inl h) z⟩
    · have h2 := q2 h
      have h2' : impl_areTeam.l1 k M M (M.length : Int) (i : Int) M (M.length : Int) 0 (rd_T56 M (i : Int)).f0 (rd_T56 M (i : Int)).f1 (rd_T56 M (i : Int)).f2 (rd_T56 M (i : Int)).f3 = impl_areTeam.l0 (k - M.length - 1) M M (M.length : Int) ((i + 1 : Nat) : Int) := h2
      rw [h2']
      obtain ⟨r1, r2⟩ := ih (k - M.length - 1) (i + 1) (by omega) (by omega)
      exact ⟨fun z => r1 (z.resolve_left h), fun z => r2 (fun w => z (Or.inr w))⟩
theorem areTeam_eq (M : List S56) (hM : M.length ≤ 1048576) {k : Nat} (hk : M.length * (M.length + 2) < k) : impl_areTeam.f k M = some (decide ((2 ≤ M.length ∧ M.length ≤ 5) ∧ ∃ x ∈ M, ∃ y ∈ M, pairOf x y)) := by
  unfold impl_areTeam.f
  rw [within_eq]
  simp only [Option.bind_some]
  by_cases h : (2 : Int) ≤ (M.length : Int) ∧ (M.length : Int) ≤ 5
  · rw [decide_eq_true h, if_pos rfl]
    obtain ⟨r1, r2⟩ := mates_loop M hM M.length k 0 (by omega) hk
    rw [List.drop_zero] at r1 r2
    by_cases q : ∃ x ∈ M, ∃ y ∈ M, pairOf x y
    · refine Eq.trans (r1 q) (congrArg some (decide_eq_true ⟨⟨by omega, by omega⟩, q⟩).symm)
    · refine Eq.trans (r2 q) (congrArg some (decide_eq_false (fun z => q z.2)).symm)
  · rw [decide_eq_false h, if_neg (by simp)]
    exact congrArg some (decide_eq_false (fun z => h ⟨by omega, by omega⟩)).symm
def skillsOk (M : List S56) : Prop := ∀ x ∈ M, 0 ≤ x.f2 ∧ x.f2 ≤ 15
theorem orAll_ok : ∀ (M : List S56) (s : Int), skillsOk M → 0 ≤ s → s ≤ 15 → 0 ≤ orAll M s ∧ orAll M s ≤ 15 ∧ (orAll M s % 2 = 0 ↔ s % 2 = 0 ∧ ∀ x ∈ M, x.f2 % 2 = 0) ∧ (orAll M s / 2 % 2 = 0 ↔ s / 2 % 2 = 0 ∧ ∀ x ∈ M, x.f2 / 2 % 2 = 0) := by
  intro M
  induction M with
  | nil => intro s h h0 h1; simp [orAll, h0, h1]
  | cons x r ih =>
    intro s h h0 h1
    have hx := h x (List.mem_cons_self ..)
    obtain ⟨b0, b1, b2, b3⟩ := bitOr s x.f2 h0 h1 hx.1 hx.2
    obtain ⟨i0, i1, i2, i3⟩ := ih (Go.bits .or .i64 s x.f2) (fun y hy => h y (List.mem_cons_of_mem _ hy)) b0 b1
    simp only [orAll, List.mem_cons, forall_eq_or_imp]
    refine ⟨i0, i1, i2.trans ?_, i3.trans ?_⟩
    · rw [b2, and_assoc]
    · rw [b3, and_assoc]
theorem team_iff (M : List S56) (hs : skillsOk M) (hp : M.Pairwise (fun x y => x.f0 ≠ y.f0)) (hu : ∀ x ∈ M, ∀ y ∈ M, x.f0 = y.f0 → x = y) : (Go.bits .and .i64 (orAll M 0) 3 = 3 ∧ 2 ≤ (able M).length) ↔ ∃ x ∈ M, ∃ y ∈ M, pairOf x y := by
  obtain ⟨o0, o1, o2, o3⟩ := orAll_ok M 0 hs (by omega) (by omega)
  rw [bit3 _ o0 o1]
  have hab : ∀ x, x ∈ able M ↔ x ∈ M ∧ ¬ x.f2 % 4 = 0 := by
    intro x
    unfold able
    rw [List.mem_filter]
    refine and_congr_right fun hx => ?_
    rw [decide_eq_true_eq, bit3 _ (hs x hx).1 (hs x hx).2]
  have hpa : (able M).Pairwise (fun x y => x.f0 ≠ y.f0) := hp.filter _
  constructor
  · rintro ⟨h3, h2⟩
    have n1 : ¬ orAll M 0 % 2 = 0 := by omega
    have n2 : ¬ orAll M 0 / 2 % 2 = 0 := by omega
    rw [o2] at n1
    rw [o3] at n2
    have n1 : ∃ x ∈ M, ¬ x.f2 % 2 = 0 := by
      refine Classical.byContradiction fun z => n1 ⟨rfl, fun x hx => Classical.byContradiction fun q => z ⟨x, hx, q⟩⟩
    have n2 : ∃ x ∈ M, ¬ x.f2 / 2 % 2 = 0 := by
      refine Classical.byContradiction fun z => n2 ⟨rfl, fun x hx => Classical.byContradiction fun q => z ⟨x, hx, q⟩⟩
    obtain ⟨x, hx, bx⟩ := n1
    obtain ⟨y, hy, ty⟩ := n2
    have mk : ∀ a b, a ∈ M → b ∈ M → a.f0 ≠ b.f0 → ¬ a.f2 % 2 = 0 → ¬ b.f2 / 2 % 2 = 0 → ∃ x ∈ M, ∃ y ∈ M, pairOf x y := by
      intro a b ha hb hne h1 h2
      refine ⟨a, ha, b, hb, hne, ?_, ?_⟩
      · rw [bit1 _ (hs a ha).1 (hs a ha).2]; exact h1
      · rw [bit2 _ (hs b hb).1 (hs b hb).2]; omega
    by_cases hxy : x.f0 = y.f0
    · have e := hu x hx y hy hxy
      subst e
      obtain ⟨z, hz, hzx⟩ : ∃ z ∈ able M, z.f0 ≠ x.f0 := by
        match hE : able M with
        | [] => rw [hE] at h2; simp at h2
        | [a] => rw [hE] at h2; simp at h2
        | a :: b :: r =>
          rw [hE] at hpa
          have hne : a.f0 ≠ b.f0 := (List.pairwise_cons.mp hpa).1 b (List.mem_cons_self ..)
          by_cases q : a.f0 = x.f0
          · exact ⟨b, List.mem_cons_of_mem _ (List.mem_cons_self ..), fun w => hne (by omega)⟩
          · exact ⟨a, List.mem_cons_self .., q⟩
      obtain ⟨hzM, hz4⟩ := (hab z).mp hz
      by_cases hb : z.f2 % 2 = 0
      · exact mk x z hx hzM (fun w => hzx w.symm) bx (by omega)
      · exact mk z x hzM hx hzx hb ty
    · exact mk x y hx hy hxy bx ty
  · rintro ⟨x, hx, y, hy, hne, h1, h2⟩
    rw [bit1 _ (hs x hx).1 (hs x hx).2] at h1
    rw [bit2 _ (hs y hy).1 (hs y hy).2] at h2
    have n1 : ¬ orAll M 0 % 2 = 0 := fun z => h1 ((o2.mp z).2 x hx)
    have n2 : ¬ orAll M 0 / 2 % 2 = 0 := fun z => by have := (o3.mp z).2 y hy; omega
    refine ⟨by omega, ?_⟩
    have ax := (hab x).mpr ⟨hx, by omega⟩
    have ay := (hab y).mpr ⟨hy, by omega⟩
    match hE : able M with
    | [] => rw [hE] at ax; cases ax
    | [a] =>
      rw [hE] at ax ay
      rw [List.mem_singleton] at ax ay
      rw [ax, ay] at hne
      exact absurd rfl hne
    | a :: b :: r => simp

theorem mem_in (l : List S56) (id : Int) (h : 0 ≤ ixFrom id l 0) : mem l id ∈ l ∧ (mem l id).f0 = id := by
  have hle := ixFrom_le id l 0
  have hlt : (ixFrom id l 0).toNat < l.length := by omega
  have e : mem l id = l[(ixFrom id l 0).toNat] := by simp [mem, rd_T56, hlt]
  obtain ⟨_, h2⟩ := ixFrom_f0 id l 0 h
  refine ⟨by rw [e]; exact List.getElem_mem _, ?_⟩
  rw [show ixFrom id l 0 - ((0 : Nat) : Int) = ixFrom id l 0 by omega] at h2
  exact h2
theorem good_skills (l : List S56) (h : goodP l = true) : skillsOk l := by
  intro x hx
  obtain ⟨i, hi, rfl⟩ := List.getElem_of_mem hx
  have := ((goodB_true l 0).mp h).1 i (Nat.zero_le _) hi
  have e : rd_T56 l (i : Int) = l[i] := by simp [rd_T56, hi]
  have h3 := this.2.2.1
  rw [e] at h3
  exact h3

theorem skills_loop (M : List S56) (hM : M.length ≤ 1048576) (d : Nat) : ∀ (k i : Nat) (s t : Int), i + d = M.length → d < k → impl_skills.l0 k s t M (M.length : Int) (i : Int) = some (orAll (M.drop i) s, tripsAll (M.drop i) t) := by
  induction d with
  | zero =>
    intro k i s t hd hk
    obtain ⟨k, rfl⟩ : ∃ m, k = m + 1 := ⟨k - 1, by omega⟩
    have c1 : ¬ (i : Int) < (M.length : Int) := by omega
    simp only [impl_skills.l0, if_neg c1]
    rw [List.drop_of_length_le (by omega)]
    rfl
  | succ d ih =>
    intro k i s t hd hk
    obtain ⟨k, rfl⟩ : ∃ m, k = m + 1 := ⟨k - 1, by omega⟩
    have ew : wrap64 ((i : Int) + 1) = ((i + 1 : Nat) : Int) := (w64 (by omega) (by omega)).trans (by omega)
    have c1 : (i : Int) < (M.length : Int) := by omega
    have c2 : 0 ≤ (i : Int) := by omega
    simp only [impl_skills.l0, if_pos c1, if_pos c2, ew]
    rw [rd_T56_drop M i (by omega), ih k (i + 1) _ _ (by omega) (by omega)]
    rfl
theorem skills_sum (M : List S56) (hM : M.length ≤ 1048576) {k : Nat} (hk : M.length < k) : impl_skills.f k M = some (orAll M 0, tripsAll M 0) :=
  skills_loop M hM M.length k 0 0 0 (by omega) hk

namespace Sp
variable {α : Type}
/-- Those of a list whose bit is set. -/
def subAt : List α → Nat → List α
  | [], _ => []
  | x :: xs, s => if s % 2 = 1 then x :: subAt xs (s / 2) else subAt xs (s / 2)
theorem subAt_sub : ∀ (l : List α) (s : Nat), (subAt l s).Sublist l
  | [], _ => List.Sublist.refl _
  | x :: xs, s => by
    simp only [subAt]
    split
    · exact (subAt_sub xs (s / 2)).cons_cons x
    · exact (subAt_sub xs (s / 2)).cons x
theorem and_mod2 (s t : Nat) : (s &&& t) % 2 = (s % 2) &&& (t % 2) := by
  have := Nat.and_mod_two_pow (a := s) (b := t) (n := 1)
  simpa using this
theorem and_bits (s t : Nat) (h : s &&& t = s) : s % 2 ≤ t % 2 ∧ (s / 2) &&& (t / 2) = s / 2 ∧ s ≤ t ∧ s / 2 ≤ t / 2 := by
  have h2 : (s / 2) &&& (t / 2) = s / 2 := by rw [← Nat.and_div_two, h]
  have h3 : s ≤ t := by have := Nat.and_le_right (n := s) (m := t); rw [h] at this; exact this
  refine ⟨?_, h2, h3, by omega⟩
  have := and_mod2 s t
  rw [h] at this
  rcases Nat.mod_two_eq_zero_or_one s with a | a <;> rcases Nat.mod_two_eq_zero_or_one t with b | b <;> simp_all
theorem subAt_and : ∀ (l : List α) (s t : Nat), s &&& t = s → (subAt l s).Sublist (subAt l t)
  | [], _, _, _ => List.Sublist.refl _
  | x :: xs, s, t, h => by
    obtain ⟨h1, h2, _, _⟩ := and_bits s t h
    have ih := subAt_and xs (s / 2) (t / 2) h2
    simp only [subAt]
    by_cases a : s % 2 = 1
    · rw [if_pos a, if_pos (by omega)]; exact ih.cons_cons x
    · rw [if_neg a]
      split
      · exact ih.cons x
      · exact ih
theorem and_mk (s t : Nat) (h1 : s % 2 ≤ t % 2) (h2 : (s / 2) &&& (t / 2) = s / 2) : s &&& t = s := by
  have a : (s &&& t) / 2 = s / 2 := by rw [Nat.and_div_two, h2]
  have b : (s &&& t) % 2 = s % 2 := by
    rw [and_mod2]
    rcases Nat.mod_two_eq_zero_or_one s with a | a <;> rcases Nat.mod_two_eq_zero_or_one t with b | b <;> simp_all
  omega
theorem subAt_of : ∀ (l : List α) (t : Nat) (M : List α), M.Sublist (subAt l t) → ∃ s, s &&& t = s ∧ s < 2 ^ l.length ∧ subAt l s = M
  | [], t, M, h => ⟨0, by simp, by simp, by have := List.sublist_nil.mp h; subst this; rfl⟩
  | x :: xs, t, M, h => by
    simp only [subAt] at h
    have key : ∀ M', M'.Sublist (subAt xs (t / 2)) → ∃ s, s &&& t = s ∧ s % 2 = 0 ∧ s < 2 ^ (xs.length + 1) ∧ subAt xs (s / 2) = M' := by
      intro M' h'
      obtain ⟨s, h1, h2, h3⟩ := subAt_of xs (t / 2) M' h'
      refine ⟨2 * s, and_mk _ _ (by omega) (by rw [Nat.mul_div_cancel_left s (by omega)]; exact h1), by omega, by rw [Nat.pow_succ]; omega, by rw [Nat.mul_div_cancel_left s (by omega)]; exact h3⟩
    by_cases a : t % 2 = 1
    · rw [if_pos a] at h
      cases h with
      | cons _ h =>
        obtain ⟨s, h1, h2, h3, h4⟩ := key _ h
        exact ⟨s, h1, h3, by simp only [subAt]; rw [if_neg (by omega)]; exact h4⟩
      | cons_cons _ h =>
        obtain ⟨s, h1, h2, h3⟩ := subAt_of xs (t / 2) _ h
        refine ⟨2 * s + 1, and_mk _ _ (by omega) ?_, by rw [List.length_cons, Nat.pow_succ]; omega, ?_⟩
        · rw [show (2 * s + 1) / 2 = s by omega]; exact h1
        · simp only [subAt]; rw [if_pos (by omega), show (2 * s + 1) / 2 = s by omega, h3]
    · rw [if_neg a] at h
      obtain ⟨s, h1, h2, h3, h4⟩ := key _ h
      exact ⟨s, h1, h3, by simp only [subAt]; rw [if_neg (by omega)]; exact h4⟩
theorem subAt_full : ∀ (l : List α), subAt l (2 ^ l.length - 1) = l
  | [] => rfl
  | x :: xs => by
    have : 0 < 2 ^ xs.length := Nat.two_pow_pos _
    have e : (2 ^ (x :: xs).length - 1) = 2 * (2 ^ xs.length - 1) + 1 := by rw [List.length_cons, Nat.pow_succ]; omega
    simp only [subAt]
    rw [e, if_pos (by omega), show (2 * (2 ^ xs.length - 1) + 1) / 2 = 2 ^ xs.length - 1 by omega, subAt_full xs]
theorem and_full : ∀ (n s : Nat), s < 2 ^ n → s &&& (2 ^ n - 1) = s := by
  intro n s h
  rw [Nat.and_two_pow_sub_one_eq_mod, Nat.mod_eq_of_lt h]
theorem subAt_inj : ∀ (l : List α) (s t : Nat), l.Nodup → s < 2 ^ l.length → t < 2 ^ l.length → subAt l s = subAt l t → s = t
  | [], s, t, _, h, g, _ => by simp at h g; omega
  | x :: xs, s, t, hn, h, g, e => by
    have hn' := List.nodup_cons.mp hn
    rw [List.length_cons, Nat.pow_succ] at h g
    have no : ∀ q, x ∉ subAt xs q := fun q hq => hn'.1 ((subAt_sub xs q).subset hq)
    simp only [subAt] at e
    by_cases a : s % 2 = 1 <;> by_cases b : t % 2 = 1
    · rw [if_pos a, if_pos b] at e
      have := subAt_inj xs (s / 2) (t / 2) hn'.2 (by omega) (by omega) (List.cons.inj e).2
      omega
    · rw [if_pos a, if_neg b] at e
      exact absurd (e ▸ List.mem_cons_self ..) (no (t / 2))
    · rw [if_neg a, if_pos b] at e
      exact absurd (e.symm ▸ List.mem_cons_self ..) (no (s / 2))
    · rw [if_neg a, if_neg b] at e
      have := subAt_inj xs (s / 2) (t / 2) hn'.2 (by omega) (by omega) e
      omega
theorem subAt_pos {x : α} {xs : List α} {s : Nat} (h : s % 2 = 1) : subAt (x :: xs) s = x :: subAt xs (s / 2) := by simp only [subAt]; rw [if_pos h]
theorem subAt_neg {x : α} {xs : List α} {s : Nat} (h : ¬ s % 2 = 1) : subAt (x :: xs) s = subAt xs (s / 2) := by simp only [subAt]; rw [if_neg h]
/-- The others. -/
theorem subAt_others [DecidableEq α] : ∀ (l : List α) (s t : Nat) (M : List α), M = subAt l s → l.Nodup → s &&& t = s → (subAt l t).filter (fun p => !(decide (p ∈ M))) = subAt l (t - s)
  | [], _, _, _, _, _, _ => rfl
  | x :: xs, s, t, M, hM, hn, h => by
    obtain ⟨h1, h2, h3, h4⟩ := and_bits s t h
    have hn' := List.nodup_cons.mp hn
    have no : ∀ q, x ∉ subAt xs q := fun q hq => hn'.1 ((subAt_sub xs q).subset hq)
    have ih := subAt_others xs (s / 2) (t / 2) (subAt xs (s / 2)) rfl hn'.2 h2
    have d : (t - s) / 2 = t / 2 - s / 2 := by omega
    have cong : (∀ p, p ≠ x → (p ∈ M ↔ p ∈ subAt xs (s / 2))) → (subAt xs (t / 2)).filter (fun p => !(decide (p ∈ M))) = subAt xs (t / 2 - s / 2) := by
      intro hS
      rw [← ih]
      refine List.filter_congr ?_
      intro p hp
      have : p ≠ x := fun e => no (t / 2) (e ▸ hp)
      simp only [hS p this]
    by_cases a : s % 2 = 1
    · have b : t % 2 = 1 := by omega
      rw [subAt_pos a] at hM
      rw [subAt_pos b, subAt_neg (by omega), d, List.filter_cons_of_neg (by simp [hM])]
      exact cong (fun p hp => by simp [hM, hp])
    · rw [subAt_neg a] at hM
      by_cases b : t % 2 = 1
      · rw [subAt_pos b, subAt_pos (by omega), d, List.filter_cons_of_pos (by rw [hM]; simpa using no (s / 2)), cong (fun p hp => by rw [hM])]
      · rw [subAt_neg b, subAt_neg (by omega), d, cong (fun p hp => by rw [hM])]
end Sp

theorem rdP (l : List S56) (i : Nat) (h : i < l.length) : rd_T56 l (i : Int) = l[i] := by simp [rd_T56, h]
theorem good_ok (l : List S56) (h : goodP l = true) : goodFrom l 0 := (goodB_true l 0).mp h
theorem good_lt (l : List S56) (h : goodP l = true) : ∀ (d i : Nat) (hd : i + d + 1 < l.length), (l[i]'(by omega)).f0 < (l[i + d + 1]'hd).f0
  | 0, i, hd => by
    obtain ⟨_, _, _, _, h5, _⟩ := (good_ok l h).1 (i + 1) (Nat.zero_le _) hd
    have h5 := h5 (by omega)
    rw [show i + 1 - 1 = i by omega, rdP l i (by omega), rdP l (i + 1) hd] at h5
    exact h5
  | d + 1, i, hd => by
    have a := good_lt l h d i (by omega)
    obtain ⟨_, _, _, _, h5, _⟩ := (good_ok l h).1 (i + d + 2) (Nat.zero_le _) hd
    have h5 := h5 (by omega)
    rw [show i + d + 2 - 1 = i + d + 1 by omega, rdP l (i + d + 1) (by omega), rdP l (i + d + 2) hd] at h5
    have e : l[i + (d + 1) + 1]'hd = l[i + d + 2]'hd := rfl
    rw [e]
    omega
theorem good_len (l : List S56) (h : goodP l = true) : l.length ≤ 10 := (good_ok l h).2
theorem good_ids (l : List S56) (h : goodP l = true) : (idsL l).Nodup := by
  unfold idsL List.Nodup
  rw [List.pairwise_map, List.pairwise_iff_getElem]
  intro i j hi hj hij
  have := good_lt l h (j - i - 1) i (by omega)
  have e : i + (j - i - 1) + 1 = j := by omega
  simp only [e] at this
  omega
theorem ids_inj (l : List S56) (h : (idsL l).Nodup) (x y : S56) (hx : x ∈ l) (hy : y ∈ l) (e : x.f0 = y.f0) : x = y := by
  obtain ⟨i, hi, rfl⟩ := List.getElem_of_mem hx
  obtain ⟨j, hj, rfl⟩ := List.getElem_of_mem hy
  have i1 := h.idxOf_getElem i (by unfold idsL; simpa using hi)
  have i2 := h.idxOf_getElem j (by unfold idsL; simpa using hj)
  have e2 : (idsL l)[i]'(by unfold idsL; simpa using hi) = (idsL l)[j]'(by unfold idsL; simpa using hj) := by unfold idsL; simpa using e
  rw [e2] at i1
  have : i = j := i1.symm.trans i2
  subst this; rfl
theorem ids_nodup (l : List S56) (h : (idsL l).Nodup) : l.Nodup := by
  unfold idsL List.Nodup at h
  rw [List.pairwise_map] at h
  exact h.imp (fun {a b} hab e => hab (by rw [e]))
theorem ix_mem (id : Int) : ∀ (l : List S56) (i : Nat), (∃ x ∈ l, x.f0 = id) → 0 ≤ ixFrom id l i
  | [], i, h => by obtain ⟨x, hx, _⟩ := h; cases hx
  | y :: r, i, h => by
    simp only [ixFrom]
    by_cases c : y.f0 = id
    · rw [if_pos c]; omega
    · rw [if_neg c]
      refine ix_mem id r (i + 1) ?_
      obtain ⟨x, hx, e⟩ := h
      rcases List.mem_cons.mp hx with hx | hx
      · exact absurd (hx ▸ e) c
      · exact ⟨x, hx, e⟩
theorem mem_self (l : List S56) (h : (idsL l).Nodup) (x : S56) (hx : x ∈ l) : mem l x.f0 = x := by
  obtain ⟨a, b⟩ := mem_in l x.f0 (ix_mem x.f0 l 0 ⟨x, hx, rfl⟩)
  exact ids_inj l h _ _ a hx b
theorem ids_back (l M : List S56) (h : (idsL l).Nodup) (hM : M.Sublist l) : (idsL M).map (mem l) = M ∧ allIn l (idsL M) = true := by
  have hs := hM.subset
  constructor
  · unfold idsL
    rw [List.map_map]
    conv => rhs; rw [← List.map_id M]
    refine List.map_congr_left ?_
    intro x hx
    exact mem_self l h x (hs hx)
  · unfold allIn idsL
    rw [List.all_map, List.all_eq_true]
    intro x hx
    exact decide_eq_true (ix_mem x.f0 l 0 ⟨x, hs hx, rfl⟩)
theorem subAt_ids : ∀ (l : List S56) (s : Nat), idsL (Sp.subAt l s) = Sp.subAt (idsL l) s
  | [], _ => rfl
  | x :: xs, s => by
    show (Sp.subAt (x :: xs) s).map (·.f0) = Sp.subAt (x.f0 :: xs.map (·.f0)) s
    have ih : (Sp.subAt xs (s / 2)).map (·.f0) = Sp.subAt (xs.map (·.f0)) (s / 2) := subAt_ids xs (s / 2)
    simp only [Sp.subAt]
    split
    · rw [List.map_cons, ih]
    · exact ih
theorem sub_len (l : List S56) (s : Nat) : (Sp.subAt l s).length ≤ l.length := (Sp.subAt_sub l s).length_le
theorem and_one (x : Nat) (h : x < 1024) : Go.bits .and .i64 (x : Int) 1 = ((x % 2 : Nat) : Int) := by
  have : ∀ n : Fin 1024, Go.bits .and .i64 (n.val : Int) 1 = ((n.val % 2 : Nat) : Int) := by decide +kernel
  exact this ⟨x, h⟩
theorem bit_at (s i : Nat) (hs : s < 1024) (hi : i ≤ 64) : ((Go.bits .and .i64 (shr .i64 (s : Int) (i : Int)) 1) = 1) = (s / 2 ^ i % 2 = 1) := by
  have h1 : shr .i64 (s : Int) (i : Int) = ((s / 2 ^ i : Nat) : Int) := by
    have := (shr_small (k := .i64) (x := (s : Int)) (y := (i : Int)) rfl (by show (i : Int) ≤ ((64 : Nat) : Int); omega)).symm
    rw [this, Int.toNat_natCast]
    simp
  have h2 : s / 2 ^ i < 1024 := Nat.lt_of_le_of_lt (Nat.div_le_self _ _) hs
  rw [h1, and_one _ h2, eq_iff_iff]
  omega
theorem pow_at (n : Nat) (h : n ≤ 10) : shl .i64 1 (n : Int) = ((2 ^ n : Nat) : Int) := by
  have : ∀ m : Fin 11, shl .i64 1 ((m.val : Nat) : Int) = ((2 ^ m.val : Nat) : Int) := by decide +kernel
  exact this ⟨n, by omega⟩
theorem u64_at (n : Nat) (h : n ≤ 1000) : IntKind.u64.wrap (n : Int) = (n : Int) := by simp [IntKind.wrap, IntKind.bits, IntKind.signed]; omega
theorem pow_le {n : Nat} (h : n ≤ 10) : 2 ^ n ≤ 1024 := Nat.pow_le_pow_right (by decide) h
theorem div_pow (s i : Nat) : s / 2 ^ i / 2 = s / 2 ^ (i + 1) := by rw [Nat.div_div_eq_div_mul, Nat.pow_succ]
def teamB (M : List S56) : Bool := decide ((2 ≤ M.length ∧ M.length ≤ 5) ∧ ∃ x ∈ M, ∃ y ∈ M, pairOf x y)
/-- The reference's and the program's teams are the same. -/
theorem teamP_B (l M : List S56) (h : goodP l = true) (hM : M.Sublist l) : teamP M = teamB M := by
  have hs := hM.subset
  have hn := good_ids l h
  have hk := good_skills l h
  have hsk : skillsOk M := fun x hx => hk x (hs hx)
  have hu : ∀ x ∈ M, ∀ y ∈ M, x.f0 = y.f0 → x = y := fun x hx y hy e => ids_inj l hn x y (hs hx) (hs hy) e
  have hpw : M.Pairwise (fun x y => x.f0 ≠ y.f0) := by
    have : l.Pairwise (fun x y => x.f0 ≠ y.f0) := by
      unfold idsL List.Nodup at hn
      rw [List.pairwise_map] at hn
      exact hn
    exact this.sublist hM
  have hiff := team_iff _ hsk hpw hu
  unfold teamP teamB
  exact decide_eq_decide.mpr ⟨fun z => ⟨⟨z.1, z.2.1⟩, hiff.mp z.2.2⟩, fun z => ⟨z.1.1, z.1.2, (hiff.mpr z.2).1, (hiff.mpr z.2).2⟩⟩
theorem members_loop (l : List S56) (hl : l.length ≤ 10) (s : Nat) (hs : s < 1024) (d : Nat) : ∀ (k i : Nat) (acc : List Int), i + d = l.length → d < k → acc.length ≤ i → spec_l5Members.l0 k l (s : Int) acc (i : Int) = some (acc ++ idsL (Sp.subAt (l.drop i) (s / 2 ^ i))) := by
  induction d with
  | zero =>
    intro k i acc hi hk _
    obtain ⟨k, rfl⟩ : ∃ m, k = m + 1 := ⟨k - 1, by omega⟩
    have c1 : ¬ (i : Int) < (l.length : Int) := by omega
    simp only [spec_l5Members.l0, if_neg c1]
    rw [List.drop_of_length_le (by omega)]
    simp [Sp.subAt, idsL]
  | succ d ih =>
    intro k i acc hi hk ha
    obtain ⟨k, rfl⟩ : ∃ m, k = m + 1 := ⟨k - 1, by omega⟩
    have hil : i < l.length := by omega
    have c1 : (i : Int) < (l.length : Int) := by omega
    have c2 : 0 ≤ (i : Int) := by omega
    have c3 : acc.length < 17592186044416 := by omega
    have ew : wrap64 ((i : Int) + 1) = ((i + 1 : Nat) : Int) := (w64 (by omega) (by omega)).trans (by omega)
    rw [List.drop_eq_getElem_cons hil]
    simp only [spec_l5Members.l0, if_pos c1, u64_at i (by omega), if_pos c2, bit_at s i hs (by omega), if_pos c3, ew, rdP l i hil, Sp.subAt, div_pow]
    by_cases h : s / 2 ^ i % 2 = 1
    · rw [if_pos h, if_pos h, ih k (i + 1) _ (by omega) (by omega) (by simp; omega)]
      simp [idsL]
    · rw [if_neg h, if_neg h, ih k (i + 1) _ (by omega) (by omega) (by omega)]
theorem members_eq (l : List S56) (hl : l.length ≤ 10) (s : Nat) (hs : s < 1024) {k : Nat} (hk : l.length < k) : spec_l5Members.f k l (s : Int) = some (idsL (Sp.subAt l s)) := by
  have := members_loop l hl s hs l.length k 0 [] (by omega) hk (by simp)
  unfold spec_l5Members.f
  simpa using this
theorem in_loop (l : List S56) (hl : l.length ≤ 10) (s : Nat) (hs : s < 1024) (T : List (List S56)) (N : Int) (d : Nat) : ∀ (k i : Nat) (acc : List S56), i + d = l.length → acc.length ≤ i →
    impl_teams_in.l1 (k + d + 1) l T (s : Int) acc N (s : Int) l (l.length : Int) (i : Int) = (impl_areTeam.f k (acc ++ Sp.subAt (l.drop i) (s / 2 ^ i))).bind fun t => if t = true then (if T.length < 5864062014805 then impl_teams_in.l0 k l (T ++ [acc ++ Sp.subAt (l.drop i) (s / 2 ^ i)]) N (wrap64 ((s : Int) + 1)) else none) else impl_teams_in.l0 k l T N (wrap64 ((s : Int) + 1)) := by
  induction d with
  | zero =>
    intro k i acc hi _
    have c1 : ¬ (i : Int) < (l.length : Int) := by omega
    simp only [Nat.add_zero, impl_teams_in.l1, if_neg c1]
    rw [List.drop_of_length_le (by omega)]
    simp [Sp.subAt]
  | succ d ih =>
    intro k i acc hi ha
    have hil : i < l.length := by omega
    have c1 : (i : Int) < (l.length : Int) := by omega
    have c2 : 0 ≤ (i : Int) := by omega
    have c3 : acc.length < 3518437208883 := by omega
    have ew : wrap64 ((i : Int) + 1) = ((i + 1 : Nat) : Int) := (w64 (by omega) (by omega)).trans (by omega)
    have ih1 := ih k (i + 1)
    rw [List.drop_eq_getElem_cons hil, show k + (d + 1) + 1 = (k + d + 1) + 1 by omega]
    generalize k + d + 1 = K at ih1
    simp only [impl_teams_in.l1, if_pos c1, if_pos c2, bit_at s i hs (by omega), if_pos c3, ew, rdP l i hil, Sp.subAt, div_pow]
    by_cases h : s / 2 ^ i % 2 = 1
    · simp only [if_pos h]
      rw [ih1 _ (by omega) (by simp; omega)]
      simp
    · simp only [if_neg h]
      rw [ih1 _ (by omega) (by omega)]
def subsFrom (l : List S56) (s d : Nat) : List (List S56) := (List.range' s d).map (Sp.subAt l)
theorem subsFrom_succ (l : List S56) (s d : Nat) : subsFrom l s (d + 1) = Sp.subAt l s :: subsFrom l (s + 1) d := by unfold subsFrom; rw [List.range'_succ, List.map_cons]
theorem teamsIn_loop (l : List S56) (hl : l.length ≤ 10) (d : Nat) : ∀ (k s : Nat) (acc : List (List S56)), s + d = 2 ^ l.length → d * (l.length + 2) + 200 ≤ k → acc.length ≤ s → impl_teams_in.l0 k l acc ((2 ^ l.length : Nat) : Int) (s : Int) = some (acc ++ (subsFrom l s d).filter teamB) := by
  have hp := pow_le hl
  induction d with
  | zero =>
    intro k s acc hs hk _
    obtain ⟨k, rfl⟩ : ∃ m, k = m + 1 := ⟨k - 1, by omega⟩
    have c1 : ¬ (s : Int) < ((2 ^ l.length : Nat) : Int) := by omega
    simp only [impl_teams_in.l0, if_neg c1]
    simp [subsFrom]
  | succ d ih =>
    intro k s acc hs hk ha
    rw [Nat.succ_mul] at hk
    obtain ⟨k, rfl⟩ : ∃ m, k = (m + l.length + 1) + 1 := ⟨k - (l.length + 2), by omega⟩
    have c1 : (s : Int) < ((2 ^ l.length : Nat) : Int) := by omega
    have c3 : acc.length < 5864062014805 := by omega
    have ew : wrap64 ((s : Int) + 1) = ((s + 1 : Nat) : Int) := (w64 (by omega) (by omega)).trans (by omega)
    have hM := sub_len l s
    have ht : impl_areTeam.f k (Sp.subAt l s) = some (teamB (Sp.subAt l s)) := areTeam_eq _ (by omega) (by
      have : (Sp.subAt l s).length * ((Sp.subAt l s).length + 2) ≤ 10 * 12 := Nat.mul_le_mul (by omega) (by omega)
      omega)
    have e := in_loop l hl s (by omega) acc ((2 ^ l.length : Nat) : Int) l.length k 0 [] (by omega) (by simp)
    simp only [List.drop_zero, List.nil_append, Nat.pow_zero, Nat.div_one, ht, Option.bind_some, ew] at e
    have e' : impl_teams_in.l1 (k + l.length + 1) l acc (s : Int) [] ((2 ^ l.length : Nat) : Int) (s : Int) l (l.length : Int) 0 = _ := e
    simp only [impl_teams_in.l0, if_pos c1]
    rw [e', subsFrom_succ]
    by_cases h : teamB (Sp.subAt l s) = true
    · rw [if_pos h, if_pos c3, ih k (s + 1) _ (by omega) (by omega) (by simp; omega), List.filter_cons_of_pos h, List.append_assoc, List.singleton_append]
    · rw [if_neg h, ih k (s + 1) _ (by omega) (by omega) (by omega), List.filter_cons_of_neg h]
/-- The teams in the order of their bits. -/
def teamsOf (l : List S56) : List (List S56) := (subsFrom l 0 (2 ^ l.length)).filter teamB
theorem teamsIn_eq (l : List S56) (hl : l.length ≤ 10) {k : Nat} (hk : 20000 ≤ k) : impl_teams_in.f k l = some (teamsOf l) := by
  have hp := pow_le hl
  have : 2 ^ l.length * (l.length + 2) ≤ 1024 * 12 := Nat.mul_le_mul hp (by omega)
  have e := teamsIn_loop l hl (2 ^ l.length) k 0 [] (by omega) (by omega) (by simp)
  unfold impl_teams_in.f
  rw [pow_at l.length hl]
  exact e
theorem subs_nodup (l : List S56) (hn : (idsL l).Nodup) : ((subsFrom l 0 (2 ^ l.length)).map idsL).Nodup := by
  unfold subsFrom List.Nodup
  rw [List.map_map, List.pairwise_map, List.pairwise_iff_getElem]
  intro i j hi hj hij
  have hi' : i < 2 ^ l.length := by simpa using hi
  have hj' : j < 2 ^ l.length := by simpa using hj
  simp only [Function.comp, List.getElem_range', Nat.zero_add, Nat.one_mul]
  rw [subAt_ids, subAt_ids]
  intro e
  have hz : (idsL l).length = l.length := by simp [idsL]
  have := Sp.subAt_inj (idsL l) i j hn (by rw [hz]; exact hi') (by rw [hz]; exact hj') e
  omega
theorem teams_sub (l M : List S56) (h : M ∈ teamsOf l) : M.Sublist l ∧ teamB M = true := by
  unfold teamsOf subsFrom at h
  obtain ⟨h1, h2⟩ := List.mem_filter.mp h
  obtain ⟨s, _, rfl⟩ := List.mem_map.mp h1
  exact ⟨Sp.subAt_sub l s, h2⟩
theorem teams_cond (l : List S56) (hl : l.length ≤ 10) (hn : (idsL l).Nodup) : ((teamsOf l).map idsL).Nodup ∧ (∀ M ∈ teamsOf l, M.length ≤ 1000000) ∧ (teamsOf l).length ≤ 1000000 := by
  have hp := pow_le hl
  refine ⟨?_, ?_, ?_⟩
  · exact (subs_nodup l hn).sublist ((List.filter_sublist).map idsL)
  · intro M hM
    have := (teams_sub l M hM).1.length_le
    omega
  · unfold teamsOf
    refine Nat.le_trans (List.length_filter_le _ _) ?_
    unfold subsFrom
    simp; omega
theorem teams_eq (l : List S56) (hl : l.length ≤ 10) (hn : (idsL l).Nodup) {k : Nat} (hk : 20000 ≤ k) : impl_teams.f k l = some (sortT (teamsOf l)) := by
  unfold impl_teams.f
  rw [teamsIn_eq l hl hk]
  simp only [Option.bind_some]
  rw [if_pos (teams_cond l hl hn)]
theorem sortT_perm (S : List (List S56)) : (sortT S).Perm S := List.mergeSort_perm S _
def ableB (M : List S56) : Bool := decide (tripsAll M 0 ≥ 20)

namespace Sp
/-- Whether a list of numbers stands ahead of another one. -/
def lx : List Int → List Int → Bool
  | [], [] => false
  | [], _ :: _ => true
  | _ :: _, [] => false
  | a :: ar, b :: bs => if a = b then lx ar bs else decide (a < b)
theorem lx_irr : ∀ a, lx a a = false
  | [] => rfl
  | a :: ar => by simp [lx, lx_irr ar]
theorem lx_trans : ∀ a b c, lx a b = true → lx b c = true → lx a c = true
  | [], [], _, h, _ => by simp [lx] at h
  | [], _ :: _, [], _, h => by simp [lx] at h
  | [], _ :: _, _ :: _, _, _ => rfl
  | _ :: _, [], _, h, _ => by simp [lx] at h
  | _ :: _, _ :: _, [], _, h => by simp [lx] at h
  | a :: ar, b :: bs, c :: cs, h, g => by
    simp only [lx] at h g ⊢
    by_cases e1 : a = b
    · by_cases e2 : b = c
      · rw [if_pos e1] at h; rw [if_pos e2] at g; rw [if_pos (e1.trans e2)]; exact lx_trans ar bs cs h g
      · rw [if_neg e2] at g; rw [if_neg (by rw [e1]; exact e2), e1]; exact g
    · by_cases e2 : b = c
      · rw [if_neg e1] at h; rw [← e2, if_neg e1]; exact h
      · rw [if_neg e1] at h; rw [if_neg e2] at g
        have h := of_decide_eq_true h; have g := of_decide_eq_true g
        rw [if_neg (by omega)]; exact decide_eq_true (by omega)
theorem lx_asym (a b) (h : lx a b = true) : lx b a = false := by
  cases e : lx b a with
  | false => rfl
  | true => have := lx_trans a b a h e; rw [lx_irr] at this; cases this
theorem lx_total : ∀ a b, lx a b = false → lx b a = false → a = b
  | [], [], _, _ => rfl
  | [], _ :: _, h, _ => by simp [lx] at h
  | _ :: _, [], _, h => by simp [lx] at h
  | a :: ar, b :: bs, h, g => by
    simp only [lx] at h g
    by_cases e : a = b
    · rw [if_pos e] at h; rw [if_pos e.symm] at g; rw [e, lx_total ar bs h g]
    · rw [if_neg e] at h; rw [if_neg (Ne.symm e)] at g
      have h := of_decide_eq_false h; have g := of_decide_eq_false g; omega
/-- Ahead of another: shorter, or ar long and ahead. -/
def ahead (a b : List Int) : Prop := a.length < b.length ∨ (a.length = b.length ∧ lx b a = false)
def stepS (best m : List Int) : List Int := if best.length = 0 ∨ m.length < best.length ∨ (m.length = best.length ∧ lx m best = true) then m else best
def stepF (best m : List Int) : List Int := if best.length = 0 ∨ m.length < best.length then m else best
/-- r is the first of them. -/
def isFirst (S : List (List Int)) (r : List Int) : Prop := r ∈ S ∧ ∀ m ∈ S, ahead r m
theorem ahead_refl (a) : ahead a a := Or.inr ⟨rfl, lx_irr a⟩
theorem ahead_trans {a b c} (h : ahead a b) (g : ahead b c) : ahead a c := by
  unfold ahead at *
  rcases h with h | ⟨h, h'⟩ <;> rcases g with g | ⟨g, g'⟩
  · exact Or.inl (by omega)
  · exact Or.inl (by omega)
  · exact Or.inl (by omega)
  · refine Or.inr ⟨h.trans g, ?_⟩
    cases e : lx c a with
    | false => rfl
    | true =>
      cases e2 : lx b c with
      | true => have := lx_trans _ _ _ e2 e; rw [h'] at this; cases this
      | false => have := lx_total _ _ g' e2; subst this; rw [h'] at e; cases e
theorem isFirst_unique {S r s} (h : isFirst S r) (g : isFirst S s) : r = s := by
  have a := h.2 s g.1; have b := g.2 r h.1
  unfold ahead at a b
  rcases a with a | ⟨a, a'⟩ <;> rcases b with b | ⟨b, b'⟩
  · omega
  · omega
  · omega
  · exact lx_total r s b' a'
theorem stepS_ahead (best m : List Int) (hb : best.length ≠ 0) : (stepS best m = best ∨ stepS best m = m) ∧ ahead (stepS best m) best ∧ ahead (stepS best m) m := by
  unfold stepS
  by_cases c : best.length = 0 ∨ m.length < best.length ∨ (m.length = best.length ∧ lx m best = true)
  · rw [if_pos c]
    refine ⟨Or.inr rfl, ?_, ahead_refl m⟩
    rcases c with c | c | ⟨c, c'⟩
    · exact absurd c hb
    · exact Or.inl c
    · exact Or.inr ⟨c, lx_asym _ _ c'⟩
  · rw [if_neg c]
    refine ⟨Or.inl rfl, ahead_refl _, ?_⟩
    by_cases e : best.length < m.length
    · exact Or.inl e
    · have e2 : m.length = best.length := by omega
      refine Or.inr ⟨e2.symm, ?_⟩
      cases q : lx m best with
      | false => rfl
      | true => exact absurd (Or.inr (Or.inr ⟨e2, q⟩)) c
theorem foldS_first : ∀ (S : List (List Int)) (best : List Int), best.length ≠ 0 → (∀ m ∈ S, m.length ≠ 0) → isFirst (best :: S) (S.foldl stepS best)
  | [], best, _, _ => ⟨by simp, fun m hm => by simp at hm; rw [hm]; exact ahead_refl _⟩
  | m :: S, best, hb, hS => by
    obtain ⟨h1, h2, h3⟩ := stepS_ahead best m hb
    have hm : m.length ≠ 0 := hS m (by simp)
    have hs : (stepS best m).length ≠ 0 := by rcases h1 with h | h <;> rw [h] <;> assumption
    have ih := foldS_first S (stepS best m) hs (fun x hx => hS x (by simp [hx]))
    rw [List.foldl_cons]
    refine ⟨?_, ?_⟩
    · have := ih.1
      rcases List.mem_cons.mp this with h | h
      · rw [h]; rcases h1 with h | h <;> rw [h] <;> simp
      · simp [h]
    · intro x hx
      have h0 := ih.2 (stepS best m) (by simp)
      rcases List.mem_cons.mp hx with rfl | hx
      · exact ahead_trans h0 h2
      rcases List.mem_cons.mp hx with rfl | hx
      · exact ahead_trans h0 h3
      · exact ih.2 x (by simp [hx])
theorem foldS_nil (m : List Int) : stepS [] m = m := by simp [stepS]
theorem foldF_nil (m : List Int) : stepF [] m = m := by simp [stepF]
theorem foldF_first : ∀ (S : List (List Int)) (best : List Int), best.length ≠ 0 → (∀ m ∈ S, m.length ≠ 0) → (best :: S).Pairwise (fun a b => lx b a = false) → isFirst (best :: S) (S.foldl stepF best)
  | [], best, _, _, _ => ⟨by simp, fun m hm => by simp at hm; rw [hm]; exact ahead_refl _⟩
  | m :: S, best, hb, hS, hp => by
    have hm : m.length ≠ 0 := hS m (by simp)
    rw [List.foldl_cons]
    have hp1 := List.pairwise_cons.mp hp
    have hp2 := List.pairwise_cons.mp hp1.2
    by_cases c : m.length < best.length
    · have e : stepF best m = m := by unfold stepF; rw [if_pos (Or.inr c)]
      rw [e]
      have ih := foldF_first S m hm (fun x hx => hS x (by simp [hx])) hp1.2
      refine ⟨List.mem_cons_of_mem _ ih.1, ?_⟩
      intro x hx
      rcases List.mem_cons.mp hx with rfl | hx
      · exact ahead_trans (ih.2 m (by simp)) (Or.inl c)
      · exact ih.2 x hx
    · have e : stepF best m = best := by unfold stepF; rw [if_neg (by intro h; rcases h with h | h; exact hb h; exact c h)]
      rw [e]
      have ih := foldF_first S best hb (fun x hx => hS x (by simp [hx])) (List.pairwise_cons.mpr ⟨fun x hx => hp1.1 x (by simp [hx]), hp2.2⟩)
      have hbm : ahead best m := by
        by_cases q : best.length < m.length
        · exact Or.inl q
        · exact Or.inr ⟨by omega, hp1.1 m (by simp)⟩
      refine ⟨?_, ?_⟩
      · rcases List.mem_cons.mp ih.1 with h | h
        · rw [h]; simp
        · simp [h]
      · intro x hx
        rcases List.mem_cons.mp hx with rfl | hx
        · exact ih.2 _ (by simp)
        rcases List.mem_cons.mp hx with rfl | hx
        · exact ahead_trans (ih.2 best (by simp)) hbm
        · exact ih.2 x (by simp [hx])
/-- The shortest, and of these the first: found among the sorted ar among all. -/
theorem first_eq (S T : List (List Int)) (hp : S.Perm T) (hS : ∀ m ∈ S, m.length ≠ 0) (hT : T.Pairwise (fun a b => lx b a = false)) : S.foldl stepS [] = T.foldl stepF [] := by
  cases S with
  | nil => have := hp.nil_eq; subst this; rfl
  | cons s S =>
    cases T with
    | nil => exact absurd hp.length_eq (by simp)
    | cons t T =>
      rw [List.foldl_cons, List.foldl_cons, foldS_nil, foldF_nil]
      have hT' : ∀ m ∈ t :: T, m.length ≠ 0 := fun m hm => hS m (hp.mem_iff.mpr hm)
      have a := foldS_first S s (hS s (by simp)) (fun m hm => hS m (by simp [hm]))
      have b := foldF_first T t (hT' t (by simp)) (fun m hm => hT' m (by simp [hm])) hT
      refine isFirst_unique a ⟨hp.mem_iff.mpr b.1, fun m hm => b.2 m (hp.mem_iff.mp hm)⟩
/-- The first of all. -/
def stepL {β : Type} (key : β → List Int) (best : Option β) (m : β) : Option β := match best with
  | none => some m
  | some b => if lx (key m) (key b) = true then some m else some b
def isLeast {β : Type} (key : β → List Int) (S : List β) (r : β) : Prop := r ∈ S ∧ ∀ m ∈ S, lx (key m) (key r) = false
theorem lx_ntrans {a b c : List Int} (h : lx b a = false) (g : lx c b = false) : lx c a = false := by
  cases e : lx c a with
  | false => rfl
  | true =>
    cases e2 : lx a b with
    | true => have := lx_trans _ _ _ e e2; rw [g] at this; cases this
    | false => have := lx_total _ _ e2 h; subst this; rw [g] at e; cases e
theorem foldL_least {β : Type} (key : β → List Int) : ∀ (S : List β) (b : β), ∃ r, S.foldl (stepL key) (some b) = some r ∧ isLeast key (b :: S) r
  | [], b => ⟨b, rfl, by simp, fun m hm => by simp at hm; rw [hm]; exact lx_irr _⟩
  | m :: S, b => by
    rw [List.foldl_cons]
    by_cases c : lx (key m) (key b) = true
    · have e : stepL key (some b) m = some m := by simp [stepL, c]
      rw [e]
      obtain ⟨r, h1, h2⟩ := foldL_least key S m
      refine ⟨r, h1, List.mem_cons_of_mem _ h2.1, fun x hx => ?_⟩
      rcases List.mem_cons.mp hx with rfl | hx
      · exact lx_ntrans (h2.2 m (by simp)) (lx_asym _ _ c)
      · exact h2.2 x hx
    · have e : stepL key (some b) m = some b := by simp [stepL, c]
      rw [e]
      obtain ⟨r, h1, h2⟩ := foldL_least key S b
      refine ⟨r, h1, ?_, fun x hx => ?_⟩
      · rcases List.mem_cons.mp h2.1 with h | h
        · rw [h]; simp
        · simp [h]
      · rcases List.mem_cons.mp hx with rfl | hx
        · exact h2.2 _ (by simp)
        rcases List.mem_cons.mp hx with rfl | hx
        · exact lx_ntrans (h2.2 b (by simp)) (by simpa using c)
        · exact h2.2 x (by simp [hx])
theorem least_key {β : Type} {key : β → List Int} {S : List β} {r s : β} (h : isLeast key S r) (g : isLeast key S s) : key r = key s := lx_total _ _ (g.2 r h.1) (h.2 s g.1)
theorem head_least {β : Type} {key : β → List Int} {t : β} {T : List β} (hp : (t :: T).Pairwise (fun a b => lx (key b) (key a) = false)) : isLeast key (t :: T) t := by
  refine ⟨by simp, fun m hm => ?_⟩
  rcases List.mem_cons.mp hm with rfl | hm
  · exact lx_irr _
  · exact (List.pairwise_cons.mp hp).1 m hm
end Sp

theorem lx_lxL : ∀ a b, Sp.lx a b = lxL a b
  | [], [] => rfl
  | [], _ :: _ => rfl
  | _ :: _, [] => rfl
  | a :: r, b :: t => by simp only [Sp.lx, lxL, lx_lxL r t]
theorem sortT_sorted (S : List (List S56)) : (sortT S).Pairwise (fun a b => lxL (idsL b) (idsL a) = false) := by
  have h := List.pairwise_mergeSort (le := fun x y : List S56 => !lxL (idsL y) (idsL x)) ?_ ?_ S
  · exact h.imp (fun {a b} h => by simpa using h)
  · intro a b c h g
    simp only [Bool.not_eq_true', Bool.not_eq_eq_eq_not, Bool.not_true] at h g ⊢
    exact lxL_ntrans g h
  · intro a b
    cases h : lxL (idsL b) (idsL a) with
    | false => simp
    | true =>
      have : lxL (idsL a) (idsL b) = false := by
        cases e : lxL (idsL a) (idsL b) with
        | false => rfl
        | true => have := lxL_trans _ _ _ e h; rw [lxL_irr] at this; cases this
      simp [this]
theorem less_loop (a b : List Int) (ha : a.length ≤ 1000000) (hb : b.length ≤ 1000000) (d : Nat) : ∀ (k i : Nat), i + d = a.length → 2 * d + 3 ≤ k → spec_l5Less.l0 k a b (i : Int) = some (lxL (a.drop i) (b.drop i)) := by
  induction d with
  | zero =>
    intro k i hi hk
    obtain ⟨k, rfl⟩ : ∃ m, k = m + 2 := ⟨k - 2, by omega⟩
    have c1 : ¬ (i : Int) < (a.length : Int) := by omega
    simp only [spec_l5Less.l0, if_neg c1, spec_l5Less.j1, Bool.false_eq_true, if_false]
    rw [List.drop_of_length_le (l := a) (by omega)]
    by_cases h : (a.length : Int) < (b.length : Int)
    · rw [decide_eq_true h, List.drop_eq_getElem_cons (show i < b.length by omega)]
      rfl
    · rw [decide_eq_false h, List.drop_of_length_le (l := b) (by omega)]
      rfl
  | succ d ih =>
    intro k i hi hk
    obtain ⟨k, rfl⟩ : ∃ m, k = m + 2 := ⟨k - 2, by omega⟩
    have hai : i < a.length := by omega
    have c1 : (i : Int) < (a.length : Int) := by omega
    have c2 : 0 ≤ (i : Int) := by omega
    have ew : wrap64 ((i : Int) + 1) = ((i + 1 : Nat) : Int) := (w64 (by omega) (by omega)).trans (by omega)
    have ea : rd a (i : Int) = a[i] := by simp [rd, hai]
    have ih := ih k (i + 1) (by omega) (by omega)
    rw [List.drop_eq_getElem_cons hai]
    simp only [spec_l5Less.l0, if_pos c1, spec_l5Less.j1]
    by_cases h : (i : Int) < (b.length : Int)
    · have hbi : i < b.length := by omega
      have eb : rd b (i : Int) = b[i] := by simp [rd, hbi]
      rw [decide_eq_true h, if_pos rfl, if_pos c2, if_pos h, ea, eb, ew, ih, List.drop_eq_getElem_cons hbi]
      simp only [lxL]
      by_cases e : a[i] = b[i]
      · rw [if_pos e, if_pos e]
      · rw [if_neg e, if_neg e]
    · have h2 : ¬ (a.length : Int) < (b.length : Int) := by omega
      rw [decide_eq_false h, if_neg (by simp), decide_eq_false h2, List.drop_of_length_le (l := b) (by omega)]
      rfl
theorem less_eq (a b : List Int) (ha : a.length ≤ 1000000) (hb : b.length ≤ 1000000) {k : Nat} (hk : 2 * a.length + 3 ≤ k) : spec_l5Less.f k a b = some (lxL a b) := by
  have := less_loop a b ha hb a.length k 0 (by omega) hk
  unfold spec_l5Less.f
  simpa using this

/-- The conversion of a struct, field by field. -/
def cv55 (x : S55) : S56 := ⟨x.f0, x.f1, x.f2, x.f3⟩
theorem laws_toPersonS_loop (l : List S55) (hl : l.length ≤ 140737488351232) (d : Nat) : ∀ (k i : Nat), i + d = l.length → d < k →
    laws_toPersonS.l0 k l ((l.map cv55).take i ++ (List.replicate l.length z56).drop i) (i : Int) = some (l.map cv55) := by
  induction d with
  | zero =>
    intro k i hd hk
    obtain ⟨k, rfl⟩ : ∃ m, k = m + 1 := ⟨k - 1, by omega⟩
    simp only [laws_toPersonS.l0]
    rw [if_neg (by omega)]
    have e : i = l.length := by omega
    subst e
    rw [List.take_of_length_le (by simp), List.drop_of_length_le (by simp), List.append_nil]
  | succ d ih =>
    intro k i hd hk
    obtain ⟨k, rfl⟩ : ∃ m, k = m + 1 := ⟨k - 1, by omega⟩
    have hi : i < l.length := by omega
    have hlen : ((l.map cv55).take i ++ (List.replicate l.length z56).drop i).length = l.length := by simp; omega
    have ew : wrap64 ((i : Int) + 1) = ((i + 1 : Nat) : Int) := (w64 (by omega) (by omega)).trans (by omega)
    have er : rd_T55 l (i : Int) = l[i] := by simp [rd_T55, hi]
    simp only [laws_toPersonS.l0, laws_toPerson.f, Option.bind_some]
    rw [if_pos (by omega), if_pos (by omega), if_pos (by rw [hlen]; omega), ew, er]
    have es : (((l.map cv55).take i ++ (List.replicate l.length z56).drop i).set (i : Int).toNat (cv55 l[i])) = (l.map cv55).take (i + 1) ++ (List.replicate l.length z56).drop (i + 1) := by
      have := set_step (l.map cv55) z56 i l.length (by simp) hi
      simpa using this
    have h := ih k (i + 1) (by omega) (by omega)
    rw [← es] at h
    exact h
theorem laws_toPersonS_eq (l : List S55) (hl : l.length ≤ 2097152) {k : Nat} (hk : l.length < k) : laws_toPersonS.f k l = some (l.map cv55) := by
  unfold laws_toPersonS.f
  rw [if_pos (by omega), if_pos (by rw [Int.toNat_natCast]; omega)]
  have h := laws_toPersonS_loop l (by omega) l.length k 0 (by omega) hk
  simpa using h

theorem laws_eqPerson_same (x : S56) : laws_eqPerson.f x.f0 x.f1 x.f2 x.f3 x.f0 x.f1 x.f2 x.f3 = some true := by unfold laws_eqPerson.f; simp
theorem laws_eqPersonS_loop (l : List S56) (hl : l.length ≤ 140737488351232) (d : Nat) : ∀ (k i : Nat), i + d = l.length → d < k → laws_eqPersonS.l0 k l l (i : Int) = some true := by
  induction d with
  | zero =>
    intro k i hd hk
    obtain ⟨k, rfl⟩ : ∃ m, k = m + 1 := ⟨k - 1, by omega⟩
    simp only [laws_eqPersonS.l0]
    rw [if_neg (by omega)]
  | succ d ih =>
    intro k i hd hk
    obtain ⟨k, rfl⟩ : ∃ m, k = m + 1 := ⟨k - 1, by omega⟩
    have ew : wrap64 ((i : Int) + 1) = ((i + 1 : Nat) : Int) := (w64 (by omega) (by omega)).trans (by omega)
    simp only [laws_eqPersonS.l0, laws_eqPerson_same, Option.bind_some, if_true]
    rw [if_pos (by omega), if_pos (by omega), if_pos (by omega), ew]
    exact ih k (i + 1) (by omega) (by omega)
theorem laws_eqPersonS_eq (l : List S56) (hl : l.length ≤ 140737488351232) {k : Nat} (hk : l.length < k) : laws_eqPersonS.f k l l = some true := by
  unfold laws_eqPersonS.f
  rw [if_pos rfl]
  exact laws_eqPersonS_loop l hl l.length k 0 (by omega) hk

/-- Whether a team serves. -/
def servesB (need : Int) (M : List S56) : Bool := decide (Go.bits .and .i64 (orAll M 0) need = need) && ableB M
theorem implSmall_loop (need : Int) (k : Nat) (hk : 20 ≤ k) : ∀ (T : List (List S56)) (b : List Int), (∀ M ∈ T, M.length ≠ 0 ∧ M.length ≤ 10) → smallL k need T b = some (((T.filter (servesB need)).map idsL).foldl Sp.stepF b, !(((T.filter (servesB need)).map idsL).foldl Sp.stepF b).isEmpty)
  | [], b, _ => rfl
  | M :: T, b, h => by
    obtain ⟨h0, h1⟩ := h M (List.mem_cons_self ..)
    have ih := fun b => implSmall_loop need k hk T b (fun M hM => h M (List.mem_cons_of_mem _ hM))
    have hz : (idsL M).length = M.length := by simp [idsL]
    simp only [smallL, if_neg h0, skills_sum M (by omega) (show M.length < k by omega), Option.bind_some]
    by_cases c1 : Go.bits .and .i64 (orAll M 0) need = need
    · rw [if_pos c1]
      by_cases c2 : 20 ≤ tripsAll M 0
      · have hs : servesB need M = true := by unfold servesB ableB; rw [decide_eq_true c1, decide_eq_true c2]; rfl
        rw [if_pos c2, List.filter_cons_of_pos hs, List.map_cons, List.foldl_cons]
        by_cases c3 : b = [] ∨ M.length < b.length
        · have hst : Sp.stepF b (idsL M) = idsL M := by
            unfold Sp.stepF
            rw [if_pos]
            rcases c3 with c3 | c3
            · left; rw [c3]; rfl
            · right; rw [hz]; exact c3
          rw [if_pos c3, if_pos (by omega), ih, hst]
        · have hst : Sp.stepF b (idsL M) = b := by
            unfold Sp.stepF
            rw [if_neg]
            rintro (q | q)
            · exact c3 (.inl (List.eq_nil_of_length_eq_zero q))
            · rw [hz] at q; exact c3 (.inr q)
          rw [if_neg c3, ih, hst]
      · have hs : ¬ servesB need M = true := by unfold servesB ableB; rw [show decide (tripsAll M 0 ≥ 20) = false from decide_eq_false c2]; simp
        rw [if_neg c2, List.filter_cons_of_neg hs, ih]
    · have hs : ¬ servesB need M = true := by unfold servesB; rw [decide_eq_false c1]; simp
      rw [if_neg c1, List.filter_cons_of_neg hs, ih]
theorem specSmall_loop (l : List S56) (need : Int) (hg : goodP l = true) (d : Nat) : ∀ (k s : Nat) (b : List Int), s + d = 2 ^ l.length → 2 * d + 100 ≤ k → b.length ≤ 10 →
    spec_SmallestTeam.l0 k l need b (s : Int) = some ((((subsFrom l s d).filter (fun M => servesB need M && teamB M)).map idsL).foldl Sp.stepS b, decide (0 < ((((subsFrom l s d).filter (fun M => servesB need M && teamB M)).map idsL).foldl Sp.stepS b).length)) := by
  have hl := good_len l hg
  have hp := pow_le hl
  induction d with
  | zero =>
    intro k s b hs hk _
    obtain ⟨k, rfl⟩ : ∃ m, k = m + 1 := ⟨k - 1, by omega⟩
    have c0 : 0 ≤ (l.length : Int) := by omega
    have c1 : ¬ (s : Int) < ((2 ^ l.length : Nat) : Int) := by omega
    simp only [spec_SmallestTeam.l0, u64_at l.length (by omega), if_pos c0, pow_at l.length hl, if_neg c1]
    simp [subsFrom]
  | succ d ih =>
    intro k s b hs hk hb
    obtain ⟨K, rfl⟩ : ∃ m, k = m + 1 := ⟨k - 1, by omega⟩
    obtain ⟨k, hK⟩ : ∃ m, K = m + 1 := ⟨K - 1, by omega⟩
    have c0 : 0 ≤ (l.length : Int) := by omega
    have c1 : (s : Int) < ((2 ^ l.length : Nat) : Int) := by omega
    have ew : wrap64 ((s : Int) + 1) = ((s + 1 : Nat) : Int) := (w64 (by omega) (by omega)).trans (by omega)
    have hsub := Sp.subAt_sub l s
    have hlen := sub_len l s
    have hz : (idsL (Sp.subAt l s)).length = (Sp.subAt l s).length := by simp [idsL]
    obtain ⟨h1, h2⟩ := ids_back l _ (good_ids l hg) hsub
    have ht := team_eq l (idsL (Sp.subAt l s)) (by omega) (by omega) h2 (k := K) (by omega)
    have hal := all_eq l (idsL (Sp.subAt l s)) (by omega) (by omega) h2 (k := K) (by omega)
    rw [h1] at ht hal
    rw [teamP_B l _ hg hsub] at ht
    have ih1 := fun b hb => ih K (s + 1) b (by omega) (by omega) hb
    have ih2 := fun b hb => ih k (s + 1) b (by omega) (by omega) hb
    simp only [spec_SmallestTeam.l0, u64_at l.length (by omega), if_pos c0, pow_at l.length hl, if_pos c1, members_eq l hl s (by omega) (show l.length < K by omega), Option.bind_some, ht, hal]
    rw [subsFrom_succ]
    subst hK
    cases h : teamB (Sp.subAt l s) with
    | false =>
      rw [if_neg (by simp), List.filter_cons_of_neg (p := fun M => servesB need M && teamB M) (a := Sp.subAt l s) (by simp [h]), ew, ih1 b hb]
    | true =>
      rw [if_pos rfl]
      by_cases d1 : Go.bits .and .i64 (orAll (Sp.subAt l s) 0) need = need
      · rw [if_pos d1]
        by_cases d2 : tripsAll (Sp.subAt l s) 0 < 20
        · have hs' : ¬ (servesB need (Sp.subAt l s) && teamB (Sp.subAt l s)) = true := by unfold servesB ableB; rw [show decide (tripsAll (Sp.subAt l s) 0 ≥ 20) = false from decide_eq_false (by omega)]; simp
          rw [decide_eq_true d2]
          simp only [spec_SmallestTeam.j2, if_true, ew]
          rw [List.filter_cons_of_neg (p := fun M => servesB need M && teamB M) (a := Sp.subAt l s) hs', ih2 b hb]
        · have hs' : (servesB need (Sp.subAt l s) && teamB (Sp.subAt l s)) = true := by unfold servesB ableB; rw [decide_eq_true d1, show decide (tripsAll (Sp.subAt l s) 0 ≥ 20) = true from decide_eq_true (by omega), h]; rfl
          rw [decide_eq_false d2, List.filter_cons_of_pos (p := fun M => servesB need M && teamB M) (a := Sp.subAt l s) hs', List.map_cons, List.foldl_cons]
          simp only [spec_SmallestTeam.j2, Bool.false_eq_true, if_false, ew]
          by_cases e1 : (b.length : Int) = 0
          · have hst : Sp.stepS b (idsL (Sp.subAt l s)) = idsL (Sp.subAt l s) := by unfold Sp.stepS; rw [if_pos (.inl (by omega))]
            rw [if_pos e1, ih2 _ (by omega), hst]
          · rw [if_neg e1]
            by_cases e2 : ((idsL (Sp.subAt l s)).length : Int) < (b.length : Int)
            · have hst : Sp.stepS b (idsL (Sp.subAt l s)) = idsL (Sp.subAt l s) := by unfold Sp.stepS; rw [if_pos (.inr (.inl (by omega)))]
              rw [if_pos e2, ih2 _ (by omega), hst]
            · rw [if_neg e2]
              by_cases e3 : ((idsL (Sp.subAt l s)).length : Int) = (b.length : Int)
              · rw [if_pos e3, less_eq _ _ (by omega) (by omega) (show 2 * (idsL (Sp.subAt l s)).length + 3 ≤ k by omega)]
                simp only [Option.bind_some]
                cases e4 : lxL (idsL (Sp.subAt l s)) b with
                | true =>
                  have hst : Sp.stepS b (idsL (Sp.subAt l s)) = idsL (Sp.subAt l s) := by unfold Sp.stepS; rw [if_pos (.inr (.inr ⟨by omega, by rw [lx_lxL]; exact e4⟩))]
                  rw [if_pos rfl, ih2 _ (by omega), hst]
                | false =>
                  have hst : Sp.stepS b (idsL (Sp.subAt l s)) = b := by
                    unfold Sp.stepS
                    rw [if_neg]
                    rintro (q | q | ⟨_, q⟩)
                    · omega
                    · omega
                    · rw [lx_lxL, e4] at q; cases q
                  rw [if_neg (by simp), ih2 _ hb, hst]
              · have hst : Sp.stepS b (idsL (Sp.subAt l s)) = b := by
                  unfold Sp.stepS
                  rw [if_neg]
                  rintro (q | q | ⟨q, _⟩) <;> omega
                rw [if_neg e3, ih2 _ hb, hst]
      · have hs' : ¬ (servesB need (Sp.subAt l s) && teamB (Sp.subAt l s)) = true := by unfold servesB; rw [decide_eq_false d1]; simp
        rw [if_neg d1]
        simp only [spec_SmallestTeam.j2, if_true, ew]
        rw [List.filter_cons_of_neg (p := fun M => servesB need M && teamB M) (a := Sp.subAt l s) hs', ih2 b hb]
theorem stepS_len (n : Nat) : ∀ (S : List (List Int)) (b : List Int), b.length ≤ n → (∀ m ∈ S, m.length ≤ n) → (S.foldl Sp.stepS b).length ≤ n
  | [], b, h, _ => h
  | m :: S, b, h, hS => by
    rw [List.foldl_cons]
    refine stepS_len n S _ ?_ (fun x hx => hS x (List.mem_cons_of_mem _ hx))
    unfold Sp.stepS
    split
    · exact hS m (List.mem_cons_self ..)
    · exact h
theorem small_eq (l : List S56) (a : Int) (hl : l.length ≤ 1048576) (hM : ∀ x ∈ l, x.f1.size ≤ 1048576) : ∃ r b, (∀ k, l.length * (l.length + 3) + 1048590 < k → spec_SmallestTeam.f k l a = some (r, b) ∧ impl_SmallestTeam.f k l a = some (r, b)) ∧ r.length ≤ l.length := by
  have hM' : ∀ x ∈ l, x.f1.size < 1048577 ∧ x.f1.size ≤ 140737488351232 := fun x hx => by have := hM x hx; omega
  by_cases h : goodP l = true ∧ (0 ≤ a ∧ a ≤ 15)
  · have hg := h.1
    have h10 := good_len l hg
    have hn := good_ids l hg
    have hp := sortT_perm (teamsOf l)
    have hp2 := pow_le h10
    have hteam : ∀ M ∈ teamsOf l, M.length ≠ 0 ∧ M.length ≤ l.length := by
      intro M hM
      obtain ⟨h1, h2⟩ := teams_sub l M hM
      have h3 := (of_decide_eq_true h2).1
      have := h1.length_le
      omega
    have hfirst := Sp.first_eq (((teamsOf l).filter (servesB a)).map idsL) (((sortT (teamsOf l)).filter (servesB a)).map idsL) ((hp.symm.filter _).map _) (by
      intro m hm
      obtain ⟨M, h1, rfl⟩ := List.mem_map.mp hm
      have := (hteam M (List.mem_filter.mp h1).1).1
      unfold idsL; rwa [List.length_map]) (by
      rw [List.pairwise_map]
      refine ((sortT_sorted (teamsOf l)).filter _).imp ?_
      intro x y hxy
      rw [lx_lxL]; exact hxy)
    have hfl : ((subsFrom l 0 (2 ^ l.length)).filter (fun M => servesB a M && teamB M)) = (teamsOf l).filter (servesB a) := by unfold teamsOf; rw [List.filter_filter]
    obtain ⟨r, hr⟩ : ∃ r, (((teamsOf l).filter (servesB a)).map idsL).foldl Sp.stepS [] = r := ⟨_, rfl⟩
    have hrl : r.length ≤ l.length := by
      rw [← hr]
      refine stepS_len _ _ _ (by simp) ?_
      intro m hm
      obtain ⟨M, h1, rfl⟩ := List.mem_map.mp hm
      have := (hteam M (List.mem_filter.mp h1).1).2
      unfold idsL; rwa [List.length_map]
    refine ⟨r, decide (0 < r.length), fun k hk => ?_, hrl⟩
    obtain ⟨k, rfl⟩ : ∃ m, k = m + 1 := ⟨k - 1, by omega⟩
    have e1 := specSmall_loop l a hg (2 ^ l.length) k 0 [] (by omega) (by omega) (by simp)
    rw [hfl, hr] at e1
    have e2 := implSmall_loop a (k + 1) (by omega) (sortT (teamsOf l)) [] (fun M hM => by
      have := hteam M (hp.mem_iff.mp hM)
      omega)
    rw [← hfirst, hr] at e2
    have hb : (!r.isEmpty) = decide (0 < r.length) := by cases r <;> simp
    rw [hb] at e2
    unfold spec_SmallestTeam.f impl_SmallestTeam.f
    rw [specGood_eq l hl 1048577 hM' (by omega), implGood_eq l hl (by omega)]
    simp only [Option.bind_some, skills_eq, areSkills_eq, hg, if_true]
    rw [decide_eq_true h.2, teams_eq l h10 hn (by omega)]
    simp only [Bool.not_true, spec_SmallestTeam.j0, Bool.false_eq_true, if_false, Option.bind_some, if_true]
    exact ⟨e1, e2⟩
  · refine ⟨[], false, fun k hk => ?_, by simp⟩
    obtain ⟨k, rfl⟩ : ∃ m, k = m + 1 := ⟨k - 1, by omega⟩
    unfold spec_SmallestTeam.f impl_SmallestTeam.f
    rw [specGood_eq l hl 1048577 hM' (by omega), implGood_eq l hl (by omega)]
    simp only [Option.bind_some, skills_eq, areSkills_eq]
    cases hg : goodP l with
    | false => simp [spec_SmallestTeam.j0]
    | true =>
      have hn : ¬ (0 ≤ a ∧ a ≤ 15) := fun z => h ⟨hg, z⟩
      rw [decide_eq_false hn]
      simp [spec_SmallestTeam.j0]

theorem FnExactSmallestTeam : Asked := by
  intro l a hl hw _
  obtain ⟨t, ht, hq⟩ := szP_eq l (by omega) (fun y hy => by have := (hw y hy).2.1; unfold maxLen at this; exact this)
  by_cases c : t < 0
  · refine ⟨l.length + 1, ?_⟩
    unfold laws_FnExactSmallestTeam.f
    rw [ht _ (by omega)]
    simp only [Option.bind_some]
    rw [if_pos c]
  · have hb := hq.elim (fun z => absurd z c) id
    have hlen : (l.map cv55).length = l.length := by simp
    have hM : ∀ x ∈ l.map cv55, x.f1.size ≤ 1048576 := by
      intro x hx
      obtain ⟨y, hy, rfl⟩ := List.mem_map.mp hx
      exact hb.2 y hy
    obtain ⟨r, b, h, hr⟩ := small_eq (l.map cv55) a (by omega) hM
    rw [hlen] at h hr
    obtain ⟨m, l', hm0, hm⟩ := markP_eq (l.map cv55) (by omega)
    rw [hlen] at hm
    have hmi : ∀ k, r.length < k → laws_markIntS.f k r 1 = some ((r.length : Int) + 1, marks r.length) := fun k hk => markInts_eq r (by omega) hk
    have hhe : ∀ k, r.length < k → laws_heldIntS.f k (marks r.length) 1 = some ((r.length : Int) + 1) := fun k hk => heldInts_eq r.length (by omega) hk
    have heq : ∀ k, r.length < k → laws_eqIntS.f k r r = some true := fun k hk => eqInts_eq r (by omega) hk
    have hto : ∀ k, l.length < k → laws_toPersonS.f k l = some (l.map cv55) := fun k hk => laws_toPersonS_eq l (by omega) hk
    have hep : ∀ k, l.length < k → laws_eqPersonS.f k (l.map cv55) (l.map cv55) = some true := fun k hk => laws_eqPersonS_eq (l.map cv55) (by omega) (by omega)
    obtain ⟨K, hK⟩ : ∃ K, K = l.length * (l.length + 3) + l.length + 1048700 := ⟨_, rfl⟩
    obtain ⟨K, rfl⟩ : ∃ Q, K = Q + 4 := ⟨K - 4, by omega⟩
    refine ⟨K + 4, ?_⟩
    unfold laws_FnExactSmallestTeam.f
    rw [ht _ (by omega)]
    simp only [Option.bind_some]
    rw [if_neg c, hto _ (by omega)]
    simp only [Option.bind_some, (h (K + 4) (by omega)).1, (h (K + 4) (by omega)).2, heq (K + 4) (by omega), if_true]
    simp only [laws_FnExactSmallestTeam.j0, bne_self_eq_false, Bool.false_eq_true, if_false, hto (K + 3) (by omega), Option.bind_some, hep (K + 3) (by omega), if_true, hm (K + 3) (by omega)]
    rw [if_neg (by omega), heq (K + 3) (by omega)]
    simp only [Option.bind_some, if_true, laws_FnExactSmallestTeam.j1, bne_self_eq_false, Bool.false_eq_true, if_false, hmi (K + 2) (by omega), hhe (K + 2) (by omega)]
    rw [if_neg (by omega)]
    simp only [hto (K + 2) (by omega), Option.bind_some, (h (K + 2) (by omega)).2, heq (K + 2) (by omega), if_true, laws_FnExactSmallestTeam.j2, bne_self_eq_false, Bool.false_eq_true, if_false, hhe (K + 1) (by omega)]
    rw [if_neg (by omega)]
end Go.Proofs.YtafdklajmklmkaaDoor.Pure
