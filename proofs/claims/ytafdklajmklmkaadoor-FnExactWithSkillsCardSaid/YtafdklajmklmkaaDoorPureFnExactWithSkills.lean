/- The pure statement of the law of WithSkills: true for every list of people and every number; no condition but the reach. -/
import Derived.Test.YtafdklajmklmkaaDoorAskFnExactWithSkills
namespace Go.Proofs.YtafdklajmklmkaaDoor.Pure
open Go.RowKit Go.Proofs.YtafdklajmklmkaaDoor.XFnExactWithSkills Go.Proofs.YtafdklajmklmkaaDoor.AskFnExactWithSkills Go.Proofs.YtafdklajmklmkaaDoorW.PrintWords Go.Proofs.YtafdklajmklmkaaDoorW.PrintLast
set_option linter.unusedVariables false
set_option linter.unusedSimpArgs false

theorem w64 {x : Int} (h0 : -9223372036854775808 ≤ x) (h1 : x ≤ 9223372036854775807) : wrap64 x = x := by
  unfold wrap64
  omega

/-- A text cut at a byte. -/
def sp (c : UInt8) (cur : List UInt8) : List UInt8 → List (List UInt8)
  | [] => [cur]
  | b :: l => if b = c then cur :: sp c [] l else sp c (cur ++ [b]) l
def mkB (l : List UInt8) : ByteArray := ⟨l.toArray⟩
theorem sp_length (c : UInt8) : ∀ (l cur : List UInt8), (sp c cur l).length ≤ l.length + 1
  | [], _ => Nat.le_refl _
  | b :: l, cur => by
    unfold sp
    split
    · have := sp_length c l []; simp only [List.length_cons]; omega
    · have := sp_length c l (cur ++ [b]); simp only [List.length_cons]; omega
theorem extract_mk (s : ByteArray) (i j : Nat) : s.extract i j = mkB ((s.data.toList.take j).drop i) := by
  apply ByteArray.ext
  rw [ByteArray.data_extract]
  apply Array.ext'
  simp [mkB, List.drop_take]
theorem size_data (s : ByteArray) : s.data.toList.length = s.size := Array.length_toList
theorem mk_data (s : ByteArray) : mkB s.data.toList = s := by simp [mkB]
theorem bt_list (s : ByteArray) (i : Nat) (h : i < s.size) : bt s (i : Int) = ((s.data.toList[i]'(by rw [size_data]; exact h)).toNat : Int) := by
  unfold bt
  rw [dif_pos (show (i : Int).toNat < s.size by omega)]
  rfl
theorem toNat_eq {x y : UInt8} : (x.toNat : Int) = (y.toNat : Int) ↔ x = y := by
  constructor
  · intro h
    exact UInt8.toNat_inj.mp (by omega)
  · intro h
    rw [h]
theorem idx_none (c : UInt8) : ∀ (l cur : List UInt8), Lib.indexByte l c < 0 → sp c cur l = [cur ++ l]
  | [], cur, _ => by simp [sp]
  | b :: l, cur, h => by
    unfold Lib.indexByte at h
    by_cases e : b = c
    · simp [e] at h
    · have hb : (b == c) = false := by simp [e]
      rw [hb] at h
      simp only [Bool.false_eq_true, if_false] at h
      have g := Lib.indexByte_ge l c
      have h2 : Lib.indexByte l c < 0 := by
        by_cases z : (Lib.indexByte l c == -1) = true
        · have := eq_of_beq z; omega
        · rw [if_neg z] at h; omega
      unfold sp
      rw [if_neg e, idx_none c l _ h2, List.append_assoc, List.singleton_append]
theorem idx_some (c : UInt8) : ∀ (l cur : List UInt8), 0 ≤ Lib.indexByte l c → (Lib.indexByte l c).toNat < l.length ∧ sp c cur l = (cur ++ l.take (Lib.indexByte l c).toNat) :: sp c [] (l.drop ((Lib.indexByte l c).toNat + 1))
  | [], cur, h => by simp [Lib.indexByte] at h
  | b :: l, cur, h => by
    unfold Lib.indexByte at h ⊢
    by_cases e : b = c
    · simp [e, sp]
    · have hb : (b == c) = false := by simp [e]
      rw [hb] at h ⊢
      simp only [Bool.false_eq_true, if_false] at h ⊢
      by_cases z : (Lib.indexByte l c == -1) = true
      · rw [if_pos z] at h; omega
      · rw [if_neg z] at h ⊢
        have g := Lib.indexByte_ge l c
        have h2 : 0 ≤ Lib.indexByte l c := by
          have : ¬ Lib.indexByte l c = -1 := fun q => z (by simp [q])
          omega
        obtain ⟨i1, i2⟩ := idx_some c l (cur ++ [b]) h2
        have et : (Lib.indexByte l c + 1).toNat = (Lib.indexByte l c).toNat + 1 := by omega
        rw [et]
        refine ⟨by simp only [List.length_cons]; omega, ?_⟩
        rw [show sp c cur (b :: l) = sp c (cur ++ [b]) l from if_neg e, i2, List.take_succ_cons, List.drop_succ_cons, List.append_assoc, List.singleton_append]
theorem u8_round (x : Int) (h0 : 0 ≤ x) (h1 : x ≤ 255) : ((x.toNat.toUInt8).toNat : Int) = x := by
  have e : (x.toNat.toUInt8).toNat = x.toNat % 256 := by simp [Nat.toUInt8]
  rw [e]; omega

theorem l1In_eq (a b c : Int) : spec_l1In.f a b c = some (decide (b ≤ a ∧ a ≤ c)) := by
  unfold spec_l1In.f
  by_cases h : a ≥ b
  · rw [if_pos h]
    have h' : b ≤ a := h
    simp [h']
  · rw [if_neg h]
    have h' : ¬ b ≤ a := h
    simp [h']

theorem letters_has : ∀ b : Fin 256, ([97, 98, 99, 100, 101, 102, 103, 104, 105, 106, 107, 108, 109, 110, 111, 112, 113, 114, 115, 116, 117, 118, 119, 120, 121, 122] : List UInt8).contains (UInt8.ofNat b.val) = decide (97 ≤ b.val ∧ b.val ≤ 122) := by decide +kernel
theorem letters_at (b : UInt8) : ([97, 98, 99, 100, 101, 102, 103, 104, 105, 106, 107, 108, 109, 110, 111, 112, 113, 114, 115, 116, 117, 118, 119, 120, 121, 122] : List UInt8).contains b = decide (97 ≤ b.toNat ∧ b.toNat ≤ 122) := by
  have h := letters_has ⟨b.toNat, b.toNat_lt⟩
  simp only [UInt8.ofNat_toNat] at h
  exact h
theorem dropWhile_nil {α : Type} (p : α → Bool) : ∀ l : List α, l.dropWhile p = [] ↔ ∀ x ∈ l, p x = true
  | [] => by simp
  | x :: l => by
    rw [List.dropWhile_cons]
    cases h : p x with
    | true => simp only [if_true, dropWhile_nil p l, List.mem_cons, forall_eq_or_imp, h, true_and]
    | false => simp [h]
theorem takeWhile_all {α : Type} (p : α → Bool) : ∀ (l : List α) (x : α), x ∈ l.takeWhile p → p x = true
  | [], x, h => by simp at h
  | y :: l, x, h => by
    rw [List.takeWhile_cons] at h
    cases hy : p y with
    | false => rw [hy] at h; simp at h
    | true =>
      rw [hy] at h
      simp only [if_true, List.mem_cons] at h
      rcases h with rfl | h
      · exact hy
      · exact takeWhile_all p l x h
theorem trimS_nil (l cs : List UInt8) : Lib.trimS l cs = [] ↔ ∀ x ∈ l, cs.contains x = true := by
  unfold Lib.trimS Lib.trimLeftS Lib.trimRightS
  rw [dropWhile_nil]
  constructor
  · intro h x hx
    have hs : l.reverse = l.reverse.takeWhile (cs.contains ·) ++ l.reverse.dropWhile (cs.contains ·) := (List.takeWhile_append_dropWhile).symm
    have hx' : x ∈ l.reverse := List.mem_reverse.mpr hx
    rw [hs] at hx'
    rcases List.mem_append.mp hx' with h1 | h1
    · exact takeWhile_all _ _ _ h1
    · exact h x (List.mem_reverse.mpr h1)
  · intro h x hx
    have hx' := List.mem_reverse.mp hx
    exact h x (List.mem_reverse.mp (List.dropWhile_sublist _ |>.mem hx'))
/-- A word: one to ten small letters. -/
def vWord (s : ByteArray) : Bool := decide ((1 ≤ s.size ∧ s.size ≤ 10) ∧ ∀ b ∈ s.data.toList, 97 ≤ b.toNat ∧ b.toNat ≤ 122)
theorem isWord_eq (s : ByteArray) : impl_isWord.f s = some (vWord s) := by
  unfold impl_isWord.f vWord
  by_cases c1 : (s.size : Int) ≥ 1
  · by_cases c2 : (s.size : Int) ≤ 10
    · rw [if_pos c1, if_pos c2]
      have ht : strings_Trim.f s (⟨#[97, 98, 99, 100, 101, 102, 103, 104, 105, 106, 107, 108, 109, 110, 111, 112, 113, 114, 115, 116, 117, 118, 119, 120, 121, 122]⟩ : ByteArray) = some (⟨(Lib.trimS s.data.toList [97, 98, 99, 100, 101, 102, 103, 104, 105, 106, 107, 108, 109, 110, 111, 112, 113, 114, 115, 116, 117, 118, 119, 120, 121, 122]).toArray⟩ : ByteArray) := by
        unfold strings_Trim.f
        rw [if_pos ⟨by omega, by decide, by decide⟩]
      rw [ht]
      simp only [Option.bind_some]
      refine congrArg some ?_
      rw [Lib.toList_data]
      have e : (Lib.trimS s.data.toList [97, 98, 99, 100, 101, 102, 103, 104, 105, 106, 107, 108, 109, 110, 111, 112, 113, 114, 115, 116, 117, 118, 119, 120, 121, 122] = []) = ((1 ≤ s.size ∧ s.size ≤ 10) ∧ ∀ b ∈ s.data.toList, 97 ≤ b.toNat ∧ b.toNat ≤ 122) := by
        apply propext
        rw [trimS_nil]
        constructor
        · intro h
          refine ⟨by omega, fun b hb => ?_⟩
          have := h b hb
          rw [letters_at] at this
          exact of_decide_eq_true this
        · intro h b hb
          rw [letters_at]
          exact decide_eq_true (h.2 b hb)
      rw [Bool.eq_iff_iff]
      simp only [beq_iff_eq, decide_eq_true_eq]
      rw [← e]
    · rw [if_pos c1, if_neg c2]
      exact congrArg some (decide_eq_false (fun h => c2 (by omega))).symm
  · rw [if_neg c1]
    exact congrArg some (decide_eq_false (fun h => c1 (by omega))).symm
theorem word_loop (s : ByteArray) (hs : s.size ≤ 140737488351232) (d : Nat) : ∀ (k i : Nat), i + d = s.size → d < k →
    spec_l2Word.l0 k s (i : Int) = some (decide ((1 ≤ s.size ∧ s.size ≤ 10) ∧ ∀ b ∈ s.data.toList.drop i, 97 ≤ b.toNat ∧ b.toNat ≤ 122)) := by
  induction d with
  | zero =>
    intro k i hi hk
    obtain ⟨k, rfl⟩ : ∃ m, k = m + 1 := ⟨k - 1, by omega⟩
    have c1 : ¬ (i : Int) < (s.size : Int) := by omega
    have hd : s.data.toList.drop i = [] := List.drop_of_length_le (by rw [size_data]; omega)
    simp only [spec_l2Word.l0, if_neg c1, l1In_eq, Option.bind_some, hd]
    refine congrArg some (decide_eq_decide.mpr ?_)
    simp only [List.not_mem_nil, false_implies, implies_true, and_true]
    omega
  | succ d ih =>
    intro k i hi hk
    obtain ⟨k, rfl⟩ : ∃ m, k = m + 1 := ⟨k - 1, by omega⟩
    have hlt : i < s.data.toList.length := by rw [size_data]; omega
    have c1 : (i : Int) < (s.size : Int) := by omega
    have c2 : 0 ≤ (i : Int) := by omega
    have hd := List.drop_eq_getElem_cons hlt
    have eb := bt_list s i (by omega)
    have ew : wrap64 ((i : Int) + 1) = ((i + 1 : Nat) : Int) := (w64 (by omega) (by omega)).trans (by omega)
    simp only [spec_l2Word.l0, if_pos c1, if_pos c2, eb, ew]
    rw [hd]
    generalize s.data.toList[i] = b
    by_cases h1 : (b.toNat : Int) < 97
    · rw [if_pos h1]
      refine congrArg some (decide_eq_false (fun h => ?_)).symm
      have := h.2 b List.mem_cons_self
      omega
    · by_cases h2 : (b.toNat : Int) > 122
      · rw [if_neg h1, if_pos h2]
        refine congrArg some (decide_eq_false (fun h => ?_)).symm
        have := h.2 b List.mem_cons_self
        omega
      · rw [if_neg h1, if_neg h2, ih k (i + 1) (by omega) (by omega)]
        refine congrArg some (decide_eq_decide.mpr ?_)
        simp only [List.mem_cons, forall_eq_or_imp]
        exact ⟨fun h => ⟨h.1, by omega, h.2⟩, fun h => ⟨h.1, h.2.2⟩⟩
theorem l2Word_eq (s : ByteArray) (hs : s.size ≤ 140737488351232) {k : Nat} (hk : s.size < k) : spec_l2Word.f k s = some (vWord s) := by
  unfold spec_l2Word.f vWord
  have h := word_loop s hs s.size k 0 (by omega) hk
  simpa using h

theorem within_eq (a b c : Int) : impl_within.f a b c = some (decide (b ≤ a ∧ a ≤ c)) := by
  unfold impl_within.f
  by_cases h : a ≥ b
  · rw [if_pos h]
    have h' : b ≤ a := h
    simp [h']
  · rw [if_neg h]
    have h' : ¬ b ≤ a := h
    simp [h']

/-- Person i is fit, behind and beside those ahead of it. -/
def okAt (l : List S56) (i : Nat) : Prop := (1 ≤ (rd_T56 l (i : Int)).f0 ∧ (rd_T56 l (i : Int)).f0 ≤ 99) ∧ vWord (rd_T56 l (i : Int)).f1 = true ∧ (0 ≤ (rd_T56 l (i : Int)).f2 ∧ (rd_T56 l (i : Int)).f2 ≤ 15) ∧ (0 ≤ (rd_T56 l (i : Int)).f3 ∧ (rd_T56 l (i : Int)).f3 ≤ 500) ∧ (0 < i → (rd_T56 l ((i - 1 : Nat) : Int)).f0 < (rd_T56 l (i : Int)).f0) ∧ ∀ j, j < i → ¬ (rd_T56 l (j : Int)).f1.toList = (rd_T56 l (i : Int)).f1.toList
def goodFrom (l : List S56) (i : Nat) : Prop := (∀ m, i ≤ m → m < l.length → okAt l m) ∧ l.length ≤ 10
noncomputable def goodB (l : List S56) (i : Nat) : Bool := @decide (goodFrom l i) (Classical.propDecidable _)
theorem goodB_true (l : List S56) (i : Nat) : goodB l i = true ↔ goodFrom l i := by unfold goodB; simp
theorem goodB_step {l : List S56} {i : Nat} (h : okAt l i) : goodB l i = goodB l (i + 1) := by
  rw [Bool.eq_iff_iff, goodB_true, goodB_true]
  refine ⟨fun g => ⟨fun m h1 h2 => g.1 m (by omega) h2, g.2⟩, fun g => ⟨fun m h1 h2 => ?_, g.2⟩⟩
  rcases Nat.eq_or_lt_of_le h1 with rfl | hlt
  · exact h
  · exact g.1 m hlt h2
theorem goodB_not {l : List S56} {i : Nat} (hi : i < l.length) (h : ¬ okAt l i) : goodB l i = false := by
  rw [← Bool.not_eq_true, goodB_true]
  exact fun g => h (g.1 i (Nat.le_refl _) hi)
/-- Somebody from place j on, ahead of i, has the name of person i. -/
def sameP (l : List S56) (i j : Nat) : Prop := ∃ m, j ≤ m ∧ m < i ∧ (rd_T56 l (m : Int)).f1.toList = (rd_T56 l (i : Int)).f1.toList
noncomputable def sameB (l : List S56) (i j : Nat) : Bool := @decide (sameP l i j) (Classical.propDecidable _)
theorem sameB_true (l : List S56) (i j : Nat) : sameB l i j = true ↔ sameP l i j := by unfold sameB; simp
theorem sameB_end (l : List S56) (i j : Nat) (h : i ≤ j) : sameB l i j = false := by
  rw [← Bool.not_eq_true, sameB_true]
  rintro ⟨m, h1, h2, _⟩
  omega
theorem sameB_hit (l : List S56) (i j : Nat) (hj : j < i) (h : (rd_T56 l (j : Int)).f1.toList = (rd_T56 l (i : Int)).f1.toList) : sameB l i j = true := (sameB_true l i j).mpr ⟨j, Nat.le_refl _, hj, h⟩
theorem sameB_step (l : List S56) (i j : Nat) (h : ¬ (rd_T56 l (j : Int)).f1.toList = (rd_T56 l (i : Int)).f1.toList) : sameB l i (j + 1) = sameB l i j := by
  rw [Bool.eq_iff_iff, sameB_true, sameB_true]
  constructor
  · rintro ⟨m, h1, h2, h3⟩
    exact ⟨m, by omega, h2, h3⟩
  · rintro ⟨m, h1, h2, h3⟩
    rcases Nat.eq_or_lt_of_le h1 with rfl | q
    · exact absurd h3 h
    · exact ⟨m, q, h2, h3⟩
theorem specNames (l : List S56) (i : Nat) (hi : i < l.length) (hl : l.length ≤ 140737488351232) (a : Int) (c d : Int) (e : Nat) : ∀ (k j : Nat), j + e = i → e < k →
    spec_l5Good.l1 k l (i : Int) (j : Int) a (rd_T56 l (i : Int)).f1 c d = if sameB l i j = true then some false else spec_l5Good.l0 (k - e - 1) l ((i + 1 : Nat) : Int) := by
  induction e with
  | zero =>
    intro k j hj hk
    obtain ⟨k, rfl⟩ : ∃ m, k = m + 1 := ⟨k - 1, by omega⟩
    have c1 : ¬ (j : Int) < (i : Int) := by omega
    have ew : wrap64 ((i : Int) + 1) = ((i + 1 : Nat) : Int) := (w64 (by omega) (by omega)).trans (by omega)
    simp only [spec_l5Good.l1, if_neg c1, ew]
    rw [sameB_end l i j (by omega), if_neg (by simp)]
    rfl
  | succ e ih =>
    intro k j hj hk
    obtain ⟨k, rfl⟩ : ∃ m, k = m + 1 := ⟨k - 1, by omega⟩
    have c1 : (j : Int) < (i : Int) := by omega
    have c2 : 0 ≤ (j : Int) := by omega
    have c3 : (j : Int) < (l.length : Int) := by omega
    have ew : wrap64 ((j : Int) + 1) = ((j + 1 : Nat) : Int) := (w64 (by omega) (by omega)).trans (by omega)
    simp only [spec_l5Good.l1, if_pos c1, if_pos c2, if_pos c3, ew]
    by_cases h : (rd_T56 l (j : Int)).f1.toList = (rd_T56 l (i : Int)).f1.toList
    · rw [if_pos h, sameB_hit l i j (by omega) h, if_pos rfl]
    · have e2 : k + 1 - (e + 1) - 1 = k - e - 1 := by omega
      rw [if_neg h, ih k (j + 1) (by omega) (by omega), e2, sameB_step l i j h]
theorem rd_take (l : List S56) (i j : Nat) (h : j < i) : rd_T56 (l.take i) (j : Int) = rd_T56 l (j : Int) := by
  unfold rd_T56
  rw [Int.toNat_natCast, List.getD_eq_getElem?_getD, List.getD_eq_getElem?_getD, List.getElem?_take, if_pos h]
theorem implNames (l : List S56) (i : Nat) (hi : i < l.length) (hl : l.length ≤ 140737488351232) (a : Int) (c d : Int) (e : Nat) : ∀ (k j : Nat), j + e = i → e < k →
    impl_ArePeople.l1 k l l (l.length : Int) (i : Int) (l.take i) ((l.take i).length : Int) (j : Int) a (rd_T56 l (i : Int)).f1 c d = if sameB l i j = true then some false else impl_ArePeople.l0 (k - e - 1) l l (l.length : Int) ((i + 1 : Nat) : Int) := by
  have ht : (l.take i).length = i := by rw [List.length_take]; omega
  induction e with
  | zero =>
    intro k j hj hk
    obtain ⟨k, rfl⟩ : ∃ m, k = m + 1 := ⟨k - 1, by omega⟩
    have c1 : ¬ (j : Int) < ((l.take i).length : Int) := by omega
    have ew : wrap64 ((i : Int) + 1) = ((i + 1 : Nat) : Int) := (w64 (by omega) (by omega)).trans (by omega)
    simp only [impl_ArePeople.l1, if_neg c1, ew]
    rw [sameB_end l i j (by omega), if_neg (by simp)]
    rfl
  | succ e ih =>
    intro k j hj hk
    obtain ⟨k, rfl⟩ : ∃ m, k = m + 1 := ⟨k - 1, by omega⟩
    have c1 : (j : Int) < ((l.take i).length : Int) := by omega
    have c2 : 0 ≤ (j : Int) := by omega
    have ew : wrap64 ((j : Int) + 1) = ((j + 1 : Nat) : Int) := (w64 (by omega) (by omega)).trans (by omega)
    simp only [impl_ArePeople.l1, if_pos c1, if_pos c2, ew, rd_take l i j (by omega)]
    by_cases h : (rd_T56 l (j : Int)).f1.toList = (rd_T56 l (i : Int)).f1.toList
    · rw [if_pos h, sameB_hit l i j (by omega) h, if_pos rfl]
    · have e2 : k + 1 - (e + 1) - 1 = k - e - 1 := by omega
      rw [if_neg h, ih k (j + 1) (by omega) (by omega), e2, sameB_step l i j h]
theorem skills_eq (x : Int) : spec_l5Skills.f x = some (decide (0 ≤ x ∧ x ≤ 15)) := by unfold spec_l5Skills.f; rw [l1In_eq]; rfl
theorem areSkills_eq (x : Int) : impl_areSkills.f x = some (decide (0 ≤ x ∧ x ≤ 15)) := by unfold impl_areSkills.f; rw [within_eq]; rfl
theorem isId_eq (x : Int) : impl_isId.f x = some (decide (1 ≤ x ∧ x ≤ 99)) := by unfold impl_isId.f; rw [within_eq]; rfl
theorem specGood_loop (l : List S56) (hl : l.length ≤ 140737488351232) (M : Nat) (hM : ∀ x ∈ l, x.f1.size < M ∧ x.f1.size ≤ 140737488351232) (d : Nat) : ∀ (k i : Nat), i + d = l.length → d * (l.length + 3) + M < k →
    spec_l5Good.l0 k l (i : Int) = some (goodB l i) := by
  induction d with
  | zero =>
    intro k i hd hk
    obtain ⟨k, rfl⟩ : ∃ m, k = m + 1 := ⟨k - 1, by omega⟩
    have c1 : ¬ (i : Int) < (l.length : Int) := by omega
    simp only [spec_l5Good.l0, if_neg c1]
    refine congrArg some ?_
    rw [Bool.eq_iff_iff, goodB_true, decide_eq_true_eq]
    exact ⟨fun h => ⟨fun m h1 h2 => by omega, by omega⟩, fun h => by have := h.2; omega⟩
  | succ d ih =>
    intro k i hd hk
    rw [Nat.succ_mul] at hk
    obtain ⟨k, rfl⟩ : ∃ m, k = m + 2 := ⟨k - 2, by omega⟩
    have hi : i < l.length := by omega
    have c1 : (i : Int) < (l.length : Int) := by omega
    have c2 : 0 ≤ (i : Int) := by omega
    have hmem : rd_T56 l (i : Int) ∈ l := by
      have : rd_T56 l (i : Int) = l[i] := by simp [rd_T56, hi]
      rw [this]
      exact List.getElem_mem hi
    have hw := hM _ hmem
    simp only [spec_l5Good.l0, if_pos c1, if_pos c2, l1In_eq, l2Word_eq _ hw.2 (show (rd_T56 l (i : Int)).f1.size < k + 1 by omega), skills_eq, Option.bind_some]
    have hbad : ∀ a c e, spec_l5Good.j1 (k + 1) l (i : Int) true a (rd_T56 l (i : Int)).f1 c e = some false := fun a c e => by simp [spec_l5Good.j1]
    by_cases h1 : 1 ≤ (rd_T56 l (i : Int)).f0 ∧ (rd_T56 l (i : Int)).f0 ≤ 99
    case neg =>
      rw [decide_eq_false h1, if_neg (by simp), hbad, goodB_not hi (fun z => h1 z.1)]
    rw [decide_eq_true h1, if_pos rfl]
    by_cases h2 : vWord (rd_T56 l (i : Int)).f1 = true
    case neg =>
      rw [if_neg h2, hbad, goodB_not hi (fun z => h2 z.2.1)]
    rw [if_pos h2]
    by_cases h3 : 0 ≤ (rd_T56 l (i : Int)).f2 ∧ (rd_T56 l (i : Int)).f2 ≤ 15
    case neg =>
      rw [decide_eq_false h3, if_neg (by simp), hbad, goodB_not hi (fun z => h3 z.2.2.1)]
    rw [decide_eq_true h3, if_pos rfl]
    by_cases h4 : 0 ≤ (rd_T56 l (i : Int)).f3 ∧ (rd_T56 l (i : Int)).f3 ≤ 500
    case neg =>
      rw [decide_eq_false h4, if_neg (by simp), hbad, goodB_not hi (fun z => h4 z.2.2.2.1)]
    rw [decide_eq_true h4, if_pos rfl]
    have last : ∀ a c e, (0 < i → (rd_T56 l ((i - 1 : Nat) : Int)).f0 < (rd_T56 l (i : Int)).f0) → spec_l5Good.j1 (k + 1) l (i : Int) false a (rd_T56 l (i : Int)).f1 c e = some (goodB l i) := by
      intro a c e h5
      simp only [spec_l5Good.j1, Bool.false_eq_true, if_false]
      have hn := specNames l i hi hl a c e i k 0 (by omega) (by omega)
      have hn' : spec_l5Good.l1 k l (i : Int) 0 a (rd_T56 l (i : Int)).f1 c e = _ := hn
      rw [hn']
      by_cases q : sameB l i 0 = true
      · rw [if_pos q, goodB_not hi (fun z => by obtain ⟨m, _, h6, h7⟩ := (sameB_true l i 0).mp q; exact z.2.2.2.2.2 m h6 h7)]
      · rw [if_neg q, ih (k - i - 1) (i + 1) (by omega) (by omega), goodB_step (i := i) ⟨h1, h2, h3, h4, h5, fun j hj z => q ((sameB_true l i 0).mpr ⟨j, Nat.zero_le _, hj, z⟩)⟩]
    by_cases h0 : (i : Int) > 0
    · have ew' : wrap64 ((i : Int) - 1) = ((i - 1 : Nat) : Int) := (w64 (by omega) (by omega)).trans (by omega)
      have c3 : 0 ≤ ((i - 1 : Nat) : Int) := by omega
      have c4 : ((i - 1 : Nat) : Int) < (l.length : Int) := by omega
      rw [if_pos h0, ew', if_pos c3, if_pos c4]
      by_cases h5 : (rd_T56 l ((i - 1 : Nat) : Int)).f0 ≥ (rd_T56 l (i : Int)).f0
      · rw [decide_eq_true h5, hbad, goodB_not hi (fun z => by have := z.2.2.2.2.1 (by omega); omega)]
      · rw [decide_eq_false h5]
        exact last _ _ _ (fun _ => by omega)
    · rw [if_neg h0]
      exact last _ _ _ (fun z => by omega)
theorem implGood_loop (l : List S56) (hl : l.length ≤ 140737488351232) (d : Nat) : ∀ (k i : Nat), i + d = l.length → d * (l.length + 3) < k →
    impl_ArePeople.l0 k l l (l.length : Int) (i : Int) = some (goodB l i) := by
  induction d with
  | zero =>
    intro k i hd hk
    obtain ⟨k, rfl⟩ : ∃ m, k = m + 1 := ⟨k - 1, by omega⟩
    have c1 : ¬ (i : Int) < (l.length : Int) := by omega
    simp only [impl_ArePeople.l0, if_neg c1]
    refine congrArg some ?_
    rw [Bool.eq_iff_iff, goodB_true, decide_eq_true_eq]
    exact ⟨fun h => ⟨fun m h1 h2 => by omega, by omega⟩, fun h => by have := h.2; omega⟩
  | succ d ih =>
    intro k i hd hk
    rw [Nat.succ_mul] at hk
    obtain ⟨k, rfl⟩ : ∃ m, k = m + 2 := ⟨k - 2, by omega⟩
    have hi : i < l.length := by omega
    have c1 : (i : Int) < (l.length : Int) := by omega
    have c2 : 0 ≤ (i : Int) := by omega
    simp only [impl_ArePeople.l0, if_pos c1, if_pos c2, within_eq, isId_eq, isWord_eq, areSkills_eq, Option.bind_some]
    have hbad : ∀ a c e, impl_ArePeople.j1 (k + 1) l (i : Int) l (l.length : Int) (i : Int) true a (rd_T56 l (i : Int)).f1 c e = some false := fun a c e => by simp [impl_ArePeople.j1]
    by_cases h1 : 1 ≤ (rd_T56 l (i : Int)).f0 ∧ (rd_T56 l (i : Int)).f0 ≤ 99
    case neg =>
      rw [decide_eq_false h1, if_neg (by simp), hbad, goodB_not hi (fun z => h1 z.1)]
    rw [decide_eq_true h1, if_pos rfl]
    by_cases h2 : vWord (rd_T56 l (i : Int)).f1 = true
    case neg =>
      rw [if_neg h2, hbad, goodB_not hi (fun z => h2 z.2.1)]
    rw [if_pos h2]
    by_cases h3 : 0 ≤ (rd_T56 l (i : Int)).f2 ∧ (rd_T56 l (i : Int)).f2 ≤ 15
    case neg =>
      rw [decide_eq_false h3, if_neg (by simp), hbad, goodB_not hi (fun z => h3 z.2.2.1)]
    rw [decide_eq_true h3, if_pos rfl]
    by_cases h4 : 0 ≤ (rd_T56 l (i : Int)).f3 ∧ (rd_T56 l (i : Int)).f3 ≤ 500
    case neg =>
      rw [decide_eq_false h4, if_neg (by simp), hbad, goodB_not hi (fun z => h4 z.2.2.2.1)]
    rw [decide_eq_true h4, if_pos rfl]
    have last : ∀ a c e, (0 < i → (rd_T56 l ((i - 1 : Nat) : Int)).f0 < (rd_T56 l (i : Int)).f0) → impl_ArePeople.j1 (k + 1) l (i : Int) l (l.length : Int) (i : Int) false a (rd_T56 l (i : Int)).f1 c e = some (goodB l i) := by
      intro a c e h5
      have c5 : (i : Int) ≤ (l.length : Int) := by omega
      simp only [impl_ArePeople.j1, Bool.false_eq_true, if_false, if_pos c2, if_pos c5, Option.bind_some, Int.toNat_natCast]
      have hn := implNames l i hi hl a c e i k 0 (by omega) (by omega)
      have hn' : impl_ArePeople.l1 k l l (l.length : Int) (i : Int) (l.take i) ((l.take i).length : Int) 0 a (rd_T56 l (i : Int)).f1 c e = _ := hn
      rw [hn']
      by_cases q : sameB l i 0 = true
      · rw [if_pos q, goodB_not hi (fun z => by obtain ⟨m, _, h6, h7⟩ := (sameB_true l i 0).mp q; exact z.2.2.2.2.2 m h6 h7)]
      · rw [if_neg q, ih (k - i - 1) (i + 1) (by omega) (by omega), goodB_step (i := i) ⟨h1, h2, h3, h4, h5, fun j hj z => q ((sameB_true l i 0).mpr ⟨j, Nat.zero_le _, hj, z⟩)⟩]
    by_cases h0 : (i : Int) > 0
    · have ew' : wrap64 ((i : Int) - 1) = ((i - 1 : Nat) : Int) := (w64 (by omega) (by omega)).trans (by omega)
      have c3 : 0 ≤ ((i - 1 : Nat) : Int) := by omega
      have c4 : ((i - 1 : Nat) : Int) < (l.length : Int) := by omega
      rw [if_pos h0, ew', if_pos c3, if_pos c4]
      by_cases h5 : (rd_T56 l ((i - 1 : Nat) : Int)).f0 ≥ (rd_T56 l (i : Int)).f0
      · rw [decide_eq_true h5, hbad, goodB_not hi (fun z => by have := z.2.2.2.2.1 (by omega); omega)]
      · rw [decide_eq_false h5]
        exact last _ _ _ (fun _ => by omega)
    · rw [if_neg h0]
      exact last _ _ _ (fun z => by omega)
/-- Whether people are valid. -/
noncomputable def goodP (l : List S56) : Bool := goodB l 0
theorem specGood_eq (l : List S56) (hl : l.length ≤ 1048576) (M : Nat) (hM : ∀ x ∈ l, x.f1.size < M ∧ x.f1.size ≤ 140737488351232) {k : Nat} (hk : l.length * (l.length + 3) + M < k) : spec_l5Good.f k l = some (goodP l) :=
  specGood_loop l (by omega) M hM l.length k 0 (by omega) hk
theorem implGood_eq (l : List S56) (hl : l.length ≤ 1048576) {k : Nat} (hk : l.length * (l.length + 3) < k) : impl_ArePeople.f k l = some (goodP l) :=
  implGood_loop l (by omega) l.length k 0 (by omega) hk

theorem szP_loop (l : List S55) (hl : l.length ≤ 140737488351232) (hw : ∀ y ∈ l, y.f1.size ≤ 9223372036854775807) (d : Nat) : ∀ (i : Nat) (left : Int), i + d = l.length → 0 ≤ left → left ≤ 1048576 →
    ∃ t, (∀ k, d < k → laws_szPersonS.l0 k l left (i : Int) = some t) ∧ (t < 0 ∨ ∀ j, i ≤ j → j < l.length → (rd_T55 l (j : Int)).f1.size ≤ 1048576) := by
  induction d with
  | zero =>
    intro i left hi h0 h1
    refine ⟨left, fun k hk => ?_, .inr fun j h1 h2 => by omega⟩
    obtain ⟨k, rfl⟩ : ∃ m, k = m + 1 := ⟨k - 1, by omega⟩
    simp only [laws_szPersonS.l0]
    rw [if_neg (by omega)]
  | succ d ih =>
    intro i left hi h0 h1
    have hlt : i < l.length := by omega
    have c1 : (i : Int) < (l.length : Int) := by omega
    have c2 : 0 ≤ (i : Int) := by omega
    have ew : wrap64 ((i : Int) + 1) = ((i + 1 : Nat) : Int) := (w64 (by omega) (by omega)).trans (by omega)
    have hmem : rd_T55 l (i : Int) ∈ l := by
      have : rd_T55 l (i : Int) = l[i] := by simp [rd_T55, hlt]
      rw [this]
      exact List.getElem_mem hlt
    have hs := hw _ hmem
    have e1 : wrap64 (left - ((rd_T55 l (i : Int)).f1.size : Int)) = left - ((rd_T55 l (i : Int)).f1.size : Int) := w64 (by omega) (by omega)
    by_cases h : left - ((rd_T55 l (i : Int)).f1.size : Int) < 0
    · refine ⟨-1, fun k hk => ?_, .inl (by omega)⟩
      obtain ⟨k, rfl⟩ : ∃ m, k = m + 1 := ⟨k - 1, by omega⟩
      simp only [laws_szPersonS.l0, laws_szPerson.f, if_pos c1, if_pos c2, e1, if_pos h, Option.bind_some]
      rfl
    · obtain ⟨t, ht, hq⟩ := ih (i + 1) (left - ((rd_T55 l (i : Int)).f1.size : Int)) (by omega) (by omega) (by omega)
      refine ⟨t, fun k hk => ?_, hq.imp id fun hq j h3 h4 => ?_⟩
      · obtain ⟨k, rfl⟩ : ∃ m, k = m + 1 := ⟨k - 1, by omega⟩
        simp only [laws_szPersonS.l0, laws_szPerson.f, if_pos c1, if_pos c2, e1, if_neg h, Option.bind_some, ew]
        exact ht k (by omega)
      · rcases Nat.eq_or_lt_of_le h3 with rfl | q
        · omega
        · exact hq j q h4
theorem szP_eq (l : List S55) (hl : l.length ≤ 140737488351232) (hw : ∀ y ∈ l, y.f1.size ≤ 9223372036854775807) : ∃ t, (∀ k, l.length < k → laws_szPersonS.f k l 1048576 = some t) ∧ (t < 0 ∨ (l.length ≤ 1048576 ∧ ∀ y ∈ l, y.f1.size ≤ 1048576)) := by
  have e0 : wrap64 (1048576 - (l.length : Int)) = 1048576 - (l.length : Int) := w64 (by omega) (by omega)
  by_cases h : 1048576 - (l.length : Int) < 0
  · refine ⟨-1, fun k _ => ?_, .inl (by omega)⟩
    unfold laws_szPersonS.f
    rw [e0, if_pos h]
  · obtain ⟨t, ht, hq⟩ := szP_loop l hl hw l.length 0 (1048576 - (l.length : Int)) (by omega) (by omega) (by omega)
    refine ⟨t, fun k hk => ?_, hq.imp id fun hq => ⟨by omega, fun y hy => ?_⟩⟩
    · unfold laws_szPersonS.f
      rw [e0, if_neg h]
      exact ht k hk
    · obtain ⟨j, hj, e⟩ := List.getElem_of_mem hy
      have := hq j (Nat.zero_le _) hj
      have er : rd_T55 l (j : Int) = y := by simp [rd_T55, hj, e]
      rw [er] at this
      exact this

theorem set_step {α : Type} (m : List α) (z : α) (i n : Nat) (hm : m.length = n) (hi : i < n) :
    (m.take i ++ (List.replicate n z).drop i).set i (m[i]'(by omega)) = m.take (i + 1) ++ (List.replicate n z).drop (i + 1) := by
  have e1 : (List.replicate n z).drop i = z :: (List.replicate n z).drop (i + 1) := by
    rw [List.drop_eq_getElem_cons (by simpa using hi)]
    simp
  have e2 : (m.take i).length = i := by simp; omega
  rw [List.set_append_right _ _ (by omega), e2, Nat.sub_self, e1, List.set_cons_zero, List.take_succ_eq_append_getElem (by omega), List.append_assoc]
  rfl

theorem set_to {α : Type} (m r : List α) (i n : Nat) (hm : m.length = n) (hr : r.length = n) (hi : i < n) :
    (m.take i ++ r.drop i).set i (m[i]'(by omega)) = m.take (i + 1) ++ r.drop (i + 1) := by
  have e1 : r.drop i = r[i]'(by omega) :: r.drop (i + 1) := List.drop_eq_getElem_cons (by omega)
  have e2 : (m.take i).length = i := by simp; omega
  rw [List.set_append_right _ _ (by omega), e2, Nat.sub_self, e1, List.set_cons_zero, List.take_succ_eq_append_getElem (by omega), List.append_assoc]
  rfl
theorem eqInts_loop (l : List Int) (hl : l.length ≤ 140737488351232) (d : Nat) : ∀ (k i : Nat), i + d = l.length → d < k → laws_eqIntS.l0 k l l (i : Int) = some true := by
  induction d with
  | zero =>
    intro k i hd hk
    obtain ⟨k, rfl⟩ : ∃ m, k = m + 1 := ⟨k - 1, by omega⟩
    simp only [laws_eqIntS.l0]
    rw [if_neg (by omega)]
  | succ d ih =>
    intro k i hd hk
    obtain ⟨k, rfl⟩ : ∃ m, k = m + 1 := ⟨k - 1, by omega⟩
    have ew : wrap64 ((i : Int) + 1) = ((i + 1 : Nat) : Int) := (w64 (by omega) (by omega)).trans (by omega)
    have c1 : (i : Int) < (l.length : Int) := by omega
    have c2 : 0 ≤ (i : Int) := by omega
    simp only [laws_eqIntS.l0, if_pos c1, if_pos c2, if_true, ew]
    exact ih k (i + 1) (by omega) (by omega)
theorem eqInts_eq (l : List Int) (hl : l.length ≤ 140737488351232) {k : Nat} (hk : l.length < k) : laws_eqIntS.f k l l = some true := by
  unfold laws_eqIntS.f
  rw [if_pos rfl]
  exact eqInts_loop l hl l.length k 0 (by omega) hk
/-- 1, 2, .. -/
def marks (n : Nat) : List Int := (List.range n).map fun (j : Nat) => (j : Int) + 1
theorem marks_len (n : Nat) : (marks n).length = n := by simp [marks]
theorem marks_get (n i : Nat) (h : i < (marks n).length) : (marks n)[i] = (i : Int) + 1 := by simp [marks]
theorem markInts_loop (r : List Int) (hl : r.length ≤ 140737488351232) (d : Nat) : ∀ (k i : Nat), i + d = r.length → d < k →
    laws_markIntS.l0 k ((marks r.length).take i ++ r.drop i) ((i : Int) + 1) (i : Int) = some ((r.length : Int) + 1, marks r.length) := by
  induction d with
  | zero =>
    intro k i hd hk
    obtain ⟨k, rfl⟩ : ∃ m, k = m + 1 := ⟨k - 1, by omega⟩
    have e : i = r.length := by omega
    subst e
    have el : ((marks r.length).take r.length ++ r.drop r.length).length = r.length := by simp [marks_len]
    simp only [laws_markIntS.l0, el]
    rw [if_neg (by omega), List.take_of_length_le (by simp [marks_len]), List.drop_of_length_le (by simp), List.append_nil]
  | succ d ih =>
    intro k i hd hk
    obtain ⟨k, rfl⟩ : ∃ m, k = m + 1 := ⟨k - 1, by omega⟩
    have ew : wrap64 ((i : Int) + 1) = ((i + 1 : Nat) : Int) := (w64 (by omega) (by omega)).trans (by omega)
    have ew2 : wrap64 ((i : Int) + 1 + 1) = ((i + 1 : Nat) : Int) + 1 := (w64 (by omega) (by omega)).trans (by omega)
    have el : ((marks r.length).take i ++ r.drop i).length = r.length := by simp [marks_len]; omega
    have c1 : (i : Int) < (r.length : Int) := by omega
    have c2 : 0 ≤ (i : Int) := by omega
    have es := set_to (marks r.length) r i r.length (marks_len _) rfl (by omega)
    rw [marks_get] at es
    simp only [laws_markIntS.l0, el, if_pos c1, if_pos c2, ew, ew2, Int.toNat_natCast, es]
    exact ih k (i + 1) (by omega) (by omega)
theorem markInts_eq (r : List Int) (hl : r.length ≤ 140737488351232) {k : Nat} (hk : r.length < k) : laws_markIntS.f k r 1 = some ((r.length : Int) + 1, marks r.length) := by
  have h := markInts_loop r hl r.length k 0 (by omega) hk
  unfold laws_markIntS.f
  simpa using h
theorem heldInts_loop (n : Nat) (hl : n ≤ 140737488351232) (d : Nat) : ∀ (k i : Nat), i + d = n → d < k → laws_heldIntS.l0 k (marks n) ((i : Int) + 1) (i : Int) = some ((n : Int) + 1) := by
  induction d with
  | zero =>
    intro k i hd hk
    obtain ⟨k, rfl⟩ : ∃ m, k = m + 1 := ⟨k - 1, by omega⟩
    simp only [laws_heldIntS.l0, marks_len]
    rw [if_neg (by omega)]
    exact congrArg some (by omega)
  | succ d ih =>
    intro k i hd hk
    obtain ⟨k, rfl⟩ : ∃ m, k = m + 1 := ⟨k - 1, by omega⟩
    have ew : wrap64 ((i : Int) + 1) = ((i + 1 : Nat) : Int) := (w64 (by omega) (by omega)).trans (by omega)
    have ew2 : wrap64 ((i : Int) + 1 + 1) = ((i + 1 : Nat) : Int) + 1 := (w64 (by omega) (by omega)).trans (by omega)
    have c1 : (i : Int) < (n : Int) := by omega
    have c2 : 0 ≤ (i : Int) := by omega
    have hr : rd (marks n) (i : Int) = (i : Int) + 1 := by
      unfold rd
      rw [Int.toNat_natCast, List.getD_eq_getElem?_getD, List.getElem?_eq_getElem (by rw [marks_len]; omega), Option.getD_some, marks_get]
    simp only [laws_heldIntS.l0, marks_len, if_pos c1, if_pos c2, hr, if_true, ew, ew2]
    exact ih k (i + 1) (by omega) (by omega)
theorem heldInts_eq (n : Nat) (hl : n ≤ 140737488351232) {k : Nat} (hk : n < k) : laws_heldIntS.f k (marks n) 1 = some ((n : Int) + 1) := by
  have h := heldInts_loop n hl n k 0 (by omega) hk
  unfold laws_heldIntS.f
  simpa using h

/-- The text of a mark: there is one, whatever the fuel. -/
theorem markText_loop : ∀ (n : Nat) (k : Nat) (x : Int) (s : ByteArray), 0 ≤ x → x < 10 ^ n → x ≤ 9223372036854775807 → n < k → s.size + n ≤ 1000 →
    ∃ r, r.size ≤ s.size + n + 1 ∧ ∀ k, n < k → laws_markText.l0 k x s = some r
  | 0, _, x, s, h0, h1, hb, _, hs => by
    have hz : x = 0 := by simp at h1; omega
    subst hz
    refine ⟨(⟨#[109]⟩ : ByteArray) ++ s, by rw [ByteArray.size_append]; show 1 + s.size ≤ _; omega, fun k hk => ?_⟩
    obtain ⟨k, rfl⟩ : ∃ m, k = m + 1 := ⟨k - 1, by omega⟩
    simp only [laws_markText.l0]
    rw [if_neg (by omega), if_pos (by omega)]
  | n + 1, k, x, s, h0, h1, hb, hk, hs => by
    by_cases c : x > 0
    · have ed : Int.tdiv x 10 = x / 10 := Int.tdiv_eq_ediv_of_nonneg h0
      have ew : wrap64 (x / 10) = x / 10 := w64 (by omega) (by omega)
      have hlt : x / 10 < 10 ^ n := by
        rw [Int.pow_succ] at h1
        exact Int.ediv_lt_of_lt_mul (by omega) h1
      have hsz : (strOfNums [(wrap64 (48 + (Int.tmod x 10))) % 256] ++ s).size = s.size + 1 := by
        rw [ByteArray.size_append]
        have : (strOfNums [(wrap64 (48 + (Int.tmod x 10))) % 256]).size = 1 := rfl
        omega
      obtain ⟨r, hr, e⟩ := markText_loop n (n + 1) (x / 10) (strOfNums [(wrap64 (48 + (Int.tmod x 10))) % 256] ++ s) (by omega) hlt (by omega) (by omega) (by omega)
      refine ⟨r, by omega, fun k hk => ?_⟩
      obtain ⟨k, rfl⟩ : ∃ m, k = m + 1 := ⟨k - 1, by omega⟩
      have h1' : (strOfNums [(wrap64 (48 + (Int.tmod x 10))) % 256]).size + s.size ≤ 9223372036854775807 := by
        have : (strOfNums [(wrap64 (48 + (Int.tmod x 10))) % 256]).size = 1 := rfl
        omega
      simp only [laws_markText.l0, if_pos c, Option.bind_some, if_pos h1', ed, ew]
      exact e k (by omega)
    · have hz : x = 0 := by omega
      subst hz
      refine ⟨(⟨#[109]⟩ : ByteArray) ++ s, by rw [ByteArray.size_append]; show 1 + s.size ≤ _; omega, fun k hk => ?_⟩
      obtain ⟨k, rfl⟩ : ∃ m, k = m + 1 := ⟨k - 1, by omega⟩
      simp only [laws_markText.l0]
      rw [if_neg (by omega), if_pos (by omega)]
theorem markText_some (m : Int) (h0 : 0 ≤ m) (h1 : m ≤ 9223372036854775807) : ∃ r, ∀ k, 19 < k → laws_markText.f k m = some r := by
  unfold laws_markText.f
  by_cases c : m ≤ 0
  · exact ⟨_, fun k _ => by rw [if_pos c]⟩
  · obtain ⟨r, _, e⟩ := markText_loop 19 20 m (⟨#[]⟩ : ByteArray) h0 (by omega) h1 (by omega) (by decide)
    exact ⟨r, fun k hk => by rw [if_neg c]; exact e k hk⟩
/-- The mark's text. -/
def mt (m : Int) : ByteArray := (laws_markText.f 20 m).getD ByteArray.empty
theorem mt_eq {m : Int} (h0 : 0 ≤ m) (h1 : m ≤ 9223372036854775807) {k : Nat} (hk : 19 < k) : laws_markText.f k m = some (mt m) := by
  obtain ⟨r, h⟩ := markText_some m h0 h1
  unfold mt
  rw [h k hk, h 20 (by omega)]
  rfl

/-- One person marked. -/
def markStep (l : List S56) (i : Int) (x : Int) (tx : ByteArray) : List S56 :=
  let y1 := l.set i.toNat ⟨x, (rd_T56 l i).f1, (rd_T56 l i).f2, (rd_T56 l i).f3⟩
  let y2 := y1.set i.toNat ⟨(rd_T56 y1 i).f0, tx, (rd_T56 y1 i).f2, (rd_T56 y1 i).f3⟩
  let y3 := y2.set i.toNat ⟨(rd_T56 y2 i).f0, (rd_T56 y2 i).f1, x + 2, (rd_T56 y2 i).f3⟩
  y3.set i.toNat ⟨(rd_T56 y3 i).f0, (rd_T56 y3 i).f1, (rd_T56 y3 i).f2, x + 3⟩
theorem markStep_length (l : List S56) (i : Int) (x : Int) (tx : ByteArray) : (markStep l i x tx).length = l.length := by simp [markStep]
theorem markP_loop (d : Nat) : ∀ (i : Nat) (x : Int) (l : List S56), i + d = l.length → l.length ≤ 2097152 → 0 ≤ x → x + 4 * d ≤ 4611686018427387904 →
    ∃ m l', 0 ≤ m ∧ ∀ k, d + 20 < k → laws_markPersonS.l0 k l x (i : Int) = some (m, l') := by
  induction d with
  | zero =>
    intro i x l hd hl hx _
    refine ⟨x, l, hx, fun k hk => ?_⟩
    obtain ⟨k, rfl⟩ : ∃ m, k = m + 1 := ⟨k - 1, by omega⟩
    simp only [laws_markPersonS.l0]
    rw [if_neg (by omega)]
  | succ d ih =>
    intro i x l hd hl hx hb
    have ew : wrap64 ((i : Int) + 1) = ((i + 1 : Nat) : Int) := (w64 (by omega) (by omega)).trans (by omega)
    have c1 : (i : Int) < (l.length : Int) := by omega
    have c2 : 0 ≤ (i : Int) := by omega
    have e1 : wrap64 (x + 1) = x + 1 := w64 (by omega) (by omega)
    have e2 : wrap64 (x + 1 + 1) = x + 2 := (w64 (by omega) (by omega)).trans (by omega)
    have e3 : wrap64 (x + 2 + 1) = x + 3 := (w64 (by omega) (by omega)).trans (by omega)
    have e4 : wrap64 (x + 3 + 1) = x + 4 := (w64 (by omega) (by omega)).trans (by omega)
    obtain ⟨tx, htx⟩ := markText_some (x + 1) (by omega) (by omega)
    have key : ∀ k, 19 < k → laws_markPersonS.l0 (k + 1) l x (i : Int) = laws_markPersonS.l0 k (markStep l (i : Int) x tx) (x + 4) ((i + 1 : Nat) : Int) := by
      intro k hk
      simp only [laws_markPersonS.l0, if_pos c1, if_pos c2, e1, htx k hk, Option.bind_some, e2, e3, e4, ew]
      rfl
    obtain ⟨m, l', hm, h⟩ := ih (i + 1) (x + 4) (markStep l (i : Int) x tx) (by rw [markStep_length]; omega) (by rw [markStep_length]; omega) (by omega) (by omega)
    refine ⟨m, l', hm, fun k hk => ?_⟩
    obtain ⟨k, rfl⟩ : ∃ m, k = m + 1 := ⟨k - 1, by omega⟩
    rw [key k (by omega)]
    exact h k (by omega)
theorem markP_eq (l : List S56) (hl : l.length ≤ 1048576) : ∃ m l', 0 ≤ m ∧ ∀ k, l.length + 20 < k → laws_markPersonS.f k l 1 = some (m, l') :=
  markP_loop l.length 0 1 l (by omega) (by omega) (by omega) (by omega)

/-- The conversion of a struct, field by field. -/
def cv55 (x : S55) : S56 := ⟨x.f0, x.f1, x.f2, x.f3⟩
theorem laws_toPersonS_loop (l : List S55) (hl : l.length ≤ 140737488351232) (d : Nat) : ∀ (k i : Nat), i + d = l.length → d < k →
    laws_toPersonS.l0 k l ((l.map cv55).take i ++ (List.replicate l.length z56).drop i) (i : Int) = some (l.map cv55) := by
  induction d with
  | zero =>
    intro k i hd hk
    obtain ⟨k, rfl⟩ : ∃ m, k = m + 1 := ⟨k - 1, by omega⟩
    simp only [laws_toPersonS.l0]
    rw [if_neg (by omega)]
    have e : i = l.length := by omega
    subst e
    rw [List.take_of_length_le (by simp), List.drop_of_length_le (by simp), List.append_nil]
  | succ d ih =>
    intro k i hd hk
    obtain ⟨k, rfl⟩ : ∃ m, k = m + 1 := ⟨k - 1, by omega⟩
    have hi : i < l.length := by omega
    have hlen : ((l.map cv55).take i ++ (List.replicate l.length z56).drop i).length = l.length := by simp; omega
    have ew : wrap64 ((i : Int) + 1) = ((i + 1 : Nat) : Int) := (w64 (by omega) (by omega)).trans (by omega)
    have er : rd_T55 l (i : Int) = l[i] := by simp [rd_T55, hi]
    simp only [laws_toPersonS.l0, laws_toPerson.f, Option.bind_some]
    rw [if_pos (by omega), if_pos (by omega), if_pos (by rw [hlen]; omega), ew, er]
    have es : (((l.map cv55).take i ++ (List.replicate l.length z56).drop i).set (i : Int).toNat (cv55 l[i])) = (l.map cv55).take (i + 1) ++ (List.replicate l.length z56).drop (i + 1) := by
      have := set_step (l.map cv55) z56 i l.length (by simp) hi
      simpa using this
    have h := ih k (i + 1) (by omega) (by omega)
    rw [← es] at h
    exact h
theorem laws_toPersonS_eq (l : List S55) (hl : l.length ≤ 2097152) {k : Nat} (hk : l.length < k) : laws_toPersonS.f k l = some (l.map cv55) := by
  unfold laws_toPersonS.f
  rw [if_pos (by omega), if_pos (by rw [Int.toNat_natCast]; omega)]
  have h := laws_toPersonS_loop l (by omega) l.length k 0 (by omega) hk
  simpa using h

theorem laws_eqPerson_same (x : S56) : laws_eqPerson.f x.f0 x.f1 x.f2 x.f3 x.f0 x.f1 x.f2 x.f3 = some true := by unfold laws_eqPerson.f; simp
theorem laws_eqPersonS_loop (l : List S56) (hl : l.length ≤ 140737488351232) (d : Nat) : ∀ (k i : Nat), i + d = l.length → d < k → laws_eqPersonS.l0 k l l (i : Int) = some true := by
  induction d with
  | zero =>
    intro k i hd hk
    obtain ⟨k, rfl⟩ : ∃ m, k = m + 1 := ⟨k - 1, by omega⟩
    simp only [laws_eqPersonS.l0]
    rw [if_neg (by omega)]
  | succ d ih =>
    intro k i hd hk
    obtain ⟨k, rfl⟩ : ∃ m, k = m + 1 := ⟨k - 1, by omega⟩
    have ew : wrap64 ((i : Int) + 1) = ((i + 1 : Nat) : Int) := (w64 (by omega) (by omega)).trans (by omega)
    simp only [laws_eqPersonS.l0, laws_eqPerson_same, Option.bind_some, if_true]
    rw [if_pos (by omega), if_pos (by omega), if_pos (by omega), ew]
    exact ih k (i + 1) (by omega) (by omega)
theorem laws_eqPersonS_eq (l : List S56) (hl : l.length ≤ 140737488351232) {k : Nat} (hk : l.length < k) : laws_eqPersonS.f k l l = some true := by
  unfold laws_eqPersonS.f
  rw [if_pos rfl]
  exact laws_eqPersonS_loop l hl l.length k 0 (by omega) hk

/-- The ids of those who have the skills. -/
def idsWith (l : List S56) (a : Int) : List Int := (l.filter fun x => Go.bits .and .i64 x.f2 a = a).map (·.f0)
theorem with_loops (l : List S56) (a : Int) (hl : l.length ≤ 2097152) : ∀ (xs : List S56) (k n : Nat) (o : List Int), l.drop n = xs → o.length ≤ n → xs.length < k →
    spec_WithSkills.l0 k l a o (n : Int) = some (o ++ idsWith xs a, true) ∧ impl_WithSkills.l0 k a o l (l.length : Int) (n : Int) = some (o ++ idsWith xs a, true)
  | [], k, n, o, hx, ho, hk => by
    obtain ⟨k, rfl⟩ : ∃ m, k = m + 1 := ⟨k - 1, by omega⟩
    have hn : l.length ≤ n := List.drop_eq_nil_iff.mp hx
    simp only [spec_WithSkills.l0, impl_WithSkills.l0, idsWith]
    rw [if_neg (by omega), if_neg (by omega)]
    simp
  | x :: xs, k, n, o, hx, ho, hk => by
    obtain ⟨k, rfl⟩ : ∃ m, k = m + 1 := ⟨k - 1, by omega⟩
    have hn : n < l.length := by
      have := congrArg List.length hx
      simp at this
      omega
    have hd := List.drop_eq_getElem_cons hn
    rw [hx] at hd
    obtain ⟨h1, h2⟩ := List.cons.inj hd
    have ew : wrap64 ((n : Int) + 1) = ((n + 1 : Nat) : Int) := (w64 (by omega) (by omega)).trans (by omega)
    have er : rd_T56 l (n : Int) = x := by simp [rd_T56, hn, h1]
    have c1 : (n : Int) < (l.length : Int) := by omega
    have c2 : 0 ≤ (n : Int) := by omega
    have c3 : o.length < 17592186044416 := by omega
    have hk' : xs.length < k := by simp at hk; omega
    simp only [spec_WithSkills.l0, impl_WithSkills.l0, if_pos c1, if_pos c2, if_pos c3, er, ew]
    by_cases c : Go.bits .and .i64 x.f2 a = a
    · have ih := with_loops l a hl xs k (n + 1) (o ++ [x.f0]) h2.symm (by simp; omega) hk'
      have e : o ++ idsWith (x :: xs) a = o ++ [x.f0] ++ idsWith xs a := by simp [idsWith, c]
      rw [e, if_pos c, if_pos c]
      exact ih
    · have ih := with_loops l a hl xs k (n + 1) o h2.symm (by omega) hk'
      have e : o ++ idsWith (x :: xs) a = o ++ idsWith xs a := by simp [idsWith, c]
      rw [e, if_neg c, if_neg c]
      exact ih
theorem with_eq (l : List S56) (a : Int) (hl : l.length ≤ 1048576) (hM : ∀ x ∈ l, x.f1.size ≤ 1048576) : ∃ r b, (∀ k, l.length * (l.length + 3) + 1048590 < k → spec_WithSkills.f k l a = some (r, b) ∧ impl_WithSkills.f k l a = some (r, b)) ∧ r.length ≤ l.length := by
  have hM' : ∀ x ∈ l, x.f1.size < 1048577 ∧ x.f1.size ≤ 140737488351232 := fun x hx => by have := hM x hx; omega
  have hsq : l.length ≤ l.length * (l.length + 3) := Nat.le_mul_of_pos_right _ (by omega)
  by_cases h : goodP l = true ∧ 0 ≤ a ∧ a ≤ 15
  · refine ⟨idsWith l a, true, fun k hk => ?_, ?_⟩
    · obtain ⟨k, rfl⟩ : ∃ m, k = m + 1 := ⟨k - 1, by omega⟩
      unfold spec_WithSkills.f impl_WithSkills.f
      rw [specGood_eq l hl 1048577 hM' (by omega), implGood_eq l hl (by omega)]
      simp only [Option.bind_some, skills_eq, areSkills_eq, h.1, if_true]
      rw [decide_eq_true h.2]
      have hlo := with_loops l a (by omega) l k 0 [] rfl (by simp) (by omega)
      simp only [spec_WithSkills.j0, impl_WithSkills.j0, Bool.not_true, Bool.false_eq_true, if_false]
      simpa using hlo
    · unfold idsWith
      rw [List.length_map]
      exact List.length_filter_le _ _
  · refine ⟨[], false, fun k hk => ?_, by simp⟩
    obtain ⟨k, rfl⟩ : ∃ m, k = m + 1 := ⟨k - 1, by omega⟩
    unfold spec_WithSkills.f impl_WithSkills.f
    rw [specGood_eq l hl 1048577 hM' (by omega), implGood_eq l hl (by omega)]
    simp only [Option.bind_some, skills_eq, areSkills_eq]
    cases hg : goodP l with
    | false => simp [spec_WithSkills.j0, impl_WithSkills.j0]
    | true =>
      have hn : ¬ (0 ≤ a ∧ a ≤ 15) := fun z => h ⟨hg, z⟩
      rw [decide_eq_false hn]
      simp [spec_WithSkills.j0, impl_WithSkills.j0]

theorem FnExactWithSkills : Asked := by
  intro l a hl hw _
  obtain ⟨t, ht, hq⟩ := szP_eq l (by omega) (fun y hy => by have := (hw y hy).2.1; unfold maxLen at this; exact this)
  by_cases c : t < 0
  · refine ⟨l.length + 1, ?_⟩
    unfold laws_FnExactWithSkills.f
    rw [ht _ (by omega)]
    simp only [Option.bind_some]
    rw [if_pos c]
  · have hb := hq.elim (fun z => absurd z c) id
    have hlen : (l.map cv55).length = l.length := by simp
    have hM : ∀ x ∈ l.map cv55, x.f1.size ≤ 1048576 := by
      intro x hx
      obtain ⟨y, hy, rfl⟩ := List.mem_map.mp hx
      exact hb.2 y hy
    obtain ⟨r, b, h, hr⟩ := with_eq (l.map cv55) a (by omega) hM
    rw [hlen] at h hr
    obtain ⟨m, l', hm0, hm⟩ := markP_eq (l.map cv55) (by omega)
    rw [hlen] at hm
    have hmi : ∀ k, r.length < k → laws_markIntS.f k r 1 = some ((r.length : Int) + 1, marks r.length) := fun k hk => markInts_eq r (by omega) hk
    have hhe : ∀ k, r.length < k → laws_heldIntS.f k (marks r.length) 1 = some ((r.length : Int) + 1) := fun k hk => heldInts_eq r.length (by omega) hk
    have heq : ∀ k, r.length < k → laws_eqIntS.f k r r = some true := fun k hk => eqInts_eq r (by omega) hk
    have hto : ∀ k, l.length < k → laws_toPersonS.f k l = some (l.map cv55) := fun k hk => laws_toPersonS_eq l (by omega) hk
    have hep : ∀ k, l.length < k → laws_eqPersonS.f k (l.map cv55) (l.map cv55) = some true := fun k hk => laws_eqPersonS_eq (l.map cv55) (by omega) (by omega)
    obtain ⟨K, hK⟩ : ∃ K, K = l.length * (l.length + 3) + l.length + 1048700 := ⟨_, rfl⟩
    obtain ⟨K, rfl⟩ : ∃ Q, K = Q + 4 := ⟨K - 4, by omega⟩
    refine ⟨K + 4, ?_⟩
    unfold laws_FnExactWithSkills.f
    rw [ht _ (by omega)]
    simp only [Option.bind_some]
    rw [if_neg c, hto _ (by omega)]
    simp only [Option.bind_some, (h (K + 4) (by omega)).1, (h (K + 4) (by omega)).2, heq (K + 4) (by omega), if_true]
    simp only [laws_FnExactWithSkills.j0, bne_self_eq_false, Bool.false_eq_true, if_false, hto (K + 3) (by omega), Option.bind_some, hep (K + 3) (by omega), if_true, hm (K + 3) (by omega)]
    rw [if_neg (by omega), heq (K + 3) (by omega)]
    simp only [Option.bind_some, if_true, laws_FnExactWithSkills.j1, bne_self_eq_false, Bool.false_eq_true, if_false, hmi (K + 2) (by omega), hhe (K + 2) (by omega)]
    rw [if_neg (by omega)]
    simp only [hto (K + 2) (by omega), Option.bind_some, (h (K + 2) (by omega)).2, heq (K + 2) (by omega), if_true, laws_FnExactWithSkills.j2, bne_self_eq_false, Bool.false_eq_true, if_false, hhe (K + 1) (by omega)]
    rw [if_neg (by omega)]
end Go.Proofs.YtafdklajmklmkaaDoor.Pure
