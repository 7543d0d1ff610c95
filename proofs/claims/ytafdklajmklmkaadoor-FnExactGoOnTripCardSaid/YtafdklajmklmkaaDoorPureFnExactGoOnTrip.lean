/- The pure statement of the law of GoOnTrip: true for every list of people and of ids; no condition but the reach. -/
import Derived.Test.YtafdklajmklmkaaDoorAskFnExactGoOnTrip
namespace Go.Proofs.YtafdklajmklmkaaDoor.Pure
open Go.RowKit Go.Proofs.YtafdklajmklmkaaDoor.XFnExactGoOnTrip Go.Proofs.YtafdklajmklmkaaDoor.AskFnExactGoOnTrip Go.Proofs.YtafdklajmklmkaaDoorW.PrintWords Go.Proofs.YtafdklajmklmkaaDoorW.PrintLast
set_option linter.unusedVariables false
set_option linter.unusedSimpArgs false

theorem w64 {x : Int} (h0 : -9223372036854775808 ≤ x) (h1 : x ≤ 9223372036854775807) : wrap64 x = x := by
  unfold wrap64
  omega

/-- A text cut at a byte. -/
def sp (c : UInt8) (cur : List UInt8) : List UInt8 → List (List UInt8)
  | [] => [cur]
  | b :: l => if b = c then cur :: sp c [] l else sp c (cur ++ [b]) l
def mkB (l : List UInt8) : ByteArray := ⟨l.toArray⟩
theorem sp_length (c : UInt8) : ∀ (l cur : List UInt8), (sp c cur l).length ≤ l.length + 1
  | [], _ => Nat.le_refl _
  | b :: l, cur => by
    unfold sp
    split
    · have := sp_length c l []; simp only [List.length_cons]; omega
    · have := sp_length c l (cur ++ [b]); simp only [List.length_cons]; omega
theorem extract_mk (s : ByteArray) (i j : Nat) : s.extract i j = mkB ((s.data.toList.take j).drop i) := by
  apply ByteArray.ext
  rw [ByteArray.data_extract]
  apply Array.ext'
  simp [mkB, List.drop_take]
theorem size_data (s : ByteArray) : s.data.toList.length = s.size := Array.length_toList
theorem mk_data (s : ByteArray) : mkB s.data.toList = s := by simp [mkB]
theorem bt_list (s : ByteArray) (i : Nat) (h : i < s.size) : bt s (i : Int) = ((s.data.toList[i]'(by rw [size_data]; exact h)).toNat : Int) := by
  unfold bt
  rw [dif_pos (show (i : Int).toNat < s.size by omega)]
  rfl
theorem toNat_eq {x y : UInt8} : (x.toNat : Int) = (y.toNat : Int) ↔ x = y := by
  constructor
  · intro h
    exact UInt8.toNat_inj.mp (by omega)
  · intro h
    rw [h]
theorem idx_none (c : UInt8) : ∀ (l cur : List UInt8), Lib.indexByte l c < 0 → sp c cur l = [cur ++ l]
  | [], cur, _ => by simp [sp]
  | b :: l, cur, h => by
    unfold Lib.indexByte at h
    by_cases e : b = c
    · simp [e] at h
    · have hb : (b == c) = false := by simp [e]
      rw [hb] at h
      simp only [Bool.false_eq_true, if_false] at h
      have g := Lib.indexByte_ge l c
      have h2 : Lib.indexByte l c < 0 := by
        by_cases z : (Lib.indexByte l c == -1) = true
        · have := eq_of_beq z; omega
        · rw [if_neg z] at h; omega
      unfold sp
      rw [if_neg e, idx_none c l _ h2, List.append_assoc, List.singleton_append]
theorem idx_some (c : UInt8) : ∀ (l cur : List UInt8), 0 ≤ Lib.indexByte l c → (Lib.indexByte l c).toNat < l.length ∧ sp c cur l = (cur ++ l.take (Lib.indexByte l c).toNat) :: sp c [] (l.drop ((Lib.indexByte l c).toNat + 1))
  | [], cur, h => by simp [Lib.indexByte] at h
  | b :: l, cur, h => by
    unfold Lib.indexByte at h ⊢
    by_cases e : b = c
    · simp [e, sp]
    · have hb : (b == c) = false := by simp [e]
      rw [hb] at h ⊢
      simp only [Bool.false_eq_true, if_false] at h ⊢
      by_cases z : (Lib.indexByte l c == -1) = true
      · rw [if_pos z] at h; omega
      · rw [if_neg z] at h ⊢
        have g := Lib.indexByte_ge l c
        have h2 : 0 ≤ Lib.indexByte l c := by
          have : ¬ Lib.indexByte l c = -1 := fun q => z (by simp [q])
          omega
        obtain ⟨i1, i2⟩ := idx_some c l (cur ++ [b]) h2
        have et : (Lib.indexByte l c + 1).toNat = (Lib.indexByte l c).toNat + 1 := by omega
        rw [et]
        refine ⟨by simp only [List.length_cons]; omega, ?_⟩
        rw [show sp c cur (b :: l) = sp c (cur ++ [b]) l from if_neg e, i2, List.take_succ_cons, List.drop_succ_cons, List.append_assoc, List.singleton_append]
theorem u8_round (x : Int) (h0 : 0 ≤ x) (h1 : x ≤ 255) : ((x.toNat.toUInt8).toNat : Int) = x := by
  have e : (x.toNat.toUInt8).toNat = x.toNat % 256 := by simp [Nat.toUInt8]
  rw [e]; omega

theorem l1In_eq (a b c : Int) : spec_l1In.f a b c = some (decide (b ≤ a ∧ a ≤ c)) := by
  unfold spec_l1In.f
  by_cases h : a ≥ b
  · rw [if_pos h]
    have h' : b ≤ a := h
    simp [h']
  · rw [if_neg h]
    have h' : ¬ b ≤ a := h
    simp [h']

theorem letters_has : ∀ b : Fin 256, ([97, 98, 99, 100, 101, 102, 103, 104, 105, 106, 107, 108, 109, 110, 111, 112, 113, 114, 115, 116, 117, 118, 119, 120, 121, 122] : List UInt8).contains (UInt8.ofNat b.val) = decide (97 ≤ b.val ∧ b.val ≤ 122) := by decide +kernel
theorem letters_at (b : UInt8) : ([97, 98, 99, 100, 101, 102, 103, 104, 105, 106, 107, 108, 109, 110, 111, 112, 113, 114, 115, 116, 117, 118, 119, 120, 121, 122] : List UInt8).contains b = decide (97 ≤ b.toNat ∧ b.toNat ≤ 122) := by
  have h := letters_has ⟨b.toNat, b.toNat_lt⟩
  simp only [UInt8.ofNat_toNat] at h
  exact h
theorem dropWhile_nil {α : Type} (p : α → Bool) : ∀ l : List α, l.dropWhile p = [] ↔ ∀ x ∈ l, p x = true
  | [] => by simp
  | x :: l => by
    rw [List.dropWhile_cons]
    cases h : p x with
    | true => simp only [if_true, dropWhile_nil p l, List.mem_cons, forall_eq_or_imp, h, true_and]
    | false => simp [h]
theorem takeWhile_all {α : Type} (p : α → Bool) : ∀ (l : List α) (x : α), x ∈ l.takeWhile p → p x = true
  | [], x, h => by simp at h
  | y :: l, x, h => by
    rw [List.takeWhile_cons] at h
    cases hy : p y with
    | false => rw [hy] at h; simp at h
    | true =>
      rw [hy] at h
      simp only [if_true, List.mem_cons] at h
      rcases h with rfl | h
      · exact hy
      · exact takeWhile_all p l x h
theorem trimS_nil (l cs : List UInt8) : Lib.trimS l cs = [] ↔ ∀ x ∈ l, cs.contains x = true := by
  unfold Lib.trimS Lib.trimLeftS Lib.trimRightS
  rw [dropWhile_nil]
  constructor
  · intro h x hx
    have hs : l.reverse = l.reverse.takeWhile (cs.contains ·) ++ l.reverse.dropWhile (cs.contains ·) := (List.takeWhile_append_dropWhile).symm
    have hx' : x ∈ l.reverse := List.mem_reverse.mpr hx
    rw [hs] at hx'
    rcases List.mem_append.mp hx' with h1 | h1
    · exact takeWhile_all _ _ _ h1
    · exact h x (List.mem_reverse.mpr h1)
  · intro h x hx
    have hx' := List.mem_reverse.mp hx
    exact h x (List.mem_reverse.mp (List.dropWhile_sublist _ |>.mem hx'))
/-- A word: one to ten small letters. -/
def vWord (s : ByteArray) : Bool := decide ((1 ≤ s.size ∧ s.size ≤ 10) ∧ ∀ b ∈ s.data.toList, 97 ≤ b.toNat ∧ b.toNat ≤ 122)
theorem isWord_eq (s : ByteArray) : impl_isWord.f s = some (vWord s) := by
  unfold impl_isWord.f vWord
  by_cases c1 : (s.size : Int) ≥ 1
  · by_cases c2 : (s.size : Int) ≤ 10
    · rw [if_pos c1, if_pos c2]
      have ht : strings_Trim.f s (⟨#[97, 98, 99, 100, 101, 102, 103, 104, 105, 106, 107, 108, 109, 110, 111, 112, 113, 114, 115, 116, 117, 118, 119, 120, 121, 122]⟩ : ByteArray) = some (⟨(Lib.trimS s.data.toList [97, 98, 99, 100, 101, 102, 103, 104, 105, 106, 107, 108, 109, 110, 111, 112, 113, 114, 115, 116, 117, 118, 119, 120, 121, 122]).toArray⟩ : ByteArray) := by
        unfold strings_Trim.f
        rw [if_pos ⟨by omega, by decide, by decide⟩]
      rw [ht]
      simp only [Option.bind_some]
      refine congrArg some ?_
      rw [Lib.toList_data]
      have e : (Lib.trimS s.data.toList [97, 98, 99, 100, 101, 102, 103, 104, 105, 106, 107, 108, 109, 110, 111, 112, 113, 114, 115, 116, 117, 118, 119, 120, 121, 122] = []) = ((1 ≤ s.size ∧ s.size ≤ 10) ∧ ∀ b ∈ s.data.toList, 97 ≤ b.toNat ∧ b.toNat ≤ 122) := by
        apply propext
        rw [trimS_nil]
        constructor
        · intro h
          refine ⟨by omega, fun b hb => ?_⟩
          have := h b hb
          rw [letters_at] at this
          exact of_decide_eq_true this
        · intro h b hb
          rw [letters_at]
          exact decide_eq_true (h.2 b hb)
      rw [Bool.eq_iff_iff]
      simp only [beq_iff_eq, decide_eq_true_eq]
      rw [← e]
    · rw [if_pos c1, if_neg c2]
      exact congrArg some (decide_eq_false (fun h => c2 (by omega))).symm
  · rw [if_neg c1]
    exact congrArg some (decide_eq_false (fun h => c1 (by omega))).symm
theorem word_loop (s : ByteArray) (hs : s.size ≤ 140737488351232) (d : Nat) : ∀ (k i : Nat), i + d = s.size → d < k →
    spec_l2Word.l0 k s (i : Int) = some (decide ((1 ≤ s.size ∧ s.size ≤ 10) ∧ ∀ b ∈ s.data.toList.drop i, 97 ≤ b.toNat ∧ b.toNat ≤ 122)) := by
  induction d with
  | zero =>
    intro k i hi hk
    obtain ⟨k, rfl⟩ : ∃ m, k = m + 1 := ⟨k - 1, by omega⟩
    have c1 : ¬ (i : Int) < (s.size : Int) := by omega
    have hd : s.data.toList.drop i = [] := List.drop_of_length_le (by rw [size_data]; omega)
    simp only [spec_l2Word.l0, if_neg c1, l1In_eq, Option.bind_some, hd]
    refine congrArg some (decide_eq_decide.mpr ?_)
    simp only [List.not_mem_nil, false_implies, implies_true, and_true]
    omega
  | succ d ih =>
    intro k i hi hk
    obtain ⟨k, rfl⟩ : ∃ m, k = m + 1 := ⟨k - 1, by omega⟩
    have hlt : i < s.data.toList.length := by rw [size_data]; omega
    have c1 : (i : Int) < (s.size : Int) := by omega
    have c2 : 0 ≤ (i : Int) := by omega
    have hd := List.drop_eq_getElem_cons hlt
    have eb := bt_list s i (by omega)
    have ew : wrap64 ((i : Int) + 1) = ((i + 1 : Nat) : Int) := (w64 (by omega) (by omega)).trans (by omega)
    simp only [spec_l2Word.l0, if_pos c1, if_pos c2, eb, ew]
    rw [hd]
    generalize s.data.toList[i] = b
    by_cases h1 : (b.toNat : Int) < 97
    · rw [if_pos h1]
      refine congrArg some (decide_eq_false (fun h => ?_)).symm
      have := h.2 b List.mem_cons_self
      omega
    · by_cases h2 : (b.toNat : Int) > 122
      · rw [if_neg h1, if_pos h2]
        refine congrArg some (decide_eq_false (fun h => ?_)).symm
        have := h.2 b List.mem_cons_self
        omega
      · rw [if_neg h1, if_neg h2, ih k (i + 1) (by omega) (by omega)]
        refine congrArg some (decide_eq_decide.mpr ?_)
        simp only [List.mem_cons, forall_eq_or_imp]
        exact ⟨fun h => ⟨h.1, by omega, h.2⟩, fun h => ⟨h.1, h.2.2⟩⟩
theorem l2Word_eq (s : ByteArray) (hs : s.size ≤ 140737488351232) {k : Nat} (hk : s.size < k) : spec_l2Word.f k s = some (vWord s) := by
  unfold spec_l2Word.f vWord
  have h := word_loop s hs s.size k 0 (by omega) hk
  simpa using h

theorem within_eq (a b c : Int) : impl_within.f a b c = some (decide (b ≤ a ∧ a ≤ c)) := by
  unfold impl_within.f
  by_cases h : a ≥ b
  · rw [if_pos h]
    have h' : b ≤ a := h
    simp [h']
  · rw [if_neg h]
    have h' : ¬ b ≤ a := h
    simp [h']

/-- Person i is fit, behind and beside those ahead of it. -/
def okAt (l : List S56) (i : Nat) : Prop := (1 ≤ (rd_T56 l (i : Int)).f0 ∧ (rd_T56 l (i : Int)).f0 ≤ 99) ∧ vWord (rd_T56 l (i : Int)).f1 = true ∧ (0 ≤ (rd_T56 l (i : Int)).f2 ∧ (rd_T56 l (i : Int)).f2 ≤ 15) ∧ (0 ≤ (rd_T56 l (i : Int)).f3 ∧ (rd_T56 l (i : Int)).f3 ≤ 500) ∧ (0 < i → (rd_T56 l ((i - 1 : Nat) : Int)).f0 < (rd_T56 l (i : Int)).f0) ∧ ∀ j, j < i → ¬ (rd_T56 l (j : Int)).f1.toList = (rd_T56 l (i : Int)).f1.toList
def goodFrom (l : List S56) (i : Nat) : Prop := (∀ m, i ≤ m → m < l.length → okAt l m) ∧ l.length ≤ 10
noncomputable def goodB (l : List S56) (i : Nat) : Bool := @decide (goodFrom l i) (Classical.propDecidable _)
theorem goodB_true (l : List S56) (i : Nat) : goodB l i = true ↔ goodFrom l i := by unfold goodB; simp
theorem goodB_step {l : List S56} {i : Nat} (h : okAt l i) : goodB l i = goodB l (i + 1) := by
  rw [Bool.eq_iff_iff, goodB_true, goodB_true]
  refine ⟨fun g => ⟨fun m h1 h2 => g.1 m (by omega) h2, g.2⟩, fun g => ⟨fun m h1 h2 => ?_, g.2⟩⟩
  rcases Nat.eq_or_lt_of_le h1 with rfl | hlt
  · exact h
  · exact g.1 m hlt h2
theorem goodB_not {l : List S56} {i : Nat} (hi : i < l.length) (h : ¬ okAt l i) : goodB l i = false := by
  rw [← Bool.not_eq_true, goodB_true]
  exact fun g => h (g.1 i (Nat.le_refl _) hi)
/-- Somebody from place j on, ahead of i, has the name of person i. -/
def sameP (l : List S56) (i j : Nat) : Prop := ∃ m, j ≤ m ∧ m < i ∧ (rd_T56 l (m : Int)).f1.toList = (rd_T56 l (i : Int)).f1.toList
noncomputable def sameB (l : List S56) (i j : Nat) : Bool := @decide (sameP l i j) (Classical.propDecidable _)
theorem sameB_true (l : List S56) (i j : Nat) : sameB l i j = true ↔ sameP l i j := by unfold sameB; simp
theorem sameB_end (l : List S56) (i j : Nat) (h : i ≤ j) : sameB l i j = false := by
  rw [← Bool.not_eq_true, sameB_true]
  rintro ⟨m, h1, h2, _⟩
  omega
theorem sameB_hit (l : List S56) (i j : Nat) (hj : j < i) (h : (rd_T56 l (j : Int)).f1.toList = (rd_T56 l (i : Int)).f1.toList) : sameB l i j = true := (sameB_true l i j).mpr ⟨j, Nat.le_refl _, hj, h⟩
theorem sameB_step (l : List S56) (i j : Nat) (h : ¬ (rd_T56 l (j : Int)).f1.toList = (rd_T56 l (i : Int)).f1.toList) : sameB l i (j + 1) = sameB l i j := by
  rw [Bool.eq_iff_iff, sameB_true, sameB_true]
  constructor
  · rintro ⟨m, h1, h2, h3⟩
    exact ⟨m, by omega, h2, h3⟩
  · rintro ⟨m, h1, h2, h3⟩
    rcases Nat.eq_or_lt_of_le h1 with rfl | q
    · exact absurd h3 h
    · exact ⟨m, q, h2, h3⟩
theorem specNames (l : List S56) (i : Nat) (hi : i < l.length) (hl : l.length ≤ 140737488351232) (a : Int) (c d : Int) (e : Nat) : ∀ (k j : Nat), j + e = i → e < k →
    spec_l5Good.l1 k l (i : Int) (j : Int) a (rd_T56 l (i : Int)).f1 c d = if sameB l i j = true then some false else spec_l5Good.l0 (k - e - 1) l ((i + 1 : Nat) : Int) := by
  induction e with
  | zero =>
    intro k j hj hk
    obtain ⟨k, rfl⟩ : ∃ m, k = m + 1 := ⟨k - 1, by omega⟩
    have c1 : ¬ (j : Int) < (i : Int) := by omega
    have ew : wrap64 ((i : Int) + 1) = ((i + 1 : Nat) : Int) := (w64 (by omega) (by omega)).trans (by omega)
    simp only [spec_l5Good.l1, if_neg c1, ew]
    rw [sameB_end l i j (by omega), if_neg (by simp)]
    rfl
  | succ e ih =>
    intro k j hj hk
    obtain ⟨k, rfl⟩ : ∃ m, k = m + 1 := ⟨k - 1, by omega⟩
    have c1 : (j : Int) < (i : Int) := by omega
    have c2 : 0 ≤ (j : Int) := by omega
    have c3 : (j : Int) < (l.length : Int) := by omega
    have ew : wrap64 ((j : Int) + 1) = ((j + 1 : Nat) : Int) := (w64 (by omega) (by omega)).trans (by omega)
    simp only [spec_l5Good.l1, if_pos c1, if_pos c2, if_pos c3, ew]
    by_cases h : (rd_T56 l (j : Int)).f1.toList = (rd_T56 l (i : Int)).f1.toList
    · rw [if_pos h, sameB_hit l i j (by omega) h, if_pos rfl]
    · have e2 : k + 1 - (e + 1) - 1 = k - e - 1 := by omega
      rw [if_neg h, ih k (j + 1) (by omega) (by omega), e2, sameB_step l i j h]
theorem rd_take (l : List S56) (i j : Nat) (h : j < i) : rd_T56 (l.take i) (j : Int) = rd_T56 l (j : Int) := by
  unfold rd_T56
  rw [Int.toNat_natCast, List.getD_eq_getElem?_getD, List.getD_eq_getElem?_getD, List.getElem?_take, if_pos h]
theorem implNames (l : List S56) (i : Nat) (hi : i < l.length) (hl : l.length ≤ 140737488351232) (a : Int) (c d : Int) (e : Nat) : ∀ (k j : Nat), j + e = i → e < k →
    impl_ArePeople.l1 k l l (l.length : Int) (i : Int) (l.take i) ((l.take i).length : Int) (j : Int) a (rd_T56 l (i : Int)).f1 c d = if sameB l i j = true then some false else impl_ArePeople.l0 (k - e - 1) l l (l.length : Int) ((i + 1 : Nat) : Int) := by
  have ht : (l.take i).length = i := by rw [List.length_take]; omega
  induction e with
  | zero =>
    intro k j hj hk
    obtain ⟨k, rfl⟩ : ∃ m, k = m + 1 := ⟨k - 1, by omega⟩
    have c1 : ¬ (j : Int) < ((l.take i).length : Int) := by omega
    have ew : wrap64 ((i : Int) + 1) = ((i + 1 : Nat) : Int) := (w64 (by omega) (by omega)).trans (by omega)
    simp only [impl_ArePeople.l1, if_neg c1, ew]
    rw [sameB_end l i j (by omega), if_neg (by simp)]
    rfl
  | succ e ih =>
    intro k j hj hk
    obtain ⟨k, rfl⟩ : ∃ m, k = m + 1 := ⟨k - 1, by omega⟩
    have c1 : (j : Int) < ((l.take i).length : Int) := by omega
    have c2 : 0 ≤ (j : Int) := by omega
    have ew : wrap64 ((j : Int) + 1) = ((j + 1 : Nat) : Int) := (w64 (by omega) (by omega)).trans (by omega)
    simp only [impl_ArePeople.l1, if_pos c1, if_pos c2, ew, rd_take l i j (by omega)]
    by_cases h : (rd_T56 l (j : Int)).f1.toList = (rd_T56 l (i : Int)).f1.toList
    · rw [if_pos h, sameB_hit l i j (by omega) h, if_pos rfl]
    · have e2 : k + 1 - (e + 1) - 1 = k - e - 1 := by omega
      rw [if_neg h, ih k (j + 1) (by omega) (by omega), e2, sameB_step l i j h]
theorem skills_eq (x : Int) : spec_l5Skills.f x = some (decide (0 ≤ x ∧ x ≤ 15)) := by unfold spec_l5Skills.f; rw [l1In_eq]; rfl
theorem areSkills_eq (x : Int) : impl_areSkills.f x = some (decide (0 ≤ x ∧ x ≤ 15)) := by unfold impl_areSkills.f; rw [within_eq]; rfl
theorem isId_eq (x : Int) : impl_isId.f x = some (decide (1 ≤ x ∧ x ≤ 99)) := by unfold impl_isId.f; rw [within_eq]; rfl
theorem specGood_loop (l : List S56) (hl : l.length ≤ 140737488351232) (M : Nat) (hM : ∀ x ∈ l, x.f1.size < M ∧ x.f1.size ≤ 140737488351232) (d : Nat) : ∀ (k i : Nat), i + d = l.length → d * (l.length + 3) + M < k →
    spec_l5Good.l0 k l (i : Int) = some (goodB l i) := by
  induction d with
  | zero =>
    intro k i hd hk
    obtain ⟨k, rfl⟩ : ∃ m, k = m + 1 := ⟨k - 1, by omega⟩
    have c1 : ¬ (i : Int) < (l.length : Int) := by omega
    simp only [spec_l5Good.l0, if_neg c1]
    refine congrArg some ?_
    rw [Bool.eq_iff_iff, goodB_true, decide_eq_true_eq]
    exact ⟨fun h => ⟨fun m h1 h2 => by omega, by omega⟩, fun h => by have := h.2; omega⟩
  | succ d ih =>
    intro k i hd hk
    rw [Nat.succ_mul] at hk
    obtain ⟨k, rfl⟩ : ∃ m, k = m + 2 := ⟨k - 2, by omega⟩
    have hi : i < l.length := by omega
    have c1 : (i : Int) < (l.length : Int) := by omega
    have c2 : 0 ≤ (i : Int) := by omega
    have hmem : rd_T56 l (i : Int) ∈ l := by
      have : rd_T56 l (i : Int) = l[i] := by simp [rd_T56, hi]
      rw [this]
      exact List.getElem_mem hi
    have hw := hM _ hmem
    simp only [spec_l5Good.l0, if_pos c1, if_pos c2, l1In_eq, l2Word_eq _ hw.2 (show (rd_T56 l (i : Int)).f1.size < k + 1 by omega), skills_eq, Option.bind_some]
    have hbad : ∀ a c e, spec_l5Good.j1 (k + 1) l (i : Int) true a (rd_T56 l (i : Int)).f1 c e = some false := fun a c e => by simp [spec_l5Good.j1]
    by_cases h1 : 1 ≤ (rd_T56 l (i : Int)).f0 ∧ (rd_T56 l (i : Int)).f0 ≤ 99
    case neg =>
      rw [decide_eq_false h1, if_neg (by simp), hbad, goodB_not hi (fun z => h1 z.1)]
    rw [decide_eq_true h1, if_pos rfl]
    by_cases h2 : vWord (rd_T56 l (i : Int)).f1 = true
    case neg =>
      rw [if_neg h2, hbad, goodB_not hi (fun z => h2 z.2.1)]
    rw [if_pos h2]
    by_cases h3 : 0 ≤ (rd_T56 l (i : Int)).f2 ∧ (rd_T56 l (i : Int)).f2 ≤ 15
    case neg =>
      rw [decide_eq_false h3, if_neg (by simp), hbad, goodB_not hi (fun z => h3 z.2.2.1)]
    rw [decide_eq_true h3, if_pos rfl]
    by_cases h4 : 0 ≤ (rd_T56 l (i : Int)).f3 ∧ (rd_T56 l (i : Int)).f3 ≤ 500
    case neg =>
      rw [decide_eq_false h4, if_neg (by simp), hbad, goodB_not hi (fun z => h4 z.2.2.2.1)]
    rw [decide_eq_true h4, if_pos rfl]
    have last : ∀ a c e, (0 < i → (rd_T56 l ((i - 1 : Nat) : Int)).f0 < (rd_T56 l (i : Int)).f0) → spec_l5Good.j1 (k + 1) l (i : Int) false a (rd_T56 l (i : Int)).f1 c e = some (goodB l i) := by
      intro a c e h5
      simp only [spec_l5Good.j1, Bool.false_eq_true, if_false]
      have hn := specNames l i hi hl a c e i k 0 (by omega) (by omega)
      have hn' : spec_l5Good.l1 k l (i : Int) 0 a (rd_T56 l (i : Int)).f1 c e = _ := hn
      rw [hn']
      by_cases q : sameB l i 0 = true
      · rw [if_pos q, goodB_not hi (fun z => by obtain ⟨m, _, h6, h7⟩ := (sameB_true l i 0).mp q; exact z.2.2.2.2.2 m h6 h7)]
      · rw [if_neg q, ih (k - i - 1) (i + 1) (by omega) (by omega), goodB_step (i := i) ⟨h1, h2, h3, h4, h5, fun j hj z => q ((sameB_true l i 0).mpr ⟨j, Nat.zero_le _, hj, z⟩)⟩]
    by_cases h0 : (i : Int) > 0
    · have ew' : wrap64 ((i : Int) - 1) = ((i - 1 : Nat) : Int) := (w64 (by omega) (by omega)).trans (by omega)
      have c3 : 0 ≤ ((i - 1 : Nat) : Int) := by omega
      have c4 : ((i - 1 : Nat) : Int) < (l.length : Int) := by omega
      rw [if_pos h0, ew', if_pos c3, if_pos c4]
      by_cases h5 : (rd_T56 l ((i - 1 : Nat) : Int)).f0 ≥ (rd_T56 l (i : Int)).f0
      · rw [decide_eq_true h5, hbad, goodB_not hi (fun z => by have := z.2.2.2.2.1 (by omega); omega)]
      · rw [decide_eq_false h5]
        exact last _ _ _ (fun _ => by omega)
    · rw [if_neg h0]
      exact last _ _ _ (fun z => by omega)
theorem implGood_loop (l : List S56) (hl : l.length ≤ 140737488351232) (d : Nat) : ∀ (k i : Nat), i + d = l.length → d * (l.length + 3) < k →
    impl_ArePeople.l0 k l l (l.length : Int) (i : Int) = some (goodB l i) := by
  induction d with
  | zero =>
    intro k i hd hk
    obtain ⟨k, rfl⟩ : ∃ m, k = m + 1 := ⟨k - 1, by omega⟩
    have c1 : ¬ (i : Int) < (l.length : Int) := by omega
    simp only [impl_ArePeople.l0, if_neg c1]
    refine congrArg some ?_
    rw [Bool.eq_iff_iff, goodB_true, decide_eq_true_eq]
    exact ⟨fun h => ⟨fun m h1 h2 => by omega, by omega⟩, fun h => by have := h.2; omega⟩
  | succ d ih =>
    intro k i hd hk
    rw [Nat.succ_mul] at hk
    obtain ⟨k, rfl⟩ : ∃ m, k = m + 2 := ⟨k - 2, by omega⟩
    have hi : i < l.length := by omega
    have c1 : (i : Int) < (l.length : Int) := by omega
    have c2 : 0 ≤ (i : Int) := by omega
    simp only [impl_ArePeople.l0, if_pos c1, if_pos c2, within_eq, isId_eq, isWord_eq, areSkills_eq, Option.bind_some]
    have hbad : ∀ a c e, impl_ArePeople.j1 (k + 1) l (i : Int) l (l.length : Int) (i : Int) true a (rd_T56 l (i : Int)).f1 c e = some false := fun a c e => by simp [impl_ArePeople.j1]
    by_cases h1 : 1 ≤ (rd_T56 l (i : Int)).f0 ∧ (rd_T56 l (i : Int)).f0 ≤ 99
    case neg =>
      rw [decide_eq_false h1, if_neg (by simp), hbad, goodB_not hi (fun z => h1 z.1)]
    rw [decide_eq_true h1, if_pos rfl]
    by_cases h2 : vWord (rd_T56 l (i : Int)).f1 = true
    case neg =>
      rw [if_neg h2, hbad, goodB_not hi (fun z => h2 z.2.1)]
    rw [if_pos h2]
    by_cases h3 : 0 ≤ (rd_T56 l (i : Int)).f2 ∧ (rd_T56 l (i : Int)).f2 ≤ 15
    case neg =>
      rw [decide_eq_false h3, if_neg (by simp), hbad, goodB_not hi (fun z => h3 z.2.2.1)]
    rw [decide_eq_true h3, if_pos rfl]
    by_cases h4 : 0 ≤ (rd_T56 l (i : Int)).f3 ∧ (rd_T56 l (i : Int)).f3 ≤ 500
    case neg =>
      rw [decide_eq_false h4, if_neg (by simp), hbad, goodB_not hi (fun z => h4 z.2.2.2.1)]
    rw [decide_eq_true h4, if_pos rfl]
    have last : ∀ a c e, (0 < i → (rd_T56 l ((i - 1 : Nat) : Int)).f0 < (rd_T56 l (i : Int)).f0) → impl_ArePeople.j1 (k + 1) l (i : Int) l (l.length : Int) (i : Int) false a (rd_T56 l (i : Int)).f1 c e = some (goodB l i) := by
      intro a c e h5
      have c5 : (i : Int) ≤ (l.length : Int) := by omega
      simp only [impl_ArePeople.j1, Bool.false_eq_true, if_false, if_pos c2, if_pos c5, Option.bind_some, Int.toNat_natCast]
      have hn := implNames l i hi hl a c e i k 0 (by omega) (by omega)
      have hn' : impl_ArePeople.l1 k l l (l.length : Int) (i : Int) (l.take i) ((l.take i).length : Int) 0 a (rd_T56 l (i : Int)).f1 c e = _ := hn
      rw [hn']
      by_cases q : sameB l i 0 = true
      · rw [if_pos q, goodB_not hi (fun z => by obtain ⟨m, _, h6, h7⟩ := (sameB_true l i 0).mp q; exact z.2.2.2.2.2 m h6 h7)]
      · rw [if_neg q, ih (k - i - 1) (i + 1) (by omega) (by omega), goodB_step (i := i) ⟨h1, h2, h3, h4, h5, fun j hj z => q ((sameB_true l i 0).mpr ⟨j, Nat.zero_le _, hj, z⟩)⟩]
    by_cases h0 : (i : Int) > 0
    · have ew' : wrap64 ((i : Int) - 1) = ((i - 1 : Nat) : Int) := (w64 (by omega) (by omega)).trans (by omega)
      have c3 : 0 ≤ ((i - 1 : Nat) : Int) := by omega
      have c4 : ((i - 1 : Nat) : Int) < (l.length : Int) := by omega
      rw [if_pos h0, ew', if_pos c3, if_pos c4]
      by_cases h5 : (rd_T56 l ((i - 1 : Nat) : Int)).f0 ≥ (rd_T56 l (i : Int)).f0
      · rw [decide_eq_true h5, hbad, goodB_not hi (fun z => by have := z.2.2.2.2.1 (by omega); omega)]
      · rw [decide_eq_false h5]
        exact last _ _ _ (fun _ => by omega)
    · rw [if_neg h0]
      exact last _ _ _ (fun z => by omega)
/-- Whether people are valid. -/
noncomputable def goodP (l : List S56) : Bool := goodB l 0
theorem specGood_eq (l : List S56) (hl : l.length ≤ 1048576) (M : Nat) (hM : ∀ x ∈ l, x.f1.size < M ∧ x.f1.size ≤ 140737488351232) {k : Nat} (hk : l.length * (l.length + 3) + M < k) : spec_l5Good.f k l = some (goodP l) :=
  specGood_loop l (by omega) M hM l.length k 0 (by omega) hk
theorem implGood_eq (l : List S56) (hl : l.length ≤ 1048576) {k : Nat} (hk : l.length * (l.length + 3) < k) : impl_ArePeople.f k l = some (goodP l) :=
  implGood_loop l (by omega) l.length k 0 (by omega) hk

theorem szP_loop (l : List S55) (hl : l.length ≤ 140737488351232) (hw : ∀ y ∈ l, y.f1.size ≤ 9223372036854775807) (d : Nat) : ∀ (i : Nat) (left : Int), i + d = l.length → 0 ≤ left → left ≤ 1048576 →
    ∃ t, (∀ k, d < k → laws_szPersonS.l0 k l left (i : Int) = some t) ∧ (t < 0 ∨ ∀ j, i ≤ j → j < l.length → (rd_T55 l (j : Int)).f1.size ≤ 1048576) := by
  induction d with
  | zero =>
    intro i left hi h0 h1
    refine ⟨left, fun k hk => ?_, .inr fun j h1 h2 => by omega⟩
    obtain ⟨k, rfl⟩ : ∃ m, k = m + 1 := ⟨k - 1, by omega⟩
    simp only [laws_szPersonS.l0]
    rw [if_neg (by omega)]
  | succ d ih =>
    intro i left hi h0 h1
    have hlt : i < l.length := by omega
    have c1 : (i : Int) < (l.length : Int) := by omega
    have c2 : 0 ≤ (i : Int) := by omega
    have ew : wrap64 ((i : Int) + 1) = ((i + 1 : Nat) : Int) := (w64 (by omega) (by omega)).trans (by omega)
    have hmem : rd_T55 l (i : Int) ∈ l := by
      have : rd_T55 l (i : Int) = l[i] := by simp [rd_T55, hlt]
      rw [this]
      exact List.getElem_mem hlt
    have hs := hw _ hmem
    have e1 : wrap64 (left - ((rd_T55 l (i : Int)).f1.size : Int)) = left - ((rd_T55 l (i : Int)).f1.size : Int) := w64 (by omega) (by omega)
    by_cases h : left - ((rd_T55 l (i : Int)).f1.size : Int) < 0
    · refine ⟨-1, fun k hk => ?_, .inl (by omega)⟩
      obtain ⟨k, rfl⟩ : ∃ m, k = m + 1 := ⟨k - 1, by omega⟩
      simp only [laws_szPersonS.l0, laws_szPerson.f, if_pos c1, if_pos c2, e1, if_pos h, Option.bind_some]
      rfl
    · obtain ⟨t, ht, hq⟩ := ih (i + 1) (left - ((rd_T55 l (i : Int)).f1.size : Int)) (by omega) (by omega) (by omega)
      refine ⟨t, fun k hk => ?_, hq.imp id fun hq j h3 h4 => ?_⟩
      · obtain ⟨k, rfl⟩ : ∃ m, k = m + 1 := ⟨k - 1, by omega⟩
        simp only [laws_szPersonS.l0, laws_szPerson.f, if_pos c1, if_pos c2, e1, if_neg h, Option.bind_some, ew]
        exact ht k (by omega)
      · rcases Nat.eq_or_lt_of_le h3 with rfl | q
        · omega
        · exact hq j q h4
theorem szP_eq (l : List S55) (hl : l.length ≤ 140737488351232) (hw : ∀ y ∈ l, y.f1.size ≤ 9223372036854775807) : ∃ t, (∀ k, l.length < k → laws_szPersonS.f k l 1048576 = some t) ∧ (t < 0 ∨ (l.length ≤ 1048576 ∧ ∀ y ∈ l, y.f1.size ≤ 1048576)) := by
  have e0 : wrap64 (1048576 - (l.length : Int)) = 1048576 - (l.length : Int) := w64 (by omega) (by omega)
  by_cases h : 1048576 - (l.length : Int) < 0
  · refine ⟨-1, fun k _ => ?_, .inl (by omega)⟩
    unfold laws_szPersonS.f
    rw [e0, if_pos h]
  · obtain ⟨t, ht, hq⟩ := szP_loop l hl hw l.length 0 (1048576 - (l.length : Int)) (by omega) (by omega) (by omega)
    refine ⟨t, fun k hk => ?_, hq.imp id fun hq => ⟨by omega, fun y hy => ?_⟩⟩
    · unfold laws_szPersonS.f
      rw [e0, if_neg h]
      exact ht k hk
    · obtain ⟨j, hj, e⟩ := List.getElem_of_mem hy
      have := hq j (Nat.zero_le _) hj
      have er : rd_T55 l (j : Int) = y := by simp [rd_T55, hj, e]
      rw [er] at this
      exact this

theorem set_step {α : Type} (m : List α) (z : α) (i n : Nat) (hm : m.length = n) (hi : i < n) :
    (m.take i ++ (List.replicate n z).drop i).set i (m[i]'(by omega)) = m.take (i + 1) ++ (List.replicate n z).drop (i + 1) := by
  have e1 : (List.replicate n z).drop i = z :: (List.replicate n z).drop (i + 1) := by
    rw [List.drop_eq_getElem_cons (by simpa using hi)]
    simp
  have e2 : (m.take i).length = i := by simp; omega
  rw [List.set_append_right _ _ (by omega), e2, Nat.sub_self, e1, List.set_cons_zero, List.take_succ_eq_append_getElem (by omega), List.append_assoc]
  rfl

theorem toInts_loop (l : List Int) (hl : l.length ≤ 140737488351232) (d : Nat) : ∀ (k i : Nat), i + d = l.length → d < k →
    laws_toIntS.l0 k l (l.take i ++ (List.replicate l.length (0 : Int)).drop i) (i : Int) = some l := by
  induction d with
  | zero =>
    intro k i hd hk
    obtain ⟨k, rfl⟩ : ∃ m, k = m + 1 := ⟨k - 1, by omega⟩
    simp only [laws_toIntS.l0]
    rw [if_neg (by omega)]
    have e : i = l.length := by omega
    subst e
    rw [List.take_of_length_le (by simp), List.drop_of_length_le (by simp), List.append_nil]
  | succ d ih =>
    intro k i hd hk
    obtain ⟨k, rfl⟩ : ∃ m, k = m + 1 := ⟨k - 1, by omega⟩
    have hi : i < l.length := by omega
    have hlen : (l.take i ++ (List.replicate l.length (0 : Int)).drop i).length = l.length := by simp; omega
    have ew : wrap64 ((i : Int) + 1) = ((i + 1 : Nat) : Int) := (w64 (by omega) (by omega)).trans (by omega)
    have er : rd l (i : Int) = l[i] := by simp [rd, hi]
    simp only [laws_toIntS.l0]
    rw [if_pos (by omega), if_pos (by omega), if_pos (by rw [hlen]; omega), ew, er]
    have es : ((l.take i ++ (List.replicate l.length (0 : Int)).drop i).set (i : Int).toNat l[i]) = l.take (i + 1) ++ (List.replicate l.length (0 : Int)).drop (i + 1) := by
      have := set_step l (0 : Int) i l.length rfl hi
      simpa using this
    have h := ih k (i + 1) (by omega) (by omega)
    rw [← es] at h
    exact h
theorem toInts_eq (l : List Int) (hl : l.length ≤ 2097152) {k : Nat} (hk : l.length < k) : laws_toIntS.f k l = some l := by
  unfold laws_toIntS.f
  rw [if_pos (by omega), if_pos (by rw [Int.toNat_natCast]; omega)]
  have h := toInts_loop l (by omega) l.length k 0 (by omega) hk
  simpa using h

theorem set_to {α : Type} (m r : List α) (i n : Nat) (hm : m.length = n) (hr : r.length = n) (hi : i < n) :
    (m.take i ++ r.drop i).set i (m[i]'(by omega)) = m.take (i + 1) ++ r.drop (i + 1) := by
  have e1 : r.drop i = r[i]'(by omega) :: r.drop (i + 1) := List.drop_eq_getElem_cons (by omega)
  have e2 : (m.take i).length = i := by simp; omega
  rw [List.set_append_right _ _ (by omega), e2, Nat.sub_self, e1, List.set_cons_zero, List.take_succ_eq_append_getElem (by omega), List.append_assoc]
  rfl

theorem eqInts_loop (l : List Int) (hl : l.length ≤ 140737488351232) (d : Nat) : ∀ (k i : Nat), i + d = l.length → d < k → laws_eqIntS.l0 k l l (i : Int) = some true := by
  induction d with
  | zero =>
    intro k i hd hk
    obtain ⟨k, rfl⟩ : ∃ m, k = m + 1 := ⟨k - 1, by omega⟩
    simp only [laws_eqIntS.l0]
    rw [if_neg (by omega)]
  | succ d ih =>
    intro k i hd hk
    obtain ⟨k, rfl⟩ : ∃ m, k = m + 1 := ⟨k - 1, by omega⟩
    have ew : wrap64 ((i : Int) + 1) = ((i + 1 : Nat) : Int) := (w64 (by omega) (by omega)).trans (by omega)
    have c1 : (i : Int) < (l.length : Int) := by omega
    have c2 : 0 ≤ (i : Int) := by omega
    simp only [laws_eqIntS.l0, if_pos c1, if_pos c2, if_true, ew]
    exact ih k (i + 1) (by omega) (by omega)
theorem eqInts_eq (l : List Int) (hl : l.length ≤ 140737488351232) {k : Nat} (hk : l.length < k) : laws_eqIntS.f k l l = some true := by
  unfold laws_eqIntS.f
  rw [if_pos rfl]
  exact eqInts_loop l hl l.length k 0 (by omega) hk

theorem ixFrom_le (id : Int) : ∀ (l : List S56) (i : Nat), ixFrom id l i < (i : Int) + l.length := by
  intro l
  induction l with
  | nil => intro i; simp only [ixFrom, List.length_nil]; omega
  | cons y r ih =>
    intro i
    simp only [ixFrom, List.length_cons]
    split
    · omega
    · have := ih (i + 1); omega
theorem ixFrom_f0 (id : Int) : ∀ (l : List S56) (i : Nat), 0 ≤ ixFrom id l i → (i : Int) ≤ ixFrom id l i ∧ (rd_T56 l (ixFrom id l i - i)).f0 = id := by
  intro l
  induction l with
  | nil => intro i h; simp only [ixFrom] at h; omega
  | cons y r ih =>
    intro i h
    simp only [ixFrom] at h ⊢
    split
    · rename_i hy
      refine ⟨Int.le_refl _, ?_⟩
      rw [Int.sub_self]
      exact hy
    · rename_i hy
      rw [if_neg hy] at h
      obtain ⟨h1, h2⟩ := ih (i + 1) h
      refine ⟨by omega, ?_⟩
      have e : (ixFrom id r (i + 1) - (i : Int)).toNat = (ixFrom id r (i + 1) - ((i + 1 : Nat) : Int)).toNat + 1 := by omega
      unfold rd_T56 at h2 ⊢
      rw [e, List.getD_cons_succ]
      exact h2
theorem find_loop (l : List S56) (id : Int) (hl : l.length ≤ 140737488351232) (d : Nat) : ∀ (k i : Nat), i + d = l.length → d < k → spec_l5Find.l0 k l id (i : Int) = some (ixFrom id (l.drop i) i) := by
  induction d with
  | zero =>
    intro k i hd hk
    obtain ⟨k, rfl⟩ : ∃ m, k = m + 1 := ⟨k - 1, by omega⟩
    have c1 : ¬ (i : Int) < (l.length : Int) := by omega
    simp only [spec_l5Find.l0, if_neg c1]
    rw [List.drop_of_length_le (by omega)]
    rfl
  | succ d ih =>
    intro k i hd hk
    obtain ⟨k, rfl⟩ : ∃ m, k = m + 1 := ⟨k - 1, by omega⟩
    have ew : wrap64 ((i : Int) + 1) = ((i + 1 : Nat) : Int) := (w64 (by omega) (by omega)).trans (by omega)
    have c1 : (i : Int) < (l.length : Int) := by omega
    have c2 : 0 ≤ (i : Int) := by omega
    simp only [spec_l5Find.l0, if_pos c1, if_pos c2, ew]
    rw [rd_T56_drop l i (by omega)]
    simp only [ixFrom]
    by_cases h : (rd_T56 l (i : Int)).f0 = id
    · rw [if_pos h, if_pos h]
    · rw [if_neg h, if_neg h]
      exact ih k (i + 1) (by omega) (by omega)
theorem find_eq (l : List S56) (id : Int) (hl : l.length ≤ 140737488351232) {k : Nat} (hk : l.length < k) : spec_l5Find.f k l id = some (ixFrom id l 0) := by
  have h := find_loop l id hl l.length k 0 (by omega) hk
  simpa [spec_l5Find.f] using h
/-- The ids are in order, one by one from place i on, and within 1..99. -/
theorem rising_loop (l : List Int) (hl : l.length ≤ 140737488351232) (d : Nat) : ∀ (i : Nat), i + d = l.length → ∃ b : Bool, (∀ k, d < k → spec_l1Rising.l0 k l 1 99 (i : Int) = some b ∧ impl_strictly.l0 k l 1 99 l (l.length : Int) (i : Int) = some b) ∧
      (b = true → ∀ j, i ≤ j → j < l.length → 0 < j → rd l ((j - 1 : Nat) : Int) < rd l (j : Int)) := by
  induction d with
  | zero =>
    intro i hd
    refine ⟨true, fun k hk => ?_, fun _ j h1 h2 => by omega⟩
    obtain ⟨k, rfl⟩ : ∃ m, k = m + 1 := ⟨k - 1, by omega⟩
    have c1 : ¬ (i : Int) < (l.length : Int) := by omega
    simp only [spec_l1Rising.l0, impl_strictly.l0, if_neg c1]
    exact ⟨trivial, trivial⟩
  | succ d ih =>
    intro i hd
    have ew : wrap64 ((i : Int) + 1) = ((i + 1 : Nat) : Int) := (w64 (by omega) (by omega)).trans (by omega)
    have c1 : (i : Int) < (l.length : Int) := by omega
    have c2 : 0 ≤ (i : Int) := by omega
    obtain ⟨b, hb, hb2⟩ := ih (i + 1) (by omega)
    by_cases h1 : 1 ≤ rd l (i : Int) ∧ rd l (i : Int) ≤ 99
    case neg =>
      refine ⟨false, fun k hk => ?_, fun z => by cases z⟩
      obtain ⟨k, rfl⟩ : ∃ m, k = m + 1 := ⟨k - 1, by omega⟩
      simp only [spec_l1Rising.l0, impl_strictly.l0, if_pos c1, if_pos c2, l1In_eq, within_eq, Option.bind_some, decide_eq_false h1, Bool.false_eq_true, if_false]
      exact ⟨trivial, trivial⟩
    by_cases h0 : (i : Int) > 0
    · have ew' : wrap64 ((i : Int) - 1) = ((i - 1 : Nat) : Int) := (w64 (by omega) (by omega)).trans (by omega)
      have c3 : 0 ≤ ((i - 1 : Nat) : Int) := by omega
      have c4 : ((i - 1 : Nat) : Int) < (l.length : Int) := by omega
      by_cases h5 : rd l ((i - 1 : Nat) : Int) ≥ rd l (i : Int)
      · refine ⟨false, fun k hk => ?_, fun z => by cases z⟩
        obtain ⟨k, rfl⟩ : ∃ m, k = m + 1 := ⟨k - 1, by omega⟩
        simp only [spec_l1Rising.l0, impl_strictly.l0, if_pos c1, if_pos c2, l1In_eq, within_eq, Option.bind_some, decide_eq_true h1, if_true, if_pos h0, ew', if_pos c3, if_pos c4, if_pos h5]
        exact ⟨trivial, trivial⟩
      · refine ⟨b, fun k hk => ?_, fun z j q1 q2 q3 => ?_⟩
        · obtain ⟨k, rfl⟩ : ∃ m, k = m + 1 := ⟨k - 1, by omega⟩
          simp only [spec_l1Rising.l0, impl_strictly.l0, if_pos c1, if_pos c2, l1In_eq, within_eq, Option.bind_some, decide_eq_true h1, if_true, if_pos h0, ew', if_pos c3, if_pos c4, if_neg h5, ew]
          exact hb k (by omega)
        · rcases Nat.eq_or_lt_of_le q1 with rfl | q
          · omega
          · exact hb2 z j q q2 q3
    · refine ⟨b, fun k hk => ?_, fun z j q1 q2 q3 => ?_⟩
      · obtain ⟨k, rfl⟩ : ∃ m, k = m + 1 := ⟨k - 1, by omega⟩
        simp only [spec_l1Rising.l0, impl_strictly.l0, if_pos c1, if_pos c2, l1In_eq, within_eq, Option.bind_some, decide_eq_true h1, if_true, if_neg h0, ew]
        exact hb k (by omega)
      · exact hb2 z j (by omega) q2 q3
theorem rising_lt (l : List Int) (h : ∀ j, 0 ≤ j → j < l.length → 0 < j → rd l ((j - 1 : Nat) : Int) < rd l (j : Int)) : ∀ d i, i + d + 1 < l.length → rd l (i : Int) < rd l ((i + d + 1 : Nat) : Int)
  | 0, i, hi => by
    have := h (i + 1) (by omega) (by omega) (by omega)
    simpa using this
  | d + 1, i, hi => by
    have h1 := rising_lt l h d i (by omega)
    have h2 := h (i + (d + 1) + 1) (by omega) hi (by omega)
    have e : i + (d + 1) + 1 - 1 = i + d + 1 := by omega
    rw [e] at h2
    omega
theorem rising_eq (l : List Int) (hl : l.length ≤ 140737488351232) : ∃ b : Bool, (∀ k, l.length < k → spec_l1Rising.f k l 1 99 = some b ∧ impl_strictly.f k l 1 99 = some b) ∧ (b = true → l.Pairwise (fun x y => x ≠ y)) := by
  obtain ⟨b, hb, hb2⟩ := rising_loop l hl l.length 0 (by omega)
  refine ⟨b, fun k hk => hb k hk, fun z => ?_⟩
  rw [List.pairwise_iff_getElem]
  intro i j hi hj hij
  have h := rising_lt l (fun m q1 q2 q3 => hb2 z m q1 q2 q3) (j - i - 1) i (by omega)
  have e : i + (j - i - 1) + 1 = j := by omega
  rw [e] at h
  have e1 : rd l (i : Int) = l[i] := by simp [rd, hi]
  have e2 : rd l (j : Int) = l[j] := by simp [rd, hj]
  rw [e1, e2] at h
  omega
/-- Whether everybody asked for is there. -/
def allIn (l : List S56) (ids : List Int) : Bool := ids.all fun id => decide (0 ≤ ixFrom id l 0)
def mem (l : List S56) (id : Int) : S56 := rd_T56 l (ixFrom id l 0)
theorem memLoop_eq (l : List S56) : ∀ (ids : List Int) (acc : List S56), acc.length + ids.length ≤ 2000000 → memLoop l ids acc = some (if allIn l ids = true then (acc ++ ids.map (mem l), true) else ([], false)) := by
  intro ids
  induction ids with
  | nil => intro acc h; simp [memLoop, allIn]
  | cons id r ih =>
    intro acc h
    simp only [List.length_cons] at h
    have hle := ixFrom_le id l 0
    simp only [memLoop]
    by_cases c : ixFrom id l 0 < 0
    · rw [if_pos c]
      have : allIn l (id :: r) = false := by simp [allIn]; intro q; omega
      rw [this]
      rfl
    · have e : allIn l (id :: r) = allIn l r := by simp only [allIn, List.all_cons, decide_eq_true (show 0 ≤ ixFrom id l 0 by omega), Bool.true_and]
      rw [if_neg c, if_pos (by omega), if_pos (by omega), ih _ (by simp; omega), e]
      simp [mem]
theorem membersOf_eq (l : List S56) (ids : List Int) (hi : ids.length ≤ 1048576) {b : Bool} {k : Nat} (hk : impl_strictly.f k ids 1 99 = some b) : impl_membersOf.f k l ids = some (if b = true ∧ allIn l ids = true then (ids.map (mem l), true) else ([], false)) := by
  unfold impl_membersOf.f
  rw [hk]
  simp only [Option.bind_some]
  cases b
  · simp
  · rw [if_pos rfl, memLoop_eq l ids [] (by simp; omega)]
    simp
theorem asked_loop (l : List S56) (ids : List Int) (g b : Bool) (K : Nat) (hl : l.length ≤ 1048576) (hi : ids.length ≤ 1048576) (hg : ∀ k, K < k → spec_l5Good.f k l = some g) (hb : ∀ k, K < k → spec_l1Rising.f k ids 1 99 = some b) (hK : l.length ≤ K) (d : Nat) : ∀ (k i : Nat), i + d = ids.length → d + K + 1 < k → spec_l5Asked.l0 k l ids (i : Int) = some (allIn l (ids.drop i) && g && b) := by
  induction d with
  | zero =>
    intro k i hd hk
    obtain ⟨k, rfl⟩ : ∃ m, k = m + 1 := ⟨k - 1, by omega⟩
    have c1 : ¬ (i : Int) < (ids.length : Int) := by omega
    simp only [spec_l5Asked.l0, if_neg c1, hg k (by omega), hb k (by omega), Option.bind_some]
    rw [List.drop_of_length_le (by omega)]
    cases g <;> simp [allIn]
  | succ d ih =>
    intro k i hd hk
    obtain ⟨k, rfl⟩ : ∃ m, k = m + 1 := ⟨k - 1, by omega⟩
    have ew : wrap64 ((i : Int) + 1) = ((i + 1 : Nat) : Int) := (w64 (by omega) (by omega)).trans (by omega)
    have c1 : (i : Int) < (ids.length : Int) := by omega
    have c2 : 0 ≤ (i : Int) := by omega
    have hd2 := ids_drop ids i (by omega)
    simp only [spec_l5Asked.l0, if_pos c1, if_pos c2, ew, find_eq l _ (show l.length ≤ 140737488351232 by omega) (show l.length < k by omega), Option.bind_some]
    rw [hd2]
    by_cases c : ixFrom (rd ids (i : Int)) l 0 < 0
    · have : allIn l (rd ids (i : Int) :: ids.drop (i + 1)) = false := by simp [allIn]; intro q; omega
      rw [if_pos c, this]
      simp
    · have e : allIn l (rd ids (i : Int) :: ids.drop (i + 1)) = allIn l (ids.drop (i + 1)) := by simp only [allIn, List.all_cons, decide_eq_true (show 0 ≤ ixFrom (rd ids (i : Int)) l 0 by omega), Bool.true_and]
      rw [if_neg c, e]
      exact ih k (i + 1) (by omega) (by omega)
theorem asked_eq (l : List S56) (ids : List Int) (g b : Bool) (K : Nat) (hl : l.length ≤ 1048576) (hi : ids.length ≤ 1048576) (hg : ∀ k, K < k → spec_l5Good.f k l = some g) (hb : ∀ k, K < k → spec_l1Rising.f k ids 1 99 = some b) (hK : l.length ≤ K) {k : Nat} (hk : ids.length + K + 1 < k) : spec_l5Asked.f k l ids = some (allIn l ids && g && b) := by
  have h := asked_loop l ids g b K hl hi hg hb hK ids.length k 0 (by omega) hk
  simpa [spec_l5Asked.f] using h

theorem bit1 (s : Int) (h0 : 0 ≤ s) (h1 : s ≤ 15) : Go.bits .and .i64 s 1 = s % 2 := by
  have : ∀ n : Fin 16, Go.bits .and .i64 (n.val : Int) 1 = (n.val : Int) % 2 := by decide +kernel
  have h := this ⟨s.toNat, by omega⟩
  simp only [Int.toNat_of_nonneg h0] at h
  exact h
theorem bit2 (s : Int) (h0 : 0 ≤ s) (h1 : s ≤ 15) : Go.bits .and .i64 s 2 = s / 2 % 2 * 2 := by
  have : ∀ n : Fin 16, Go.bits .and .i64 (n.val : Int) 2 = (n.val : Int) / 2 % 2 * 2 := by decide +kernel
  have h := this ⟨s.toNat, by omega⟩
  simp only [Int.toNat_of_nonneg h0] at h
  exact h
theorem bit3 (s : Int) (h0 : 0 ≤ s) (h1 : s ≤ 15) : Go.bits .and .i64 s 3 = s % 4 := by
  have : ∀ n : Fin 16, Go.bits .and .i64 (n.val : Int) 3 = (n.val : Int) % 4 := by decide +kernel
  have h := this ⟨s.toNat, by omega⟩
  simp only [Int.toNat_of_nonneg h0] at h
  exact h
theorem bitOr (s t : Int) (h0 : 0 ≤ s) (h1 : s ≤ 15) (g0 : 0 ≤ t) (g1 : t ≤ 15) : 0 ≤ Go.bits .or .i64 s t ∧ Go.bits .or .i64 s t ≤ 15 ∧ (Go.bits .or .i64 s t % 2 = 0 ↔ s % 2 = 0 ∧ t % 2 = 0) ∧ (Go.bits .or .i64 s t / 2 % 2 = 0 ↔ s / 2 % 2 = 0 ∧ t / 2 % 2 = 0) := by
  have : ∀ n m : Fin 16, 0 ≤ Go.bits .or .i64 (n.val : Int) (m.val : Int) ∧ Go.bits .or .i64 (n.val : Int) (m.val : Int) ≤ 15 ∧ (Go.bits .or .i64 (n.val : Int) (m.val : Int) % 2 = 0 ↔ (n.val : Int) % 2 = 0 ∧ (m.val : Int) % 2 = 0) ∧ (Go.bits .or .i64 (n.val : Int) (m.val : Int) / 2 % 2 = 0 ↔ (n.val : Int) / 2 % 2 = 0 ∧ (m.val : Int) / 2 % 2 = 0) := by decide +kernel
  have h := this ⟨s.toNat, by omega⟩ ⟨t.toNat, by omega⟩
  simp only [Int.toNat_of_nonneg h0, Int.toNat_of_nonneg g0] at h
  exact h
/-- The skills of all together. -/
def orAll : List S56 → Int → Int
  | [], s => s
  | x :: r, s => orAll r (Go.bits .or .i64 s x.f2)
def tripsAll : List S56 → Int → Int
  | [], s => s
  | x :: r, s => tripsAll r (wrap64 (s + x.f3))
/-- How many can keep the book or hold the tape. -/
def able (M : List S56) : List S56 := M.filter fun x => decide (¬ Go.bits .and .i64 x.f2 3 = 0)
theorem all_loop (l : List S56) (ids : List Int) (hl : l.length ≤ 1048576) (hi : ids.length ≤ 1048576) (ha : allIn l ids = true) (d : Nat) : ∀ (k i : Nat) (s t : Int), i + d = ids.length → d + l.length + 1 < k → spec_l5All.l0 k l ids s t (i : Int) = some (orAll ((ids.drop i).map (mem l)) s, tripsAll ((ids.drop i).map (mem l)) t) := by
  induction d with
  | zero =>
    intro k i s t hd hk
    obtain ⟨k, rfl⟩ : ∃ m, k = m + 1 := ⟨k - 1, by omega⟩
    have c1 : ¬ (i : Int) < (ids.length : Int) := by omega
    simp only [spec_l5All.l0, if_neg c1]
    rw [List.drop_of_length_le (by omega)]
    rfl
  | succ d ih =>
    intro k i s t hd hk
    obtain ⟨k, rfl⟩ : ∃ m, k = m + 1 := ⟨k - 1, by omega⟩
    have ew : wrap64 ((i : Int) + 1) = ((i + 1 : Nat) : Int) := (w64 (by omega) (by omega)).trans (by omega)
    have c1 : (i : Int) < (ids.length : Int) := by omega
    have c2 : 0 ≤ (i : Int) := by omega
    have hd2 := ids_drop ids i (by omega)
    have hle := ixFrom_le (rd ids (i : Int)) l 0
    have h0 : 0 ≤ ixFrom (rd ids (i : Int)) l 0 := by
      have hm : rd ids (i : Int) ∈ ids := by
        have e : rd ids (i : Int) = ids[i] := by simp [rd, show i < ids.length by omega]
        rw [e]; exact List.getElem_mem _
      simpa using List.all_eq_true.mp ha _ hm
    have h1 : ixFrom (rd ids (i : Int)) l 0 < (l.length : Int) := by omega
    simp only [spec_l5All.l0, if_pos c1, if_pos c2, ew, find_eq l _ (show l.length ≤ 140737488351232 by omega) (show l.length < k by omega), Option.bind_some, if_pos h0, if_pos h1]
    rw [hd2, ih k (i + 1) _ _ (by omega) (by omega)]
    rfl
theorem all_eq (l : List S56) (ids : List Int) (hl : l.length ≤ 1048576) (hi : ids.length ≤ 1048576) (ha : allIn l ids = true) {k : Nat} (hk : ids.length + l.length + 1 < k) : spec_l5All.f k l ids = some (orAll (ids.map (mem l)) 0, tripsAll (ids.map (mem l)) 0) := by
  have h := all_loop l ids hl hi ha ids.length k 0 0 0 (by omega) hk
  simpa [spec_l5All.f] using h
theorem team_loop (l : List S56) (ids : List Int) (s : Int) (hl : l.length ≤ 1048576) (hi : ids.length ≤ 1048576) (ha : allIn l ids = true) (d : Nat) : ∀ (k i c : Nat), i + d = ids.length → c ≤ i → d + l.length + 1 < k → spec_l5Team.l0 k l ids s (c : Int) (i : Int) = some (decide (2 ≤ ids.length ∧ ids.length ≤ 5 ∧ Go.bits .and .i64 s 3 = 3 ∧ 2 ≤ c + (able ((ids.drop i).map (mem l))).length)) := by
  induction d with
  | zero =>
    intro k i c hd hc hk
    obtain ⟨k, rfl⟩ : ∃ m, k = m + 1 := ⟨k - 1, by omega⟩
    have c1 : ¬ (i : Int) < (ids.length : Int) := by omega
    simp only [spec_l5Team.l0, if_neg c1, l1In_eq, Option.bind_some]
    rw [List.drop_of_length_le (by omega)]
    have e0 : (able (List.map (mem l) [])).length = 0 := rfl
    rw [e0]
    by_cases h1 : (2 : Int) ≤ (ids.length : Int) ∧ (ids.length : Int) ≤ 5
    · rw [decide_eq_true h1, if_pos rfl]
      by_cases h2 : Go.bits .and .i64 s 3 = 3
      · rw [if_pos h2]
        refine congrArg some (decide_eq_decide.mpr ⟨fun z => ⟨by omega, by omega, h2, by omega⟩, fun z => by have := z.2.2.2; omega⟩)
      · rw [if_neg h2]
        exact congrArg some (decide_eq_false (fun z => h2 z.2.2.1)).symm
    · rw [decide_eq_false h1, if_neg (by simp)]
      exact congrArg some (decide_eq_false (fun z => h1 ⟨by have := z.1; omega, by have := z.2.1; omega⟩)).symm
  | succ d ih =>
    intro k i c hd hc hk
    obtain ⟨k, rfl⟩ : ∃ m, k = m + 1 := ⟨k - 1, by omega⟩
    have ew : wrap64 ((i : Int) + 1) = ((i + 1 : Nat) : Int) := (w64 (by omega) (by omega)).trans (by omega)
    have ewc : wrap64 ((c : Int) + 1) = ((c + 1 : Nat) : Int) := (w64 (by omega) (by omega)).trans (by omega)
    have c1 : (i : Int) < (ids.length : Int) := by omega
    have c2 : 0 ≤ (i : Int) := by omega
    have hd2 := ids_drop ids i (by omega)
    have hle := ixFrom_le (rd ids (i : Int)) l 0
    have h0 : 0 ≤ ixFrom (rd ids (i : Int)) l 0 := by
      have hm : rd ids (i : Int) ∈ ids := by
        have e : rd ids (i : Int) = ids[i] := by simp [rd, show i < ids.length by omega]
        rw [e]; exact List.getElem_mem _
      simpa using List.all_eq_true.mp ha _ hm
    have h1 : ixFrom (rd ids (i : Int)) l 0 < (l.length : Int) := by omega
    simp only [spec_l5Team.l0, if_pos c1, if_pos c2, ew, ewc, find_eq l _ (show l.length ≤ 140737488351232 by omega) (show l.length < k by omega), Option.bind_some, if_pos h0, if_pos h1]
    rw [hd2, List.map_cons]
    by_cases h : Go.bits .and .i64 (mem l (rd ids (i : Int))).f2 3 = 0
    · have e : able (mem l (rd ids (i : Int)) :: (ids.drop (i + 1)).map (mem l)) = able ((ids.drop (i + 1)).map (mem l)) := by
        unfold able; rw [List.filter_cons_of_neg (by simpa using h)]
      rw [e]
      have h' : Go.bits .and .i64 (rd_T56 l (ixFrom (rd ids (i : Int)) l 0)).f2 3 = 0 := h
      rw [if_pos h']
      exact ih k (i + 1) c (by omega) (by omega) (by omega)
    · have e : able (mem l (rd ids (i : Int)) :: (ids.drop (i + 1)).map (mem l)) = mem l (rd ids (i : Int)) :: able ((ids.drop (i + 1)).map (mem l)) := by
        unfold able; rw [List.filter_cons_of_pos (by simpa using h)]
      rw [e, List.length_cons]
      have h' : ¬ Go.bits .and .i64 (rd_T56 l (ixFrom (rd ids (i : Int)) l 0)).f2 3 = 0 := h
      rw [if_neg h', ih k (i + 1) (c + 1) (by omega) (by omega) (by omega)]
      refine congrArg some (decide_eq_decide.mpr ?_)
      have : c + 1 + (able ((ids.drop (i + 1)).map (mem l))).length = c + ((able ((ids.drop (i + 1)).map (mem l))).length + 1) := by omega
      rw [this]
/-- Whether people make a team. -/
def teamP (M : List S56) : Bool := decide (2 ≤ M.length ∧ M.length ≤ 5 ∧ Go.bits .and .i64 (orAll M 0) 3 = 3 ∧ 2 ≤ (able M).length)
theorem team_eq (l : List S56) (ids : List Int) (hl : l.length ≤ 1048576) (hi : ids.length ≤ 1048576) (ha : allIn l ids = true) {k : Nat} (hk : ids.length + l.length + 1 < k) : spec_l5Team.f k l ids = some (teamP (ids.map (mem l))) := by
  unfold spec_l5Team.f
  rw [all_eq l ids hl hi ha hk]
  simp only [Option.bind_some]
  have h := team_loop l ids (orAll (ids.map (mem l)) 0) hl hi ha ids.length k 0 0 (by omega) (by omega) hk
  rw [List.drop_zero] at h
  refine Eq.trans h ?_
  unfold teamP
  rw [List.length_map, Nat.zero_add]
/-- One who keeps the book, another who holds the tape. -/
def pairOf (x y : S56) : Prop := x.f0 ≠ y.f0 ∧ ¬ Go.bits .and .i64 x.f2 1 = 0 ∧ ¬ Go.bits .and .i64 y.f2 2 = 0
instance (x y : S56) : Decidable (pairOf x y) := by unfold pairOf; infer_instance
theorem mate_loop (M : List S56) (hM : M.length ≤ 1048576) (i : Nat) (hi : i < M.length) (d : Nat) : ∀ (k j : Nat), j + d = M.length → d < k →
    ((∃ y ∈ M.drop j, pairOf (rd_T56 M (i : Int)) y) → impl_areTeam.l1 k M M (M.length : Int) (i : Int) M (M.length : Int) (j : Int) (rd_T56 M (i : Int)).f0 (rd_T56 M (i : Int)).f1 (rd_T56 M (i : Int)).f2 (rd_T56 M (i : Int)).f3 = some true) ∧
    (¬ (∃ y ∈ M.drop j, pairOf (rd_T56 M (i : Int)) y) → impl_areTeam.l1 k M M (M.length : Int) (i : Int) M (M.length : Int) (j : Int) (rd_T56 M (i : Int)).f0 (rd_T56 M (i : Int)).f1 (rd_T56 M (i : Int)).f2 (rd_T56 M (i : Int)).f3 = impl_areTeam.l0 (k - d - 1) M M (M.length : Int) ((i + 1 : Nat) : Int)) := by
  induction d with
  | zero =>
    intro k j hj hk
    obtain ⟨k, rfl⟩ : ∃ m, k = m + 1 := ⟨k - 1, by omega⟩
    have c1 : ¬ (j : Int) < (M.length : Int) := by omega
    have ew : wrap64 ((i : Int) + 1) = ((i + 1 : Nat) : Int) := (w64 (by omega) (by omega)).trans (by omega)
    rw [List.drop_of_length_le (by omega)]
    refine ⟨fun ⟨y, hy, _⟩ => by simp at hy, fun _ => ?_⟩
    simp only [impl_areTeam.l1, if_neg c1, ew]
    rfl
  | succ d ih =>
    intro k j hj hk
    obtain ⟨k, rfl⟩ : ∃ m, k = m + 1 := ⟨k - 1, by omega⟩
    have c1 : (j : Int) < (M.length : Int) := by omega
    have c2 : 0 ≤ (j : Int) := by omega
    have ew : wrap64 ((j : Int) + 1) = ((j + 1 : Nat) : Int) := (w64 (by omega) (by omega)).trans (by omega)
    have e2 : k + 1 - (d + 1) - 1 = k - d - 1 := by omega
    rw [e2]
    have ih := ih k (j + 1) (by omega) (by omega)
    have hex : (∃ y ∈ M.drop j, pairOf (rd_T56 M (i : Int)) y) ↔ (pairOf (rd_T56 M (i : Int)) (rd_T56 M (j : Int)) ∨ ∃ y ∈ M.drop (j + 1), pairOf (rd_T56 M (i : Int)) y) := by
      rw [rd_T56_drop M j (by omega)]
      simp only [List.mem_cons, exists_eq_or_imp]
    simp only [impl_areTeam.l1, if_pos c1, if_pos c2, ew]
    rw [hex]
    by_cases h1 : (rd_T56 M (i : Int)).f0 = (rd_T56 M (j : Int)).f0
    · have hn : ¬ pairOf (rd_T56 M (i : Int)) (rd_T56 M (j : Int)) := fun z => z.1 h1
      simp only [if_pos h1, hn, false_or]
      exact ih
    simp only [if_neg h1]
    by_cases h2 : Go.bits .and .i64 (rd_T56 M (i : Int)).f2 1 = 0
    · have hn : ¬ pairOf (rd_T56 M (i : Int)) (rd_T56 M (j : Int)) := fun z => z.2.1 h2
      simp only [if_pos h2, hn, false_or]
      exact ih
    simp only [if_neg h2]
    by_cases h3 : Go.bits .and .i64 (rd_T56 M (j : Int)).f2 2 = 0
    · have hn : ¬ pairOf (rd_T56 M (i : Int)) (rd_T56 M (j : Int)) := fun z => z.2.2 h3
      simp only [if_pos h3, hn, false_or]
      exact ih
    simp only [if_neg h3]
    have hp : pairOf (rd_T56 M (i : Int)) (rd_T56 M (j : Int)) := ⟨h1, h2, h3⟩
    exact ⟨fun _ => trivial, fun z => absurd (Or.inl hp) z⟩
theorem mates_loop (M : List S56) (hM : M.length ≤ 1048576) (d : Nat) : ∀ (k i : Nat), i + d = M.length → d * (M.length + 2) < k →
    ((∃ x ∈ M.drop i, ∃ y ∈ M, pairOf x y) → impl_areTeam.l0 k M M (M.length : Int) (i : Int) = some true) ∧ (¬ (∃ x ∈ M.drop i, ∃ y ∈ M, pairOf x y) → impl_areTeam.l0 k M M (M.length : Int) (i : Int) = some false) := by
  induction d with
  | zero =>
    intro k i hj hk
    obtain ⟨k, rfl⟩ : ∃ m, k = m + 1 := ⟨k - 1, by omega⟩
    have c1 : ¬ (i : Int) < (M.length : Int) := by omega
    rw [List.drop_of_length_le (by omega)]
    refine ⟨fun ⟨y, hy, _⟩ => by simp at hy, fun _ => ?_⟩
    simp only [impl_areTeam.l0, if_neg c1]
  | succ d ih =>
    intro k i hj hk
    rw [Nat.succ_mul] at hk
    obtain ⟨k, rfl⟩ : ∃ m, k = m + 1 := ⟨k - 1, by omega⟩
    have c1 : (i : Int) < (M.length : Int) := by omega
    have c2 : 0 ≤ (i : Int) := by omega
    have hex : (∃ x ∈ M.drop i, ∃ y ∈ M, pairOf x y) ↔ ((∃ y ∈ M, pairOf (rd_T56 M (i : Int)) y) ∨ ∃ x ∈ M.drop (i + 1), ∃ y ∈ M, pairOf x y) := by
      rw [rd_T56_drop M i (by omega)]
      simp only [List.mem_cons, exists_eq_or_imp]
    obtain ⟨q1, q2⟩ := mate_loop M hM i (by omega) M.length k 0 (by omega) (by omega)
    rw [List.drop_zero] at q1 q2
    simp only [impl_areTeam.l0, if_pos c1, if_pos c2]
    rw [hex]
    by_cases h : ∃ y ∈ M, pairOf (rd_T56 M (i : Int)) y
    · refine ⟨fun _ => q1 h, fun z => absurd (Or.inl h) z⟩
    · have h2 := q2 h
      have h2' : impl_areTeam.l1 k M M (M.length : Int) (i : Int) M (M.length : Int) 0 (rd_T56 M (i : Int)).f0 (rd_T56 M (i : Int)).f1 (rd_T56 M (i : Int)).f2 (rd_T56 M (i : Int)).f3 = impl_areTeam.l0 (k - M.length - 1) M M (M.length : Int) ((i + 1 : Nat) : Int) := h2
      rw [h2']
      obtain ⟨r1, r2⟩ := ih (k - M.length - 1) (i + 1) (by omega) (by omega)
      exact ⟨fun z => r1 (z.resolve_left h), fun z => r2 (fun w => z (Or.inr w))⟩
theorem areTeam_eq (M : List S56) (hM : M.length ≤ 1048576) {k : Nat} (hk : M.length * (M.length + 2) < k) : impl_areTeam.f k M = some (decide ((2 ≤ M.length ∧ M.length ≤ 5) ∧ ∃ x ∈ M, ∃ y ∈ M, pairOf x y)) := by
  unfold impl_areTeam.f
  rw [within_eq]
  simp only [Option.bind_some]
  by_cases h : (2 : Int) ≤ (M.length : Int) ∧ (M.length : Int) ≤ 5
  · rw [decide_eq_true h, if_pos rfl]
    obtain ⟨r1, r2⟩ := mates_loop M hM M.length k 0 (by omega) hk
    rw [List.drop_zero] at r1 r2
    by_cases q : ∃ x ∈ M, ∃ y ∈ M, pairOf x y
    · refine Eq.trans (r1 q) (congrArg some (decide_eq_true ⟨⟨by omega, by omega⟩, q⟩).symm)
    · refine Eq.trans (r2 q) (congrArg some (decide_eq_false (fun z => q z.2)).symm)
  · rw [decide_eq_false h, if_neg (by simp)]
    exact congrArg some (decide_eq_false (fun z => h ⟨by omega, by omega⟩)).symm
def skillsOk (M : List S56) : Prop := ∀ x ∈ M, 0 ≤ x.f2 ∧ x.f2 ≤ 15
theorem orAll_ok : ∀ (M : List S56) (s : Int), skillsOk M → 0 ≤ s → s ≤ 15 → 0 ≤ orAll M s ∧ orAll M s ≤ 15 ∧ (orAll M s % 2 = 0 ↔ s % 2 = 0 ∧ ∀ x ∈ M, x.f2 % 2 = 0) ∧ (orAll M s / 2 % 2 = 0 ↔ s / 2 % 2 = 0 ∧ ∀ x ∈ M, x.f2 / 2 % 2 = 0) := by
  intro M
  induction M with
  | nil => intro s h h0 h1; simp [orAll, h0, h1]
  | cons x r ih =>
    intro s h h0 h1
    have hx := h x (List.mem_cons_self ..)
    obtain ⟨b0, b1, b2, b3⟩ := bitOr s x.f2 h0 h1 hx.1 hx.2
    obtain ⟨i0, i1, i2, i3⟩ := ih (Go.bits .or .i64 s x.f2) (fun y hy => h y (List.mem_cons_of_mem _ hy)) b0 b1
    simp only [orAll, List.mem_cons, forall_eq_or_imp]
    refine ⟨i0, i1, i2.trans ?_, i3.trans ?_⟩
    · rw [b2, and_assoc]
    · rw [b3, and_assoc]
theorem team_iff (M : List S56) (hs : skillsOk M) (hp : M.Pairwise (fun x y => x.f0 ≠ y.f0)) (hu : ∀ x ∈ M, ∀ y ∈ M, x.f0 = y.f0 → x = y) : (Go.bits .and .i64 (orAll M 0) 3 = 3 ∧ 2 ≤ (able M).length) ↔ ∃ x ∈ M, ∃ y ∈ M, pairOf x y := by
  obtain ⟨o0, o1, o2, o3⟩ := orAll_ok M 0 hs (by omega) (by omega)
  rw [bit3 _ o0 o1]
  have hab : ∀ x, x ∈ able M ↔ x ∈ M ∧ ¬ x.f2 % 4 = 0 := by
    intro x
    unfold able
    rw [List.mem_filter]
    refine and_congr_right fun hx => ?_
    rw [decide_eq_true_eq, bit3 _ (hs x hx).1 (hs x hx).2]
  have hpa : (able M).Pairwise (fun x y => x.f0 ≠ y.f0) := hp.filter _
  constructor
  · rintro ⟨h3, h2⟩
    have n1 : ¬ orAll M 0 % 2 = 0 := by omega
    have n2 : ¬ orAll M 0 / 2 % 2 = 0 := by omega
    rw [o2] at n1
    rw [o3] at n2
    have n1 : ∃ x ∈ M, ¬ x.f2 % 2 = 0 := by
      refine Classical.byContradiction fun z => n1 ⟨rfl, fun x hx => Classical.byContradiction fun q => z ⟨x, hx, q⟩⟩
    have n2 : ∃ x ∈ M, ¬ x.f2 / 2 % 2 = 0 := by
      refine Classical.byContradiction fun z => n2 ⟨rfl, fun x hx => Classical.byContradiction fun q => z ⟨x, hx, q⟩⟩
    obtain ⟨x, hx, bx⟩ := n1
    obtain ⟨y, hy, ty⟩ := n2
    have mk : ∀ a b, a ∈ M → b ∈ M → a.f0 ≠ b.f0 → ¬ a.f2 % 2 = 0 → ¬ b.f2 / 2 % 2 = 0 → ∃ x ∈ M, ∃ y ∈ M, pairOf x y := by
      intro a b ha hb hne h1 h2
      refine ⟨a, ha, b, hb, hne, ?_, ?_⟩
      · rw [bit1 _ (hs a ha).1 (hs a ha).2]; exact h1
      · rw [bit2 _ (hs b hb).1 (hs b hb).2]; omega
    by_cases hxy : x.f0 = y.f0
    · have e := hu x hx y hy hxy
      subst e
      obtain ⟨z, hz, hzx⟩ : ∃ z ∈ able M, z.f0 ≠ x.f0 := by
        match hE : able M with
        | [] => rw [hE] at h2; simp at h2
        | [a] => rw [hE] at h2; simp at h2
        | a :: b :: r =>
          rw [hE] at hpa
          have hne : a.f0 ≠ b.f0 := (List.pairwise_cons.mp hpa).1 b (List.mem_cons_self ..)
          by_cases q : a.f0 = x.f0
          · exact ⟨b, List.mem_cons_of_mem _ (List.mem_cons_self ..), fun w => hne (by omega)⟩
          · exact ⟨a, List.mem_cons_self .., q⟩
      obtain ⟨hzM, hz4⟩ := (hab z).mp hz
      by_cases hb : z.f2 % 2 = 0
      · exact mk x z hx hzM (fun w => hzx w.symm) bx (by omega)
      · exact mk z x hzM hx hzx hb ty
    · exact mk x y hx hy hxy bx ty
  · rintro ⟨x, hx, y, hy, hne, h1, h2⟩
    rw [bit1 _ (hs x hx).1 (hs x hx).2] at h1
    rw [bit2 _ (hs y hy).1 (hs y hy).2] at h2
    have n1 : ¬ orAll M 0 % 2 = 0 := fun z => h1 ((o2.mp z).2 x hx)
    have n2 : ¬ orAll M 0 / 2 % 2 = 0 := fun z => by have := (o3.mp z).2 y hy; omega
    refine ⟨by omega, ?_⟩
    have ax := (hab x).mpr ⟨hx, by omega⟩
    have ay := (hab y).mpr ⟨hy, by omega⟩
    match hE : able M with
    | [] => rw [hE] at ax; cases ax
    | [a] =>
      rw [hE] at ax ay
      rw [List.mem_singleton] at ax ay
      rw [ax, ay] at hne
      exact absurd rfl hne
    | a :: b :: r => simp

theorem mem_in (l : List S56) (id : Int) (h : 0 ≤ ixFrom id l 0) : mem l id ∈ l ∧ (mem l id).f0 = id := by
  have hle := ixFrom_le id l 0
  have hlt : (ixFrom id l 0).toNat < l.length := by omega
  have e : mem l id = l[(ixFrom id l 0).toNat] := by simp [mem, rd_T56, hlt]
  obtain ⟨_, h2⟩ := ixFrom_f0 id l 0 h
  refine ⟨by rw [e]; exact List.getElem_mem _, ?_⟩
  rw [show ixFrom id l 0 - ((0 : Nat) : Int) = ixFrom id l 0 by omega] at h2
  exact h2
theorem good_skills (l : List S56) (h : goodP l = true) : skillsOk l := by
  intro x hx
  obtain ⟨i, hi, rfl⟩ := List.getElem_of_mem hx
  have := ((goodB_true l 0).mp h).1 i (Nat.zero_le _) hi
  have e : rd_T56 l (i : Int) = l[i] := by simp [rd_T56, hi]
  have h3 := this.2.2.1
  rw [e] at h3
  exact h3
theorem ask_all (l : List S56) (ids : List Int) (hl : l.length ≤ 1048576) (hi : ids.length ≤ 1048576) (hM : ∀ x ∈ l, x.f1.size ≤ 1048576) : ∃ b : Bool, (∀ k, l.length * (l.length + 3) + ids.length * (ids.length + 2) + 3145800 < k → spec_l5Asked.f k l ids = some (allIn l ids && goodP l && b) ∧ impl_membersOf.f k l ids = some (if b = true ∧ allIn l ids = true then (ids.map (mem l), true) else ([], false)) ∧ impl_ArePeople.f k l = some (goodP l)) ∧
    ((allIn l ids && goodP l && b) = true → (b = true ∧ allIn l ids = true) ∧ goodP l = true ∧ ∀ k, l.length * (l.length + 3) + ids.length * (ids.length + 2) + 3145800 < k → spec_l5Team.f k l ids = some (teamP (ids.map (mem l))) ∧ impl_areTeam.f k (ids.map (mem l)) = some (teamP (ids.map (mem l)))) := by
  have hM' : ∀ x ∈ l, x.f1.size < 1048577 ∧ x.f1.size ≤ 140737488351232 := fun x hx => by have := hM x hx; omega
  obtain ⟨b, hb, hp⟩ := rising_eq ids (by omega)
  refine ⟨b, fun k hk => ⟨?_, ?_, ?_⟩, fun h => ?_⟩
  · obtain ⟨K, hK⟩ : ∃ K, K = l.length * (l.length + 3) + 2097153 := ⟨_, rfl⟩
    exact asked_eq l ids (goodP l) b K hl hi (fun k hk => specGood_eq l hl 1048577 hM' (by omega)) (fun k hk => (hb k (by omega)).1) (by omega) (by omega)
  · exact membersOf_eq l ids hi (hb k (by omega)).2
  · exact implGood_eq l hl (by omega)
  · simp only [Bool.and_eq_true] at h
    obtain ⟨⟨ha, hg⟩, hbt⟩ := h
    refine ⟨⟨hbt, ha⟩, hg, fun k hk => ?_⟩
    have hin : ∀ id ∈ ids, mem l id ∈ l ∧ (mem l id).f0 = id := fun id hid => mem_in l id (by simpa using List.all_eq_true.mp ha id hid)
    refine ⟨team_eq l ids hl hi ha (by omega), ?_⟩
    rw [areTeam_eq (ids.map (mem l)) (by rw [List.length_map]; exact hi) (by rw [List.length_map]; omega)]
    have hsk : skillsOk (ids.map (mem l)) := by
      intro x hx
      obtain ⟨id, hid, rfl⟩ := List.mem_map.mp hx
      exact good_skills l hg _ (hin id hid).1
    have hu : ∀ x ∈ ids.map (mem l), ∀ y ∈ ids.map (mem l), x.f0 = y.f0 → x = y := by
      intro x hx y hy hxy
      obtain ⟨i, hii, rfl⟩ := List.mem_map.mp hx
      obtain ⟨j, hij, rfl⟩ := List.mem_map.mp hy
      rw [(hin i hii).2, (hin j hij).2] at hxy
      rw [hxy]
    have hpw : (ids.map (mem l)).Pairwise (fun x y => x.f0 ≠ y.f0) := by
      rw [List.pairwise_map]
      refine (hp hbt).imp_of_mem ?_
      intro i j hii hij hne
      rw [(hin i hii).2, (hin j hij).2]
      exact hne
    have hiff := team_iff _ hsk hpw hu
    unfold teamP
    refine congrArg some (decide_eq_decide.mpr ⟨fun z => ⟨z.1.1, z.1.2, (hiff.mpr z.2).1, (hiff.mpr z.2).2⟩, fun z => ⟨⟨z.1, z.2.1⟩, hiff.mp z.2.2⟩⟩)

theorem teamOf_eq (l : List S56) (ids : List Int) (hl : l.length ≤ 1048576) (hi : ids.length ≤ 1048576) (hM : ∀ x ∈ l, x.f1.size ≤ 1048576) : ∃ r : Bool, ∀ k, l.length * (l.length + 3) + ids.length * (ids.length + 2) + 3145800 < k → (r = false → spec_l5Asked.f k l ids = some false ∨ spec_l5Asked.f k l ids = some true ∧ spec_l5Team.f k l ids = some false) ∧ (r = true → spec_l5Asked.f k l ids = some true ∧ spec_l5Team.f k l ids = some true) ∧ (∃ M, impl_teamOf.f k l ids = some (M, r) ∧ (r = true → M = ids.map (mem l))) ∧ (r = true → allIn l ids = true ∧ skillsOk (ids.map (mem l))) := by
  obtain ⟨b, h1, h2⟩ := ask_all l ids hl hi hM
  by_cases c : (allIn l ids && goodP l && b) = true
  · obtain ⟨hba, hg, ht⟩ := h2 c
    refine ⟨teamP (ids.map (mem l)), fun k hk => ?_⟩
    obtain ⟨e1, e2, e3⟩ := h1 k hk
    obtain ⟨e4, e5⟩ := ht k hk
    unfold impl_teamOf.f
    rw [e1, e2, e3, c, if_pos hba, hg, e4]
    simp only [Option.bind_some, if_true, e5]
    refine ⟨fun z => Or.inr (by rw [z]; simp), fun z => (by rw [z]; simp), ⟨_, rfl, fun _ => rfl⟩, fun _ => ⟨hba.2, ?_⟩⟩
    intro x hx
    obtain ⟨id, hid, rfl⟩ := List.mem_map.mp hx
    exact good_skills l hg _ (mem_in l id (by simpa using List.all_eq_true.mp hba.2 id hid)).1
  · refine ⟨false, fun k hk => ?_⟩
    obtain ⟨e1, e2, e3⟩ := h1 k hk
    unfold impl_teamOf.f
    rw [e1, e2, e3]
    have c' : (allIn l ids && goodP l && b) = false := by revert c; cases (allIn l ids && goodP l && b) <;> simp
    refine ⟨fun _ => Or.inl (congrArg some c'), (fun z => by cases z), ?_, (fun z => by cases z)⟩
    by_cases q : goodP l = true
    · simp only [q, Option.bind_some, if_true]
      by_cases c2 : b = true ∧ allIn l ids = true
      · exact absurd (by rw [c2.1, c2.2, q]; rfl) c
      · simp only [if_neg c2, Bool.false_eq_true, if_false]
        exact ⟨_, rfl, fun z => by cases z⟩
    · simp only [q, Option.bind_some, Bool.false_eq_true, if_false]
      exact ⟨_, rfl, fun z => by cases z⟩

/-- The text of a mark: there is one, whatever the fuel. -/
theorem markText_loop : ∀ (n : Nat) (k : Nat) (x : Int) (s : ByteArray), 0 ≤ x → x < 10 ^ n → x ≤ 9223372036854775807 → n < k → s.size + n ≤ 1000 →
    ∃ r, r.size ≤ s.size + n + 1 ∧ ∀ k, n < k → laws_markText.l0 k x s = some r
  | 0, _, x, s, h0, h1, hb, _, hs => by
    have hz : x = 0 := by simp at h1; omega
    subst hz
    refine ⟨(⟨#[109]⟩ : ByteArray) ++ s, by rw [ByteArray.size_append]; show 1 + s.size ≤ _; omega, fun k hk => ?_⟩
    obtain ⟨k, rfl⟩ : ∃ m, k = m + 1 := ⟨k - 1, by omega⟩
    simp only [laws_markText.l0]
    rw [if_neg (by omega), if_pos (by omega)]
  | n + 1, k, x, s, h0, h1, hb, hk, hs => by
    by_cases c : x > 0
    · have ed : Int.tdiv x 10 = x / 10 := Int.tdiv_eq_ediv_of_nonneg h0
      have ew : wrap64 (x / 10) = x / 10 := w64 (by omega) (by omega)
      have hlt : x / 10 < 10 ^ n := by
        rw [Int.pow_succ] at h1
        exact Int.ediv_lt_of_lt_mul (by omega) h1
      have hsz : (strOfNums [(wrap64 (48 + (Int.tmod x 10))) % 256] ++ s).size = s.size + 1 := by
        rw [ByteArray.size_append]
        have : (strOfNums [(wrap64 (48 + (Int.tmod x 10))) % 256]).size = 1 := rfl
        omega
      obtain ⟨r, hr, e⟩ := markText_loop n (n + 1) (x / 10) (strOfNums [(wrap64 (48 + (Int.tmod x 10))) % 256] ++ s) (by omega) hlt (by omega) (by omega) (by omega)
      refine ⟨r, by omega, fun k hk => ?_⟩
      obtain ⟨k, rfl⟩ : ∃ m, k = m + 1 := ⟨k - 1, by omega⟩
      have h1' : (strOfNums [(wrap64 (48 + (Int.tmod x 10))) % 256]).size + s.size ≤ 9223372036854775807 := by
        have : (strOfNums [(wrap64 (48 + (Int.tmod x 10))) % 256]).size = 1 := rfl
        omega
      simp only [laws_markText.l0, if_pos c, Option.bind_some, if_pos h1', ed, ew]
      exact e k (by omega)
    · have hz : x = 0 := by omega
      subst hz
      refine ⟨(⟨#[109]⟩ : ByteArray) ++ s, by rw [ByteArray.size_append]; show 1 + s.size ≤ _; omega, fun k hk => ?_⟩
      obtain ⟨k, rfl⟩ : ∃ m, k = m + 1 := ⟨k - 1, by omega⟩
      simp only [laws_markText.l0]
      rw [if_neg (by omega), if_pos (by omega)]
theorem markText_some (m : Int) (h0 : 0 ≤ m) (h1 : m ≤ 9223372036854775807) : ∃ r, ∀ k, 19 < k → laws_markText.f k m = some r := by
  unfold laws_markText.f
  by_cases c : m ≤ 0
  · exact ⟨_, fun k _ => by rw [if_pos c]⟩
  · obtain ⟨r, _, e⟩ := markText_loop 19 20 m (⟨#[]⟩ : ByteArray) h0 (by omega) h1 (by omega) (by decide)
    exact ⟨r, fun k hk => by rw [if_neg c]; exact e k hk⟩
/-- The mark's text. -/
def mt (m : Int) : ByteArray := (laws_markText.f 20 m).getD ByteArray.empty
theorem mt_eq {m : Int} (h0 : 0 ≤ m) (h1 : m ≤ 9223372036854775807) {k : Nat} (hk : 19 < k) : laws_markText.f k m = some (mt m) := by
  obtain ⟨r, h⟩ := markText_some m h0 h1
  unfold mt
  rw [h k hk, h 20 (by omega)]
  rfl

/-- Person i, marked. -/
def mkP (i : Nat) : S56 := ⟨4 * (i : Int) + 1, mt (4 * (i : Int) + 2), 4 * (i : Int) + 3, 4 * (i : Int) + 4⟩
def marksP (n : Nat) : List S56 := (List.range n).map mkP
theorem marksP_len (n : Nat) : (marksP n).length = n := by simp [marksP]
theorem rd_set_self (l : List S56) (i : Nat) (v : S56) (h : i < l.length) : rd_T56 (l.set i v) (i : Int) = v := by
  unfold rd_T56
  rw [Int.toNat_natCast, List.getD_eq_getElem?_getD, List.getElem?_set_self h]
  rfl
theorem markPx_loop (n : Nat) (hn : n ≤ 2097152) (d : Nat) : ∀ (k i : Nat) (x : List S56), x.length = n → i + d = n → d + 20 < k →
    ∃ r, r.length = n ∧ laws_markPersonS.l0 k x (4 * (i : Int) + 1) (i : Int) = some (4 * (n : Int) + 1, r) ∧ (∀ j, j < i → r[j]? = x[j]?) ∧ ∀ j : Nat, i ≤ j → j < n → r[j]? = some (mkP j) := by
  induction d with
  | zero =>
    intro k i x hx hi hk
    obtain ⟨k, rfl⟩ : ∃ m, k = m + 1 := ⟨k - 1, by omega⟩
    refine ⟨x, hx, ?_, fun _ _ => rfl, fun j h1 h2 => absurd h2 (by omega)⟩
    simp only [laws_markPersonS.l0]
    rw [if_neg (by omega)]
    have : (i : Int) = (n : Int) := by omega
    rw [this]
  | succ d ih =>
    intro k i x hx hi hk
    obtain ⟨k, rfl⟩ : ∃ m, k = m + 1 := ⟨k - 1, by omega⟩
    have hlt : i < x.length := by omega
    have c1 : (i : Int) < (x.length : Int) := by omega
    have c2 : 0 ≤ (i : Int) := by omega
    have e1 : wrap64 (4 * (i : Int) + 1 + 1) = 4 * (i : Int) + 2 := (w64 (by omega) (by omega)).trans (by omega)
    have e2 : wrap64 (4 * (i : Int) + 2 + 1) = 4 * (i : Int) + 3 := (w64 (by omega) (by omega)).trans (by omega)
    have e3 : wrap64 (4 * (i : Int) + 3 + 1) = 4 * (i : Int) + 4 := (w64 (by omega) (by omega)).trans (by omega)
    have e4 : wrap64 (4 * (i : Int) + 4 + 1) = 4 * ((i + 1 : Nat) : Int) + 1 := (w64 (by omega) (by omega)).trans (by omega)
    have ew : wrap64 ((i : Int) + 1) = ((i + 1 : Nat) : Int) := (w64 (by omega) (by omega)).trans (by omega)
    obtain ⟨r, hr, e, h1, h2⟩ := ih k (i + 1) (x.set i (mkP i)) (by simp [hx]) (by omega) (by omega)
    refine ⟨r, hr, ?_, ?_, ?_⟩
    · simp only [laws_markPersonS.l0, if_pos c1, if_pos c2, e1, e2, e3, e4, ew, mt_eq (m := 4 * (i : Int) + 2) (by omega) (by omega) (show 19 < k by omega), Option.bind_some, Int.toNat_natCast]
      rw [rd_set_self x i _ hlt]
      simp only [List.set_set]
      rw [rd_set_self x i _ hlt]
      simp only
      rw [rd_set_self x i _ hlt]
      exact e
    · intro j hj
      rw [h1 j (by omega), List.getElem?_set_ne (by omega)]
    · intro j hj hjn
      by_cases c : j = i
      · subst c
        rw [h1 j (by omega), List.getElem?_set_self (by omega)]
      · exact h2 j (by omega) hjn
theorem heldPx_loop (n : Nat) (hn : n ≤ 2097152) (x : List S56) (hx : x.length = n) (hm : ∀ j : Nat, j < n → x[j]? = some (mkP j)) (d : Nat) : ∀ (k i : Nat), i + d = n → d + 20 < k → laws_heldPersonS.l0 k x (4 * (i : Int) + 1) (i : Int) = some (4 * (n : Int) + 1) := by
  induction d with
  | zero =>
    intro k i hi hk
    obtain ⟨k, rfl⟩ : ∃ m, k = m + 1 := ⟨k - 1, by omega⟩
    simp only [laws_heldPersonS.l0]
    rw [if_neg (by omega)]
    have : (i : Int) = (n : Int) := by omega
    rw [this]
  | succ d ih =>
    intro k i hi hk
    obtain ⟨k, rfl⟩ : ∃ m, k = m + 1 := ⟨k - 1, by omega⟩
    have c1 : (i : Int) < (x.length : Int) := by omega
    have c2 : 0 ≤ (i : Int) := by omega
    have e1 : wrap64 (4 * (i : Int) + 1 + 1) = 4 * (i : Int) + 2 := (w64 (by omega) (by omega)).trans (by omega)
    have e2 : wrap64 (4 * (i : Int) + 2 + 1) = 4 * (i : Int) + 3 := (w64 (by omega) (by omega)).trans (by omega)
    have e3 : wrap64 (4 * (i : Int) + 3 + 1) = 4 * (i : Int) + 4 := (w64 (by omega) (by omega)).trans (by omega)
    have e4 : wrap64 (4 * (i : Int) + 4 + 1) = 4 * ((i + 1 : Nat) : Int) + 1 := (w64 (by omega) (by omega)).trans (by omega)
    have ew : wrap64 ((i : Int) + 1) = ((i + 1 : Nat) : Int) := (w64 (by omega) (by omega)).trans (by omega)
    have er : rd_T56 x (i : Int) = mkP i := by
      unfold rd_T56
      rw [Int.toNat_natCast, List.getD_eq_getElem?_getD, hm i (by omega)]
      rfl
    simp only [laws_heldPersonS.l0, if_pos c1, if_pos c2, er, mkP, if_true, e1, e2, e3, e4, ew, mt_eq (m := 4 * (i : Int) + 2) (by omega) (by omega) (show 19 < k by omega), Option.bind_some]
    exact ih k (i + 1) (by omega) (by omega)
theorem markHeldP (x : List S56) (hx : x.length ≤ 2097152) : ∃ r : List S56, ∀ k, x.length + 20 < k → laws_markPersonS.f k x 1 = some (4 * (x.length : Int) + 1, r) ∧ laws_heldPersonS.f k r 1 = some (4 * (x.length : Int) + 1) := by
  obtain ⟨r, hr, e, _, h2⟩ := markPx_loop x.length hx x.length (x.length + 21) 0 x rfl (by omega) (by omega)
  refine ⟨r, fun k hk => ⟨?_, ?_⟩⟩
  · obtain ⟨r', hr', e', _, h2'⟩ := markPx_loop x.length hx x.length k 0 x rfl (by omega) hk
    have : r' = r := by
      refine List.ext_getElem? fun j => ?_
      by_cases c : j < x.length
      · rw [h2 j (by omega) c, h2' j (by omega) c]
      · rw [List.getElem?_eq_none (by omega), List.getElem?_eq_none (by omega)]
    rw [this] at e'
    exact e'
  · exact heldPx_loop x.length hx r hr (fun j hj => h2 j (by omega) hj) x.length k 0 (by omega) hk

/-- The conversion of a struct, field by field. -/
def cv55 (x : S55) : S56 := ⟨x.f0, x.f1, x.f2, x.f3⟩
theorem laws_toPersonS_loop (l : List S55) (hl : l.length ≤ 140737488351232) (d : Nat) : ∀ (k i : Nat), i + d = l.length → d < k →
    laws_toPersonS.l0 k l ((l.map cv55).take i ++ (List.replicate l.length z56).drop i) (i : Int) = some (l.map cv55) := by
  induction d with
  | zero =>
    intro k i hd hk
    obtain ⟨k, rfl⟩ : ∃ m, k = m + 1 := ⟨k - 1, by omega⟩
    simp only [laws_toPersonS.l0]
    rw [if_neg (by omega)]
    have e : i = l.length := by omega
    subst e
    rw [List.take_of_length_le (by simp), List.drop_of_length_le (by simp), List.append_nil]
  | succ d ih =>
    intro k i hd hk
    obtain ⟨k, rfl⟩ : ∃ m, k = m + 1 := ⟨k - 1, by omega⟩
    have hi : i < l.length := by omega
    have hlen : ((l.map cv55).take i ++ (List.replicate l.length z56).drop i).length = l.length := by simp; omega
    have ew : wrap64 ((i : Int) + 1) = ((i + 1 : Nat) : Int) := (w64 (by omega) (by omega)).trans (by omega)
    have er : rd_T55 l (i : Int) = l[i] := by simp [rd_T55, hi]
    simp only [laws_toPersonS.l0, laws_toPerson.f, Option.bind_some]
    rw [if_pos (by omega), if_pos (by omega), if_pos (by rw [hlen]; omega), ew, er]
    have es : (((l.map cv55).take i ++ (List.replicate l.length z56).drop i).set (i : Int).toNat (cv55 l[i])) = (l.map cv55).take (i + 1) ++ (List.replicate l.length z56).drop (i + 1) := by
      have := set_step (l.map cv55) z56 i l.length (by simp) hi
      simpa using this
    have h := ih k (i + 1) (by omega) (by omega)
    rw [← es] at h
    exact h
theorem laws_toPersonS_eq (l : List S55) (hl : l.length ≤ 2097152) {k : Nat} (hk : l.length < k) : laws_toPersonS.f k l = some (l.map cv55) := by
  unfold laws_toPersonS.f
  rw [if_pos (by omega), if_pos (by rw [Int.toNat_natCast]; omega)]
  have h := laws_toPersonS_loop l (by omega) l.length k 0 (by omega) hk
  simpa using h

theorem laws_eqPerson_same (x : S56) : laws_eqPerson.f x.f0 x.f1 x.f2 x.f3 x.f0 x.f1 x.f2 x.f3 = some true := by unfold laws_eqPerson.f; simp
theorem laws_eqPersonS_loop (l : List S56) (hl : l.length ≤ 140737488351232) (d : Nat) : ∀ (k i : Nat), i + d = l.length → d < k → laws_eqPersonS.l0 k l l (i : Int) = some true := by
  induction d with
  | zero =>
    intro k i hd hk
    obtain ⟨k, rfl⟩ : ∃ m, k = m + 1 := ⟨k - 1, by omega⟩
    simp only [laws_eqPersonS.l0]
    rw [if_neg (by omega)]
  | succ d ih =>
    intro k i hd hk
    obtain ⟨k, rfl⟩ : ∃ m, k = m + 1 := ⟨k - 1, by omega⟩
    have ew : wrap64 ((i : Int) + 1) = ((i + 1 : Nat) : Int) := (w64 (by omega) (by omega)).trans (by omega)
    simp only [laws_eqPersonS.l0, laws_eqPerson_same, Option.bind_some, if_true]
    rw [if_pos (by omega), if_pos (by omega), if_pos (by omega), ew]
    exact ih k (i + 1) (by omega) (by omega)
theorem laws_eqPersonS_eq (l : List S56) (hl : l.length ≤ 140737488351232) {k : Nat} (hk : l.length < k) : laws_eqPersonS.f k l l = some true := by
  unfold laws_eqPersonS.f
  rw [if_pos rfl]
  exact laws_eqPersonS_loop l hl l.length k 0 (by omega) hk

theorem has_loop (l : List Int) (id : Int) (hl : l.length ≤ 1048576) (d : Nat) : ∀ (k i : Nat), i + d = l.length → d < k → spec_l1Has.l0 k l id (i : Int) = some (decide (id ∈ l.drop i)) ∧ ∃ v, slices_Index_int_int.l0 k l id (l.length : Int) (i : Int) = some v ∧ (v ≥ 0 ↔ id ∈ l.drop i) := by
  induction d with
  | zero =>
    intro k i hd hk
    obtain ⟨k, rfl⟩ : ∃ m, k = m + 1 := ⟨k - 1, by omega⟩
    have c1 : ¬ (i : Int) < (l.length : Int) := by omega
    simp only [spec_l1Has.l0, slices_Index_int_int.l0, if_neg c1]
    rw [List.drop_of_length_le (by omega)]
    exact ⟨by simp, -1, rfl, by simp⟩
  | succ d ih =>
    intro k i hd hk
    obtain ⟨k, rfl⟩ : ∃ m, k = m + 1 := ⟨k - 1, by omega⟩
    have ew : wrap64 ((i : Int) + 1) = ((i + 1 : Nat) : Int) := (w64 (by omega) (by omega)).trans (by omega)
    have c1 : (i : Int) < (l.length : Int) := by omega
    have c2 : 0 ≤ (i : Int) := by omega
    have hd2 := ids_drop l i (by omega)
    have ih := ih k (i + 1) (by omega) (by omega)
    simp only [spec_l1Has.l0, slices_Index_int_int.l0, if_pos c1, if_pos c2, ew]
    rw [hd2]
    by_cases h : rd l (i : Int) = id
    · rw [if_pos h, if_pos h.symm]
      exact ⟨by simp [h], _, rfl, by simp [h]⟩
    · rw [if_neg h, if_neg (fun z => h z.symm)]
      have h' : ¬ id = rd l (i : Int) := fun z => h z.symm
      simp only [List.mem_cons, h', false_or]
      exact ih
theorem specHas_eq (l : List Int) (id : Int) (hl : l.length ≤ 1048576) {k : Nat} (hk : l.length < k) : spec_l1Has.f k l id = some (decide (id ∈ l)) := by
  have h := (has_loop l id hl l.length k 0 (by omega) hk).1
  exact h
theorem implHas_eq (l : List Int) (id : Int) (hl : l.length ≤ 1048576) {k : Nat} (hk : l.length < k) : impl_has.f k l id = some (decide (id ∈ l)) := by
  obtain ⟨v, h, hv⟩ := (has_loop l id hl l.length k 0 (by omega) hk).2
  rw [List.drop_zero] at hv
  unfold impl_has.f slices_Contains_int_int.f slices_Index_int_int.f
  have h' : slices_Index_int_int.l0 k l id (l.length : Int) 0 = some v := h
  rw [h']
  simp only [Option.bind_some]
  exact congrArg some (decide_eq_decide.mpr hv)
/-- One more trip for a member. -/
def bump (team : List Int) (p : S56) : S56 := if p.f0 ∈ team then ⟨p.f0, p.f1, p.f2, wrap64 (p.f3 + 1)⟩ else p
theorem trip_loop (l : List S56) (team : List Int) (g : Bool) (K : Nat) (hl : l.length ≤ 1048576) (ht : team.length ≤ 1048576) (hg : ∀ k, K < k → spec_l5Good.f k (l.map (bump team)) = some g ∧ impl_ArePeople.f k (l.map (bump team)) = some g) (hK : team.length ≤ K) (d : Nat) : ∀ (k i : Nat), i + d = l.length → d + K + 1 < k →
    spec_GoOnTrip.l0 k team ((l.map (bump team)).take i ++ l.drop i) (i : Int) = some (if g = true then (l.map (bump team), true) else ([], false)) ∧ impl_GoOnTrip.l0 k team ((l.map (bump team)).take i ++ l.drop i) (l.length : Int) (i : Int) = some (if g = true then (l.map (bump team), true) else ([], false)) := by
  have hB : (l.map (bump team)).length = l.length := by simp
  induction d with
  | zero =>
    intro k i hd hk
    obtain ⟨k, rfl⟩ : ∃ m, k = m + 1 := ⟨k - 1, by omega⟩
    have e : i = l.length := by omega
    have es : (l.map (bump team)).take i ++ l.drop i = l.map (bump team) := by
      rw [List.take_of_length_le (by omega), List.drop_of_length_le (by omega), List.append_nil]
    rw [es]
    have c1 : ¬ (i : Int) < ((l.map (bump team)).length : Int) := by omega
    have c2 : ¬ (i : Int) < (l.length : Int) := by omega
    obtain ⟨g1, g2⟩ := hg k (by omega)
    simp only [spec_GoOnTrip.l0, impl_GoOnTrip.l0, if_neg c1, if_neg c2, g1, g2, Option.bind_some]
    cases g
    · exact ⟨rfl, rfl⟩
    · exact ⟨rfl, rfl⟩
  | succ d ih =>
    intro k i hd hk
    obtain ⟨k, rfl⟩ : ∃ m, k = m + 1 := ⟨k - 1, by omega⟩
    have hi : i < l.length := by omega
    have hlen : ((l.map (bump team)).take i ++ l.drop i).length = l.length := by simp; omega
    have ew : wrap64 ((i : Int) + 1) = ((i + 1 : Nat) : Int) := (w64 (by omega) (by omega)).trans (by omega)
    have c1 : (i : Int) < (((l.map (bump team)).take i ++ l.drop i).length : Int) := by omega
    have c2 : 0 ≤ (i : Int) := by omega
    have c3 : (i : Int) < (l.length : Int) := by omega
    have es := set_to (l.map (bump team)) l i l.length hB rfl hi
    rw [List.getElem_map] at es
    have hg' : ((l.map (bump team)).take i ++ l.drop i)[i]'(by omega) = l[i] := by
      rw [List.getElem_append_right (by simp; omega)]
      simp [show i - min i l.length = 0 by omega]
    have er : rd_T56 ((l.map (bump team)).take i ++ l.drop i) (i : Int) = l[i] := by
      unfold rd_T56
      rw [Int.toNat_natCast, List.getD_eq_getElem?_getD, List.getElem?_eq_getElem (by omega), Option.getD_some, hg']
    have ih := ih k (i + 1) (by omega) (by omega)
    rw [← es] at ih
    simp only [spec_GoOnTrip.l0, impl_GoOnTrip.l0, if_pos c1, if_pos c2, if_pos c3, er, specHas_eq team _ ht (show team.length < k by omega), implHas_eq team _ ht (show team.length < k by omega), Option.bind_some, ew, Int.toNat_natCast]
    by_cases h : l[i].f0 ∈ team
    · have eb : bump team l[i] = ⟨l[i].f0, l[i].f1, l[i].f2, wrap64 (l[i].f3 + 1)⟩ := by unfold bump; rw [if_pos h]
      rw [eb] at ih
      simp only [decide_eq_true h, if_true]
      exact ih
    · have eb : bump team l[i] = l[i] := by unfold bump; rw [if_neg h]
      rw [eb] at ih
      simp only [decide_eq_false h, Bool.false_eq_true, if_false]
      refine ⟨ih.1, ?_⟩
      have e2 : ((l.map (bump team)).take i ++ l.drop i).set i l[i] = (l.map (bump team)).take i ++ l.drop i := by
        rw [← hg']
        exact List.set_getElem_self (by omega)
      have ih2 := ih.2
      rw [e2] at ih2
      exact ih2
theorem trip_eq (l : List S56) (ids : List Int) (hl : l.length ≤ 1048576) (hi : ids.length ≤ 1048576) (hM : ∀ x ∈ l, x.f1.size ≤ 1048576) : ∃ r : List S56 × Bool, r.1.length ≤ l.length ∧ ∀ k, l.length * (l.length + 3) + ids.length * (ids.length + 2) + 6291600 < k → spec_GoOnTrip.f k l ids = some r ∧ impl_GoOnTrip.f k l ids = some r := by
  obtain ⟨r, h⟩ := teamOf_eq l ids hl hi hM
  have hsi : ids.length ≤ ids.length * (ids.length + 2) := Nat.le_mul_of_pos_right _ (by omega)
  cases r with
  | true =>
    have hM' : ∀ x ∈ l.map (bump ids), x.f1.size < 1048577 ∧ x.f1.size ≤ 140737488351232 := by
      intro x hx
      obtain ⟨y, hy, rfl⟩ := List.mem_map.mp hx
      have h0 := hM y hy
      have e : (bump ids y).f1 = y.f1 := by unfold bump; split <;> rfl
      rw [e]
      omega
    have hB : (l.map (bump ids)).length = l.length := by simp
    obtain ⟨K, hK⟩ : ∃ K, K = l.length * (l.length + 3) + 2097153 := ⟨_, rfl⟩
    refine ⟨if goodP (l.map (bump ids)) = true then (l.map (bump ids), true) else ([], false), by split <;> simp, fun k hk => ?_⟩
    obtain ⟨_, h2, ⟨M, h3, h4⟩, _⟩ := h k (by omega)
    obtain ⟨e1, e2⟩ := h2 rfl
    obtain ⟨k, rfl⟩ : ∃ m, k = m + 1 := ⟨k - 1, by omega⟩
    have hg : ∀ k, K < k → spec_l5Good.f k (l.map (bump ids)) = some (goodP (l.map (bump ids))) ∧ impl_ArePeople.f k (l.map (bump ids)) = some (goodP (l.map (bump ids))) := by
      intro k hk
      exact ⟨specGood_eq _ (by omega) 1048577 hM' (by rw [hB]; omega), implGood_eq _ (by omega) (by rw [hB]; omega)⟩
    have q := fun k (hk : l.length + K + 1 < k) => trip_loop l ids _ K hl hi hg (by omega) l.length k 0 (by omega) hk
    simp only [List.take_zero, List.nil_append, List.drop_zero] at q
    unfold spec_GoOnTrip.f impl_GoOnTrip.f
    rw [e1, h3]
    simp only [Option.bind_some, if_true]
    rw [e2]
    simp only [Option.bind_some, Bool.not_true, spec_GoOnTrip.j0, Bool.false_eq_true, if_false, List.nil_append, List.length_nil]
    rw [if_pos (by omega)]
    unfold impl_Person.f
    rw [if_pos hl]
    exact ⟨(q k (by omega)).1, (q (k + 1) (by omega)).2⟩
  | false =>
    refine ⟨([], false), by simp, fun k hk => ?_⟩
    obtain ⟨h2, _, ⟨M, h3, _⟩, _⟩ := h k (by omega)
    obtain ⟨k, rfl⟩ : ∃ m, k = m + 1 := ⟨k - 1, by omega⟩
    unfold spec_GoOnTrip.f impl_GoOnTrip.f
    rw [h3]
    rcases h2 rfl with e | ⟨e, e'⟩
    · rw [e]; simp [spec_GoOnTrip.j0]
    · rw [e]
      simp only [Option.bind_some, if_true, e']
      simp [spec_GoOnTrip.j0]
theorem markFrom_loop (d : Nat) : ∀ (k i : Nat) (m : Int) (x : List Int), i + d = x.length → x.length ≤ 2097152 → 0 ≤ m → m + (d : Int) ≤ 4611686018427387904 → d < k → ∃ r, laws_markIntS.l0 k x m (i : Int) = some (m + (d : Int), r) := by
  induction d with
  | zero =>
    intro k i m x hd hx h0 h1 hk
    obtain ⟨k, rfl⟩ : ∃ m, k = m + 1 := ⟨k - 1, by omega⟩
    refine ⟨x, ?_⟩
    simp only [laws_markIntS.l0]
    rw [if_neg (by omega)]
    simp
  | succ d ih =>
    intro k i m x hd hx h0 h1 hk
    obtain ⟨k, rfl⟩ : ∃ m, k = m + 1 := ⟨k - 1, by omega⟩
    have ew : wrap64 ((i : Int) + 1) = ((i + 1 : Nat) : Int) := (w64 (by omega) (by omega)).trans (by omega)
    have em : wrap64 (m + 1) = m + 1 := w64 (by omega) (by omega)
    have c1 : (i : Int) < (x.length : Int) := by omega
    have c2 : 0 ≤ (i : Int) := by omega
    obtain ⟨r, hr⟩ := ih k (i + 1) (m + 1) (x.set i m) (by rw [List.length_set]; omega) (by rw [List.length_set]; omega) (by omega) (by omega) (by omega)
    refine ⟨r, ?_⟩
    simp only [laws_markIntS.l0, if_pos c1, if_pos c2, ew, em, Int.toNat_natCast]
    rw [hr]
    have e : m + 1 + (d : Int) = m + ((d + 1 : Nat) : Int) := by omega
    rw [e]
theorem FnExactGoOnTrip : Asked := by
  intro l ids hl hw hi hwi
  by_cases c0 : (ids.length : Int) > 1048576
  · refine ⟨0, ?_⟩
    unfold laws_FnExactGoOnTrip.f
    rw [if_pos c0]
  obtain ⟨t, ht, hq⟩ := szP_eq l (by omega) (fun y hy => by have := (hw y hy).2.1; unfold maxLen at this; exact this)
  by_cases c : t < 0
  · refine ⟨l.length + 1, ?_⟩
    unfold laws_FnExactGoOnTrip.f
    rw [if_neg c0, ht _ (by omega)]
    simp only [Option.bind_some]
    rw [if_pos c]
  · have hb := hq.elim (fun z => absurd z c) id
    have hlen : (l.map cv55).length = l.length := by simp
    have hi' : ids.length ≤ 1048576 := by omega
    have hM : ∀ x ∈ l.map cv55, x.f1.size ≤ 1048576 := by
      intro x hx
      obtain ⟨y, hy, rfl⟩ := List.mem_map.mp hx
      exact hb.2 y hy
    obtain ⟨⟨R, b⟩, hR, hr⟩ := trip_eq (l.map cv55) ids (by omega) hi' hM
    rw [hlen] at hr hR
    simp only at hR
    obtain ⟨r1, hr1⟩ := markHeldP (l.map cv55) (by omega)
    obtain ⟨r2, hr2⟩ := markHeldP R (by omega)
    rw [hlen] at hr1
    obtain ⟨K, hK⟩ : ∃ K, K = l.length * (l.length + 3) + ids.length * (ids.length + 2) + 6291700 := ⟨_, rfl⟩
    have hsq : l.length ≤ l.length * (l.length + 3) := Nat.le_mul_of_pos_right _ (by omega)
    have hsi : ids.length ≤ ids.length * (ids.length + 2) := Nat.le_mul_of_pos_right _ (by omega)
    obtain ⟨r3, hr3⟩ := markFrom_loop ids.length (K + 2) 0 (4 * (l.length : Int) + 1) ids (by omega) (by omega) (by omega) (by omega) (by omega)
    have hr3' : laws_markIntS.f (K + 2) ids (4 * (l.length : Int) + 1) = some (4 * (l.length : Int) + 1 + (ids.length : Int), r3) := hr3
    refine ⟨K + 3, ?_⟩
    have p1 := fun k (hk : l.length < k) => laws_toPersonS_eq l (by omega) hk
    have p2 := fun k (hk : ids.length < k) => toInts_eq ids (by omega) hk
    have p3 := fun k (hk : R.length < k) => laws_eqPersonS_eq R (by omega) hk
    have d3 : ¬ (4 * (l.length : Int) + 1 + (ids.length : Int)) < 0 := by omega
    have d4 : ¬ (4 * (R.length : Int) + 1) < 0 := by omega
    obtain ⟨e1, e2⟩ := hr (K + 3) (by omega)
    obtain ⟨_, e4⟩ := hr (K + 1) (by omega)
    unfold laws_FnExactGoOnTrip.f
    rw [if_neg c0, ht _ (by omega)]
    simp only [Option.bind_some]
    rw [if_neg c, p1 _ (by omega)]
    simp only [Option.bind_some]
    rw [p2 _ (by omega)]
    simp only [Option.bind_some, e1, e2]
    rw [p3 _ (by omega)]
    simp only [Option.bind_some, bne_self_eq_false, if_true]
    simp only [laws_FnExactGoOnTrip.j0, Bool.false_eq_true, if_false]
    rw [p1 _ (by omega)]
    simp only [Option.bind_some]
    rw [laws_eqPersonS_eq (l.map cv55) (by omega) (by omega)]
    simp only [Option.bind_some, if_true]
    rw [p2 _ (by omega)]
    simp only [Option.bind_some]
    rw [eqInts_eq ids (by omega) (by omega)]
    simp only [Option.bind_some, if_true]
    rw [(hr1 (K + 2) (by omega)).1]
    simp only [Option.bind_some]
    rw [hr3']
    simp only [Option.bind_some]
    rw [if_neg d3, p3 _ (by omega)]
    simp only [Option.bind_some, bne_self_eq_false, if_true]
    simp only [laws_FnExactGoOnTrip.j1, Bool.false_eq_true, if_false]
    rw [(hr2 (K + 1) (by omega)).1]
    simp only [Option.bind_some]
    rw [(hr2 (K + 1) (by omega)).2]
    simp only [Option.bind_some, if_true]
    rw [if_neg d4, p1 _ (by omega)]
    simp only [Option.bind_some]
    rw [p2 _ (by omega)]
    simp only [Option.bind_some, e4]
    rw [p3 _ (by omega)]
    simp only [Option.bind_some, bne_self_eq_false, if_true]
    simp only [laws_FnExactGoOnTrip.j2, Bool.false_eq_true, if_false]
    rw [(hr2 K (by omega)).2]
    simp only [Option.bind_some, if_true]
    rw [if_neg d4]
end Go.Proofs.YtafdklajmklmkaaDoor.Pure
