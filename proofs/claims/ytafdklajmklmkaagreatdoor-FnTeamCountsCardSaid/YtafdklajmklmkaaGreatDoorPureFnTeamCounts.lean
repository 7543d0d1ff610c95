/- The pure statement of the law FnTeamCounts: true for every string of bytes; no condition but the slice's reach. -/
import Derived.Test.YtafdklajmklmkaaGreatDoorAskFnTeamCounts
namespace Go.Proofs.YtafdklajmklmkaaGreatDoor.Pure
open Go.RowKit Go.Proofs.YtafdklajmklmkaaGreatDoor.XFnTeamCounts Go.Proofs.YtafdklajmklmkaaGreatDoor.AskFnTeamCounts Go.Proofs.YtafdklajmklmkaaGreatDoorW.PrintWords Go.Proofs.YtafdklajmklmkaaGreatDoorW.PrintLast
set_option linter.unusedVariables false
set_option linter.unusedSimpArgs false

theorem w64 {x : Int} (h0 : -9223372036854775808 ≤ x) (h1 : x ≤ 9223372036854775807) : wrap64 x = x := by
 unfold wrap64
 omega
def sp (c : UInt8) (cur : List UInt8) : List UInt8 → List (List UInt8)
 | [] => [cur]
 | b :: l => if b = c then cur :: sp c [] l else sp c (cur ++ [b]) l
def mkB (l : List UInt8) : ByteArray := ⟨l.toArray⟩
theorem size_data (s : ByteArray) : s.data.toList.length = s.size := Array.length_toList
theorem bt_list (s : ByteArray) (i : Nat) (h : i < s.size) : bt s (i : Int) = ((s.data.toList[i]'(by rw [size_data]; exact h)).toNat : Int) := by
 unfold bt
 rw [dif_pos (show (i : Int).toNat < s.size by omega)]
 rfl
theorem l1In_eq (a b c : Int) : spec_l1In.f a b c = some (decide (b ≤ a ∧ a ≤ c)) := by
 unfold spec_l1In.f
 by_cases h : a ≥ b
 ·rw [if_pos h]
  have h' : b ≤ a := h
  simp [h']
 ·rw [if_neg h]
  have h' : ¬ b ≤ a := h
  simp [h']
theorem letters_has : ∀ b : Fin 256, ([97, 98, 99, 100, 101, 102, 103, 104, 105, 106, 107, 108, 109, 110, 111, 112, 113, 114, 115, 116, 117, 118, 119, 120, 121, 122] : List UInt8).contains (UInt8.ofNat b.val) = decide (97 ≤ b.val ∧ b.val ≤ 122) := by decide +kernel
theorem letters_at (b : UInt8) : ([97, 98, 99, 100, 101, 102, 103, 104, 105, 106, 107, 108, 109, 110, 111, 112, 113, 114, 115, 116, 117, 118, 119, 120, 121, 122] : List UInt8).contains b = decide (97 ≤ b.toNat ∧ b.toNat ≤ 122) := by
 have h := letters_has ⟨b.toNat, b.toNat_lt⟩
 simp only [UInt8.ofNat_toNat] at h
 exact h
theorem dropWhile_nil {α : Type} (p : α → Bool) : ∀ l : List α, l.dropWhile p = [] ↔ ∀ x ∈ l, p x = true
 | [] => by simp
 | x :: l => by
  rw [List.dropWhile_cons]
  cases h : p x with
  | true => simp only [if_true, dropWhile_nil p l, List.mem_cons, forall_eq_or_imp, h, true_and]
  | false => simp [h]
theorem takeWhile_all {α : Type} (p : α → Bool) : ∀ (l : List α) (x : α), x ∈ l.takeWhile p → p x = true
 | [], x, h => by simp at h
 | y :: l, x, h => by
  rw [List.takeWhile_cons] at h
  cases hy : p y with
  | false => rw [hy] at h; simp at h
  | true =>
   rw [hy] at h
   simp only [if_true, List.mem_cons] at h
   rcases h with rfl | h
   ·exact hy
   ·exact takeWhile_all p l x h
theorem trimS_nil (l cs : List UInt8) : Lib.trimS l cs = [] ↔ ∀ x ∈ l, cs.contains x = true := by
 unfold Lib.trimS Lib.trimLeftS Lib.trimRightS
 rw [dropWhile_nil]
 constructor
 ·intro h x hx
  have hs : l.reverse = l.reverse.takeWhile (cs.contains ·) ++ l.reverse.dropWhile (cs.contains ·) := (List.takeWhile_append_dropWhile).symm
  have hx' : x ∈ l.reverse := List.mem_reverse.mpr hx
  rw [hs] at hx'
  rcases List.mem_append.mp hx' with h1 | h1
  ·exact takeWhile_all _ _ _ h1
  ·exact h x (List.mem_reverse.mpr h1)
 ·intro h x hx
  have hx' := List.mem_reverse.mp hx
  exact h x (List.mem_reverse.mp (List.dropWhile_sublist _ |>.mem hx'))
def vWord (s : ByteArray) : Bool := decide ((1 ≤ s.size ∧ s.size ≤ 10) ∧ ∀ b ∈ s.data.toList, 97 ≤ b.toNat ∧ b.toNat ≤ 122)
theorem isWord_eq (s : ByteArray) : impl_isWord.f s = some (vWord s) := by
 unfold impl_isWord.f vWord
 by_cases c1 : (s.size : Int) ≥ 1
 ·by_cases c2 : (s.size : Int) ≤ 10
  ·rw [if_pos c1, if_pos c2]
   have ht : strings_Trim.f s (⟨#[97, 98, 99, 100, 101, 102, 103, 104, 105, 106, 107, 108, 109, 110, 111, 112, 113, 114, 115, 116, 117, 118, 119, 120, 121, 122]⟩ : ByteArray) = some (⟨(Lib.trimS s.data.toList [97, 98, 99, 100, 101, 102, 103, 104, 105, 106, 107, 108, 109, 110, 111, 112, 113, 114, 115, 116, 117, 118, 119, 120, 121, 122]).toArray⟩ : ByteArray) := by
    unfold strings_Trim.f
    rw [if_pos ⟨by omega, by decide, by decide⟩]
   rw [ht]
   simp only [Option.bind_some]
   refine congrArg some ?_
   rw [Lib.toList_data]
   have e : (Lib.trimS s.data.toList [97, 98, 99, 100, 101, 102, 103, 104, 105, 106, 107, 108, 109, 110, 111, 112, 113, 114, 115, 116, 117, 118, 119, 120, 121, 122] = []) = ((1 ≤ s.size ∧ s.size ≤ 10) ∧ ∀ b ∈ s.data.toList, 97 ≤ b.toNat ∧ b.toNat ≤ 122) := by
    apply propext
    rw [trimS_nil]
    constructor
    ·intro h
     refine ⟨by omega, fun b hb => ?_⟩
     have := h b hb
     rw [letters_at] at this
     exact of_decide_eq_true this
    ·intro h b hb
     rw [letters_at]
     exact decide_eq_true (h.2 b hb)
   rw [Bool.eq_iff_iff]
   simp only [beq_iff_eq, decide_eq_true_eq]
   rw [← e]
  ·rw [if_pos c1, if_neg c2]
   exact congrArg some (decide_eq_false (fun h => c2 (by omega))).symm
 ·rw [if_neg c1]
  exact congrArg some (decide_eq_false (fun h => c1 (by omega))).symm
theorem word_loop (s : ByteArray) (hs : s.size ≤ 140737488351232) (d : Nat) : ∀ (k i : Nat), i + d = s.size → d < k →
  spec_l2Word.l0 k s (i : Int) = some (decide ((1 ≤ s.size ∧ s.size ≤ 10) ∧ ∀ b ∈ s.data.toList.drop i, 97 ≤ b.toNat ∧ b.toNat ≤ 122)) := by
 induction d with
 | zero =>
  intro k i hi hk
  obtain ⟨k, rfl⟩ : ∃ m, k = m + 1 := ⟨k - 1, by omega⟩
  have c1 : ¬ (i : Int) < (s.size : Int) := by omega
  have hd : s.data.toList.drop i = [] := List.drop_of_length_le (by rw [size_data]; omega)
  simp only [spec_l2Word.l0, if_neg c1, l1In_eq, Option.bind_some, hd]
  refine congrArg some (decide_eq_decide.mpr ?_)
  simp only [List.not_mem_nil, false_implies, implies_true, and_true]
  omega
 | succ d ih =>
  intro k i hi hk
  obtain ⟨k, rfl⟩ : ∃ m, k = m + 1 := ⟨k - 1, by omega⟩
  have hlt : i < s.data.toList.length := by rw [size_data]; omega
  have c1 : (i : Int) < (s.size : Int) := by omega
  have c2 : 0 ≤ (i : Int) := by omega
  have hd := List.drop_eq_getElem_cons hlt
  have eb := bt_list s i (by omega)
  have ew : wrap64 ((i : Int) + 1) = ((i + 1 : Nat) : Int) := (w64 (by omega) (by omega)).trans (by omega)
  simp only [spec_l2Word.l0, if_pos c1, if_pos c2, eb, ew]
  rw [hd]
  generalize s.data.toList[i] = b
  by_cases h1 : (b.toNat : Int) < 97
  ·rw [if_pos h1]
   refine congrArg some (decide_eq_false (fun h => ?_)).symm
   have := h.2 b List.mem_cons_self
   omega
  ·by_cases h2 : (b.toNat : Int) > 122
   ·rw [if_neg h1, if_pos h2]
    refine congrArg some (decide_eq_false (fun h => ?_)).symm
    have := h.2 b List.mem_cons_self
    omega
   ·rw [if_neg h1, if_neg h2, ih k (i + 1) (by omega) (by omega)]
    refine congrArg some (decide_eq_decide.mpr ?_)
    simp only [List.mem_cons, forall_eq_or_imp]
    exact ⟨fun h => ⟨h.1, by omega, h.2⟩, fun h => ⟨h.1, h.2.2⟩⟩
theorem l2Word_eq (s : ByteArray) (hs : s.size ≤ 140737488351232) {k : Nat} (hk : s.size < k) : spec_l2Word.f k s = some (vWord s) := by
 unfold spec_l2Word.f vWord
 have h := word_loop s hs s.size k 0 (by omega) hk
 simpa using h
theorem within_eq (a b c : Int) : impl_within.f a b c = some (decide (b ≤ a ∧ a ≤ c)) := by
 unfold impl_within.f
 by_cases h : a ≥ b
 ·rw [if_pos h]
  have h' : b ≤ a := h
  simp [h']
 ·rw [if_neg h]
  have h' : ¬ b ≤ a := h
  simp [h']
def okAt (l : List S41) (i : Nat) : Prop := (1 ≤ (rd_T41 l (i : Int)).f0 ∧ (rd_T41 l (i : Int)).f0 ≤ 99) ∧ vWord (rd_T41 l (i : Int)).f1 = true ∧ (0 ≤ (rd_T41 l (i : Int)).f2 ∧ (rd_T41 l (i : Int)).f2 ≤ 15) ∧ (0 ≤ (rd_T41 l (i : Int)).f3 ∧ (rd_T41 l (i : Int)).f3 ≤ 500) ∧ (0 < i → (rd_T41 l ((i - 1 : Nat) : Int)).f0 < (rd_T41 l (i : Int)).f0) ∧ ∀ j, j < i → ¬ (rd_T41 l (j : Int)).f1.toList = (rd_T41 l (i : Int)).f1.toList
def goodFrom (l : List S41) (i : Nat) : Prop := (∀ m, i ≤ m → m < l.length → okAt l m) ∧ l.length ≤ 10
noncomputable def goodB (l : List S41) (i : Nat) : Bool := @decide (goodFrom l i) (Classical.propDecidable _)
theorem goodB_true (l : List S41) (i : Nat) : goodB l i = true ↔ goodFrom l i := by unfold goodB; simp
theorem goodB_step {l : List S41} {i : Nat} (h : okAt l i) : goodB l i = goodB l (i + 1) := by
 rw [Bool.eq_iff_iff, goodB_true, goodB_true]
 refine ⟨fun g => ⟨fun m h1 h2 => g.1 m (by omega) h2, g.2⟩, fun g => ⟨fun m h1 h2 => ?_, g.2⟩⟩
 rcases Nat.eq_or_lt_of_le h1 with rfl | hlt
 ·exact h
 ·exact g.1 m hlt h2
theorem goodB_not {l : List S41} {i : Nat} (hi : i < l.length) (h : ¬ okAt l i) : goodB l i = false := by
 rw [← Bool.not_eq_true, goodB_true]
 exact fun g => h (g.1 i (Nat.le_refl _) hi)
def sameP (l : List S41) (i j : Nat) : Prop := ∃ m, j ≤ m ∧ m < i ∧ (rd_T41 l (m : Int)).f1.toList = (rd_T41 l (i : Int)).f1.toList
noncomputable def sameB (l : List S41) (i j : Nat) : Bool := @decide (sameP l i j) (Classical.propDecidable _)
theorem sameB_true (l : List S41) (i j : Nat) : sameB l i j = true ↔ sameP l i j := by unfold sameB; simp
theorem sameB_end (l : List S41) (i j : Nat) (h : i ≤ j) : sameB l i j = false := by
 rw [← Bool.not_eq_true, sameB_true]
 rintro ⟨m, h1, h2, _⟩
 omega
theorem sameB_hit (l : List S41) (i j : Nat) (hj : j < i) (h : (rd_T41 l (j : Int)).f1.toList = (rd_T41 l (i : Int)).f1.toList) : sameB l i j = true := (sameB_true l i j).mpr ⟨j, Nat.le_refl _, hj, h⟩
theorem sameB_step (l : List S41) (i j : Nat) (h : ¬ (rd_T41 l (j : Int)).f1.toList = (rd_T41 l (i : Int)).f1.toList) : sameB l i (j + 1) = sameB l i j := by
 rw [Bool.eq_iff_iff, sameB_true, sameB_true]
 constructor
 ·rintro ⟨m, h1, h2, h3⟩
  exact ⟨m, by omega, h2, h3⟩
 ·rintro ⟨m, h1, h2, h3⟩
  rcases Nat.eq_or_lt_of_le h1 with rfl | q
  ·exact absurd h3 h
  ·exact ⟨m, q, h2, h3⟩
theorem specNames (l : List S41) (i : Nat) (hi : i < l.length) (hl : l.length ≤ 140737488351232) (a : Int) (c d : Int) (e : Nat) : ∀ (k j : Nat), j + e = i → e < k →
  spec_l5Good.l1 k l (i : Int) (j : Int) a (rd_T41 l (i : Int)).f1 c d = if sameB l i j = true then some false else spec_l5Good.l0 (k - e - 1) l ((i + 1 : Nat) : Int) := by
 induction e with
 | zero =>
  intro k j hj hk
  obtain ⟨k, rfl⟩ : ∃ m, k = m + 1 := ⟨k - 1, by omega⟩
  have c1 : ¬ (j : Int) < (i : Int) := by omega
  have ew : wrap64 ((i : Int) + 1) = ((i + 1 : Nat) : Int) := (w64 (by omega) (by omega)).trans (by omega)
  simp only [spec_l5Good.l1, if_neg c1, ew]
  rw [sameB_end l i j (by omega), if_neg (by simp)]
  rfl
 | succ e ih =>
  intro k j hj hk
  obtain ⟨k, rfl⟩ : ∃ m, k = m + 1 := ⟨k - 1, by omega⟩
  have c1 : (j : Int) < (i : Int) := by omega
  have c2 : 0 ≤ (j : Int) := by omega
  have c3 : (j : Int) < (l.length : Int) := by omega
  have ew : wrap64 ((j : Int) + 1) = ((j + 1 : Nat) : Int) := (w64 (by omega) (by omega)).trans (by omega)
  simp only [spec_l5Good.l1, if_pos c1, if_pos c2, if_pos c3, ew]
  by_cases h : (rd_T41 l (j : Int)).f1.toList = (rd_T41 l (i : Int)).f1.toList
  ·rw [if_pos h, sameB_hit l i j (by omega) h, if_pos rfl]
  ·have e2 : k + 1 - (e + 1) - 1 = k - e - 1 := by omega
   rw [if_neg h, ih k (j + 1) (by omega) (by omega), e2, sameB_step l i j h]
theorem rd_take (l : List S41) (i j : Nat) (h : j < i) : rd_T41 (l.take i) (j : Int) = rd_T41 l (j : Int) := by
 unfold rd_T41
 rw [Int.toNat_natCast, List.getD_eq_getElem?_getD, List.getD_eq_getElem?_getD, List.getElem?_take, if_pos h]
theorem implNames (l : List S41) (i : Nat) (hi : i < l.length) (hl : l.length ≤ 140737488351232) (a : Int) (c d : Int) (e : Nat) : ∀ (k j : Nat), j + e = i → e < k →
  impl_ArePeople.l1 k l l (l.length : Int) (i : Int) (l.take i) ((l.take i).length : Int) (j : Int) a (rd_T41 l (i : Int)).f1 c d = if sameB l i j = true then some false else impl_ArePeople.l0 (k - e - 1) l l (l.length : Int) ((i + 1 : Nat) : Int) := by
 have ht : (l.take i).length = i := by rw [List.length_take]; omega
 induction e with
 | zero =>
  intro k j hj hk
  obtain ⟨k, rfl⟩ : ∃ m, k = m + 1 := ⟨k - 1, by omega⟩
  have c1 : ¬ (j : Int) < ((l.take i).length : Int) := by omega
  have ew : wrap64 ((i : Int) + 1) = ((i + 1 : Nat) : Int) := (w64 (by omega) (by omega)).trans (by omega)
  simp only [impl_ArePeople.l1, if_neg c1, ew]
  rw [sameB_end l i j (by omega), if_neg (by simp)]
  rfl
 | succ e ih =>
  intro k j hj hk
  obtain ⟨k, rfl⟩ : ∃ m, k = m + 1 := ⟨k - 1, by omega⟩
  have c1 : (j : Int) < ((l.take i).length : Int) := by omega
  have c2 : 0 ≤ (j : Int) := by omega
  have ew : wrap64 ((j : Int) + 1) = ((j + 1 : Nat) : Int) := (w64 (by omega) (by omega)).trans (by omega)
  simp only [impl_ArePeople.l1, if_pos c1, if_pos c2, ew, rd_take l i j (by omega)]
  by_cases h : (rd_T41 l (j : Int)).f1.toList = (rd_T41 l (i : Int)).f1.toList
  ·rw [if_pos h, sameB_hit l i j (by omega) h, if_pos rfl]
  ·have e2 : k + 1 - (e + 1) - 1 = k - e - 1 := by omega
   rw [if_neg h, ih k (j + 1) (by omega) (by omega), e2, sameB_step l i j h]
theorem skills_eq (x : Int) : spec_l5Skills.f x = some (decide (0 ≤ x ∧ x ≤ 15)) := by unfold spec_l5Skills.f; rw [l1In_eq]; rfl
theorem areSkills_eq (x : Int) : impl_areSkills.f x = some (decide (0 ≤ x ∧ x ≤ 15)) := by unfold impl_areSkills.f; rw [within_eq]; rfl
theorem isId_eq (x : Int) : impl_isId.f x = some (decide (1 ≤ x ∧ x ≤ 99)) := by unfold impl_isId.f; rw [within_eq]; rfl
theorem specGood_loop (l : List S41) (hl : l.length ≤ 140737488351232) (M : Nat) (hM : ∀ x ∈ l, x.f1.size < M ∧ x.f1.size ≤ 140737488351232) (d : Nat) : ∀ (k i : Nat), i + d = l.length → d * (l.length + 3) + M < k →
  spec_l5Good.l0 k l (i : Int) = some (goodB l i) := by
 induction d with
 | zero =>
  intro k i hd hk
  obtain ⟨k, rfl⟩ : ∃ m, k = m + 1 := ⟨k - 1, by omega⟩
  have c1 : ¬ (i : Int) < (l.length : Int) := by omega
  simp only [spec_l5Good.l0, if_neg c1]
  refine congrArg some ?_
  rw [Bool.eq_iff_iff, goodB_true, decide_eq_true_eq]
  exact ⟨fun h => ⟨fun m h1 h2 => by omega, by omega⟩, fun h => by have := h.2; omega⟩
 | succ d ih =>
  intro k i hd hk
  rw [Nat.succ_mul] at hk
  obtain ⟨k, rfl⟩ : ∃ m, k = m + 2 := ⟨k - 2, by omega⟩
  have hi : i < l.length := by omega
  have c1 : (i : Int) < (l.length : Int) := by omega
  have c2 : 0 ≤ (i : Int) := by omega
  have hmem : rd_T41 l (i : Int) ∈ l := by
   have : rd_T41 l (i : Int) = l[i] := by simp [rd_T41, hi]
   rw [this]
   exact List.getElem_mem hi
  have hw := hM _ hmem
  simp only [spec_l5Good.l0, if_pos c1, if_pos c2, l1In_eq, l2Word_eq _ hw.2 (show (rd_T41 l (i : Int)).f1.size < k + 1 by omega), skills_eq, Option.bind_some]
  have hbad : ∀ a c e, spec_l5Good.j1 (k + 1) l (i : Int) true a (rd_T41 l (i : Int)).f1 c e = some false := fun a c e => by simp [spec_l5Good.j1]
  by_cases h1 : 1 ≤ (rd_T41 l (i : Int)).f0 ∧ (rd_T41 l (i : Int)).f0 ≤ 99
  case neg =>
   rw [decide_eq_false h1, if_neg (by simp), hbad, goodB_not hi (fun z => h1 z.1)]
  rw [decide_eq_true h1, if_pos rfl]
  by_cases h2 : vWord (rd_T41 l (i : Int)).f1 = true
  case neg =>
   rw [if_neg h2, hbad, goodB_not hi (fun z => h2 z.2.1)]
  rw [if_pos h2]
  by_cases h3 : 0 ≤ (rd_T41 l (i : Int)).f2 ∧ (rd_T41 l (i : Int)).f2 ≤ 15
  case neg =>
   rw [decide_eq_false h3, if_neg (by simp), hbad, goodB_not hi (fun z => h3 z.2.2.1)]
  rw [decide_eq_true h3, if_pos rfl]
  by_cases h4 : 0 ≤ (rd_T41 l (i : Int)).f3 ∧ (rd_T41 l (i : Int)).f3 ≤ 500
  case neg =>
   rw [decide_eq_false h4, if_neg (by simp), hbad, goodB_not hi (fun z => h4 z.2.2.2.1)]
  rw [decide_eq_true h4, if_pos rfl]
  have last : ∀ a c e, (0 < i → (rd_T41 l ((i - 1 : Nat) : Int)).f0 < (rd_T41 l (i : Int)).f0) → spec_l5Good.j1 (k + 1) l (i : Int) false a (rd_T41 l (i : Int)).f1 c e = some (goodB l i) := by
   intro a c e h5
   simp only [spec_l5Good.j1, Bool.false_eq_true, if_false]
   have hn := specNames l i hi hl a c e i k 0 (by omega) (by omega)
   have hn' : spec_l5Good.l1 k l (i : Int) 0 a (rd_T41 l (i : Int)).f1 c e = _ := hn
   rw [hn']
   by_cases q : sameB l i 0 = true
   ·rw [if_pos q, goodB_not hi (fun z => by obtain ⟨m, _, h6, h7⟩ := (sameB_true l i 0).mp q; exact z.2.2.2.2.2 m h6 h7)]
   ·rw [if_neg q, ih (k - i - 1) (i + 1) (by omega) (by omega), goodB_step (i := i) ⟨h1, h2, h3, h4, h5, fun j hj z => q ((sameB_true l i 0).mpr ⟨j, Nat.zero_le _, hj, z⟩)⟩]
  by_cases h0 : (i : Int) > 0
  ·have ew' : wrap64 ((i : Int) - 1) = ((i - 1 : Nat) : Int) := (w64 (by omega) (by omega)).trans (by omega)
   have c3 : 0 ≤ ((i - 1 : Nat) : Int) := by omega
   have c4 : ((i - 1 : Nat) : Int) < (l.length : Int) := by omega
   rw [if_pos h0, ew', if_pos c3, if_pos c4]
   by_cases h5 : (rd_T41 l ((i - 1 : Nat) : Int)).f0 ≥ (rd_T41 l (i : Int)).f0
   ·rw [decide_eq_true h5, hbad, goodB_not hi (fun z => by have := z.2.2.2.2.1 (by omega); omega)]
   ·rw [decide_eq_false h5]
    exact last _ _ _ (fun _ => by omega)
  ·rw [if_neg h0]
   exact last _ _ _ (fun z => by omega)
theorem implGood_loop (l : List S41) (hl : l.length ≤ 140737488351232) (d : Nat) : ∀ (k i : Nat), i + d = l.length → d * (l.length + 3) < k →
  impl_ArePeople.l0 k l l (l.length : Int) (i : Int) = some (goodB l i) := by
 induction d with
 | zero =>
  intro k i hd hk
  obtain ⟨k, rfl⟩ : ∃ m, k = m + 1 := ⟨k - 1, by omega⟩
  have c1 : ¬ (i : Int) < (l.length : Int) := by omega
  simp only [impl_ArePeople.l0, if_neg c1]
  refine congrArg some ?_
  rw [Bool.eq_iff_iff, goodB_true, decide_eq_true_eq]
  exact ⟨fun h => ⟨fun m h1 h2 => by omega, by omega⟩, fun h => by have := h.2; omega⟩
 | succ d ih =>
  intro k i hd hk
  rw [Nat.succ_mul] at hk
  obtain ⟨k, rfl⟩ : ∃ m, k = m + 2 := ⟨k - 2, by omega⟩
  have hi : i < l.length := by omega
  have c1 : (i : Int) < (l.length : Int) := by omega
  have c2 : 0 ≤ (i : Int) := by omega
  simp only [impl_ArePeople.l0, if_pos c1, if_pos c2, within_eq, isId_eq, isWord_eq, areSkills_eq, Option.bind_some]
  have hbad : ∀ a c e, impl_ArePeople.j1 (k + 1) l (i : Int) l (l.length : Int) (i : Int) true a (rd_T41 l (i : Int)).f1 c e = some false := fun a c e => by simp [impl_ArePeople.j1]
  by_cases h1 : 1 ≤ (rd_T41 l (i : Int)).f0 ∧ (rd_T41 l (i : Int)).f0 ≤ 99
  case neg =>
   rw [decide_eq_false h1, if_neg (by simp), hbad, goodB_not hi (fun z => h1 z.1)]
  rw [decide_eq_true h1, if_pos rfl]
  by_cases h2 : vWord (rd_T41 l (i : Int)).f1 = true
  case neg =>
   rw [if_neg h2, hbad, goodB_not hi (fun z => h2 z.2.1)]
  rw [if_pos h2]
  by_cases h3 : 0 ≤ (rd_T41 l (i : Int)).f2 ∧ (rd_T41 l (i : Int)).f2 ≤ 15
  case neg =>
   rw [decide_eq_false h3, if_neg (by simp), hbad, goodB_not hi (fun z => h3 z.2.2.1)]
  rw [decide_eq_true h3, if_pos rfl]
  by_cases h4 : 0 ≤ (rd_T41 l (i : Int)).f3 ∧ (rd_T41 l (i : Int)).f3 ≤ 500
  case neg =>
   rw [decide_eq_false h4, if_neg (by simp), hbad, goodB_not hi (fun z => h4 z.2.2.2.1)]
  rw [decide_eq_true h4, if_pos rfl]
  have last : ∀ a c e, (0 < i → (rd_T41 l ((i - 1 : Nat) : Int)).f0 < (rd_T41 l (i : Int)).f0) → impl_ArePeople.j1 (k + 1) l (i : Int) l (l.length : Int) (i : Int) false a (rd_T41 l (i : Int)).f1 c e = some (goodB l i) := by
   intro a c e h5
   have c5 : (i : Int) ≤ (l.length : Int) := by omega
   simp only [impl_ArePeople.j1, Bool.false_eq_true, if_false, if_pos c2, if_pos c5, Option.bind_some, Int.toNat_natCast]
   have hn := implNames l i hi hl a c e i k 0 (by omega) (by omega)
   have hn' : impl_ArePeople.l1 k l l (l.length : Int) (i : Int) (l.take i) ((l.take i).length : Int) 0 a (rd_T41 l (i : Int)).f1 c e = _ := hn
   rw [hn']
   by_cases q : sameB l i 0 = true
   ·rw [if_pos q, goodB_not hi (fun z => by obtain ⟨m, _, h6, h7⟩ := (sameB_true l i 0).mp q; exact z.2.2.2.2.2 m h6 h7)]
   ·rw [if_neg q, ih (k - i - 1) (i + 1) (by omega) (by omega), goodB_step (i := i) ⟨h1, h2, h3, h4, h5, fun j hj z => q ((sameB_true l i 0).mpr ⟨j, Nat.zero_le _, hj, z⟩)⟩]
  by_cases h0 : (i : Int) > 0
  ·have ew' : wrap64 ((i : Int) - 1) = ((i - 1 : Nat) : Int) := (w64 (by omega) (by omega)).trans (by omega)
   have c3 : 0 ≤ ((i - 1 : Nat) : Int) := by omega
   have c4 : ((i - 1 : Nat) : Int) < (l.length : Int) := by omega
   rw [if_pos h0, ew', if_pos c3, if_pos c4]
   by_cases h5 : (rd_T41 l ((i - 1 : Nat) : Int)).f0 ≥ (rd_T41 l (i : Int)).f0
   ·rw [decide_eq_true h5, hbad, goodB_not hi (fun z => by have := z.2.2.2.2.1 (by omega); omega)]
   ·rw [decide_eq_false h5]
    exact last _ _ _ (fun _ => by omega)
  ·rw [if_neg h0]
   exact last _ _ _ (fun z => by omega)
noncomputable def goodP (l : List S41) : Bool := goodB l 0
theorem specGood_eq (l : List S41) (hl : l.length ≤ 1048576) (M : Nat) (hM : ∀ x ∈ l, x.f1.size < M ∧ x.f1.size ≤ 140737488351232) {k : Nat} (hk : l.length * (l.length + 3) + M < k) : spec_l5Good.f k l = some (goodP l) :=
 specGood_loop l (by omega) M hM l.length k 0 (by omega) hk
theorem implGood_eq (l : List S41) (hl : l.length ≤ 1048576) {k : Nat} (hk : l.length * (l.length + 3) < k) : impl_ArePeople.f k l = some (goodP l) :=
 implGood_loop l (by omega) l.length k 0 (by omega) hk
theorem ixFrom_le (id : Int) : ∀ (l : List S41) (i : Nat), ixFrom id l i < (i : Int) + l.length := by
 intro l
 induction l with
 | nil => intro i; simp only [ixFrom, List.length_nil]; omega
 | cons y r ih =>
  intro i
  simp only [ixFrom, List.length_cons]
  split
  ·omega
  ·have := ih (i + 1); omega
theorem ixFrom_f0 (id : Int) : ∀ (l : List S41) (i : Nat), 0 ≤ ixFrom id l i → (i : Int) ≤ ixFrom id l i ∧ (rd_T41 l (ixFrom id l i - i)).f0 = id := by
 intro l
 induction l with
 | nil => intro i h; simp only [ixFrom] at h; omega
 | cons y r ih =>
  intro i h
  simp only [ixFrom] at h ⊢
  split
  ·rename_i hy
   refine ⟨Int.le_refl _, ?_⟩
   rw [Int.sub_self]
   exact hy
  ·rename_i hy
   rw [if_neg hy] at h
   obtain ⟨h1, h2⟩ := ih (i + 1) h
   refine ⟨by omega, ?_⟩
   have e : (ixFrom id r (i + 1) - (i : Int)).toNat = (ixFrom id r (i + 1) - ((i + 1 : Nat) : Int)).toNat + 1 := by omega
   unfold rd_T41 at h2 ⊢
   rw [e, List.getD_cons_succ]
   exact h2
theorem find_loop (l : List S41) (id : Int) (hl : l.length ≤ 140737488351232) (d : Nat) : ∀ (k i : Nat), i + d = l.length → d < k → spec_l5Find.l0 k l id (i : Int) = some (ixFrom id (l.drop i) i) := by
 induction d with
 | zero =>
  intro k i hd hk
  obtain ⟨k, rfl⟩ : ∃ m, k = m + 1 := ⟨k - 1, by omega⟩
  have c1 : ¬ (i : Int) < (l.length : Int) := by omega
  simp only [spec_l5Find.l0, if_neg c1]
  rw [List.drop_of_length_le (by omega)]
  rfl
 | succ d ih =>
  intro k i hd hk
  obtain ⟨k, rfl⟩ : ∃ m, k = m + 1 := ⟨k - 1, by omega⟩
  have ew : wrap64 ((i : Int) + 1) = ((i + 1 : Nat) : Int) := (w64 (by omega) (by omega)).trans (by omega)
  have c1 : (i : Int) < (l.length : Int) := by omega
  have c2 : 0 ≤ (i : Int) := by omega
  simp only [spec_l5Find.l0, if_pos c1, if_pos c2, ew]
  rw [rd_T41_drop l i (by omega)]
  simp only [ixFrom]
  by_cases h : (rd_T41 l (i : Int)).f0 = id
  ·rw [if_pos h, if_pos h]
  ·rw [if_neg h, if_neg h]
   exact ih k (i + 1) (by omega) (by omega)
theorem find_eq (l : List S41) (id : Int) (hl : l.length ≤ 140737488351232) {k : Nat} (hk : l.length < k) : spec_l5Find.f k l id = some (ixFrom id l 0) := by
 have h := find_loop l id hl l.length k 0 (by omega) hk
 simpa [spec_l5Find.f] using h
theorem rising_loop (l : List Int) (hl : l.length ≤ 140737488351232) (d : Nat) : ∀ (i : Nat), i + d = l.length → ∃ b : Bool, (∀ k, d < k → spec_l1Rising.l0 k l 1 99 (i : Int) = some b ∧ impl_strictly.l0 k l 1 99 l (l.length : Int) (i : Int) = some b) ∧
   (b = true → ∀ j, i ≤ j → j < l.length → 0 < j → rd l ((j - 1 : Nat) : Int) < rd l (j : Int)) := by
 induction d with
 | zero =>
  intro i hd
  refine ⟨true, fun k hk => ?_, fun _ j h1 h2 => by omega⟩
  obtain ⟨k, rfl⟩ : ∃ m, k = m + 1 := ⟨k - 1, by omega⟩
  have c1 : ¬ (i : Int) < (l.length : Int) := by omega
  simp only [spec_l1Rising.l0, impl_strictly.l0, if_neg c1]
  exact ⟨trivial, trivial⟩
 | succ d ih =>
  intro i hd
  have ew : wrap64 ((i : Int) + 1) = ((i + 1 : Nat) : Int) := (w64 (by omega) (by omega)).trans (by omega)
  have c1 : (i : Int) < (l.length : Int) := by omega
  have c2 : 0 ≤ (i : Int) := by omega
  obtain ⟨b, hb, hb2⟩ := ih (i + 1) (by omega)
  by_cases h1 : 1 ≤ rd l (i : Int) ∧ rd l (i : Int) ≤ 99
  case neg =>
   refine ⟨false, fun k hk => ?_, fun z => by cases z⟩
   obtain ⟨k, rfl⟩ : ∃ m, k = m + 1 := ⟨k - 1, by omega⟩
   simp only [spec_l1Rising.l0, impl_strictly.l0, if_pos c1, if_pos c2, l1In_eq, within_eq, Option.bind_some, decide_eq_false h1, Bool.false_eq_true, if_false]
   exact ⟨trivial, trivial⟩
  by_cases h0 : (i : Int) > 0
  ·have ew' : wrap64 ((i : Int) - 1) = ((i - 1 : Nat) : Int) := (w64 (by omega) (by omega)).trans (by omega)
   have c3 : 0 ≤ ((i - 1 : Nat) : Int) := by omega
   have c4 : ((i - 1 : Nat) : Int) < (l.length : Int) := by omega
   by_cases h5 : rd l ((i - 1 : Nat) : Int) ≥ rd l (i : Int)
   ·refine ⟨false, fun k hk => ?_, fun z => by cases z⟩
    obtain ⟨k, rfl⟩ : ∃ m, k = m + 1 := ⟨k - 1, by omega⟩
    simp only [spec_l1Rising.l0, impl_strictly.l0, if_pos c1, if_pos c2, l1In_eq, within_eq, Option.bind_some, decide_eq_true h1, if_true, if_pos h0, ew', if_pos c3, if_pos c4, if_pos h5]
    exact ⟨trivial, trivial⟩
   ·refine ⟨b, fun k hk => ?_, fun z j q1 q2 q3 => ?_⟩
    ·obtain ⟨k, rfl⟩ : ∃ m, k = m + 1 := ⟨k - 1, by omega⟩
     simp only [spec_l1Rising.l0, impl_strictly.l0, if_pos c1, if_pos c2, l1In_eq, within_eq, Option.bind_some, decide_eq_true h1, if_true, if_pos h0, ew', if_pos c3, if_pos c4, if_neg h5, ew]
     exact hb k (by omega)
    ·rcases Nat.eq_or_lt_of_le q1 with rfl | q
     ·omega
     ·exact hb2 z j q q2 q3
  ·refine ⟨b, fun k hk => ?_, fun z j q1 q2 q3 => ?_⟩
   ·obtain ⟨k, rfl⟩ : ∃ m, k = m + 1 := ⟨k - 1, by omega⟩
    simp only [spec_l1Rising.l0, impl_strictly.l0, if_pos c1, if_pos c2, l1In_eq, within_eq, Option.bind_some, decide_eq_true h1, if_true, if_neg h0, ew]
    exact hb k (by omega)
   ·exact hb2 z j (by omega) q2 q3
theorem rising_lt (l : List Int) (h : ∀ j, 0 ≤ j → j < l.length → 0 < j → rd l ((j - 1 : Nat) : Int) < rd l (j : Int)) : ∀ d i, i + d + 1 < l.length → rd l (i : Int) < rd l ((i + d + 1 : Nat) : Int)
 | 0, i, hi => by
  have := h (i + 1) (by omega) (by omega) (by omega)
  simpa using this
 | d + 1, i, hi => by
  have h1 := rising_lt l h d i (by omega)
  have h2 := h (i + (d + 1) + 1) (by omega) hi (by omega)
  have e : i + (d + 1) + 1 - 1 = i + d + 1 := by omega
  rw [e] at h2
  omega
theorem rising_eq (l : List Int) (hl : l.length ≤ 140737488351232) : ∃ b : Bool, (∀ k, l.length < k → spec_l1Rising.f k l 1 99 = some b ∧ impl_strictly.f k l 1 99 = some b) ∧ (b = true → l.Pairwise (fun x y => x ≠ y)) := by
 obtain ⟨b, hb, hb2⟩ := rising_loop l hl l.length 0 (by omega)
 refine ⟨b, fun k hk => hb k hk, fun z => ?_⟩
 rw [List.pairwise_iff_getElem]
 intro i j hi hj hij
 have h := rising_lt l (fun m q1 q2 q3 => hb2 z m q1 q2 q3) (j - i - 1) i (by omega)
 have e : i + (j - i - 1) + 1 = j := by omega
 rw [e] at h
 have e1 : rd l (i : Int) = l[i] := by simp [rd, hi]
 have e2 : rd l (j : Int) = l[j] := by simp [rd, hj]
 rw [e1, e2] at h
 omega
def allIn (l : List S41) (ids : List Int) : Bool := ids.all fun id => decide (0 ≤ ixFrom id l 0)
def mem (l : List S41) (id : Int) : S41 := rd_T41 l (ixFrom id l 0)
theorem memLoop_eq (l : List S41) : ∀ (ids : List Int) (acc : List S41), acc.length + ids.length ≤ 2000000 → memLoop l ids acc = some (if allIn l ids = true then (acc ++ ids.map (mem l), true) else ([], false)) := by
 intro ids
 induction ids with
 | nil => intro acc h; simp [memLoop, allIn]
 | cons id r ih =>
  intro acc h
  simp only [List.length_cons] at h
  have hle := ixFrom_le id l 0
  simp only [memLoop]
  by_cases c : ixFrom id l 0 < 0
  ·rw [if_pos c]
   have : allIn l (id :: r) = false := by simp [allIn]; intro q; omega
   rw [this]
   rfl
  ·have e : allIn l (id :: r) = allIn l r := by simp only [allIn, List.all_cons, decide_eq_true (show 0 ≤ ixFrom id l 0 by omega), Bool.true_and]
   rw [if_neg c, if_pos (by omega), if_pos (by omega), ih _ (by simp; omega), e]
   simp [mem]
theorem membersOf_eq (l : List S41) (ids : List Int) (hi : ids.length ≤ 1048576) {b : Bool} {k : Nat} (hk : impl_strictly.f k ids 1 99 = some b) : impl_membersOf.f k l ids = some (if b = true ∧ allIn l ids = true then (ids.map (mem l), true) else ([], false)) := by
 unfold impl_membersOf.f
 rw [hk]
 simp only [Option.bind_some]
 cases b
 ·simp
 ·rw [if_pos rfl, memLoop_eq l ids [] (by simp; omega)]
  simp
theorem asked_loop (l : List S41) (ids : List Int) (g b : Bool) (K : Nat) (hl : l.length ≤ 1048576) (hi : ids.length ≤ 1048576) (hg : ∀ k, K < k → spec_l5Good.f k l = some g) (hb : ∀ k, K < k → spec_l1Rising.f k ids 1 99 = some b) (hK : l.length ≤ K) (d : Nat) : ∀ (k i : Nat), i + d = ids.length → d + K + 1 < k → spec_l5Asked.l0 k l ids (i : Int) = some (allIn l (ids.drop i) && g && b) := by
 induction d with
 | zero =>
  intro k i hd hk
  obtain ⟨k, rfl⟩ : ∃ m, k = m + 1 := ⟨k - 1, by omega⟩
  have c1 : ¬ (i : Int) < (ids.length : Int) := by omega
  simp only [spec_l5Asked.l0, if_neg c1, hg k (by omega), hb k (by omega), Option.bind_some]
  rw [List.drop_of_length_le (by omega)]
  cases g <;> simp [allIn]
 | succ d ih =>
  intro k i hd hk
  obtain ⟨k, rfl⟩ : ∃ m, k = m + 1 := ⟨k - 1, by omega⟩
  have ew : wrap64 ((i : Int) + 1) = ((i + 1 : Nat) : Int) := (w64 (by omega) (by omega)).trans (by omega)
  have c1 : (i : Int) < (ids.length : Int) := by omega
  have c2 : 0 ≤ (i : Int) := by omega
  have hd2 := ids_drop ids i (by omega)
  simp only [spec_l5Asked.l0, if_pos c1, if_pos c2, ew, find_eq l _ (show l.length ≤ 140737488351232 by omega) (show l.length < k by omega), Option.bind_some]
  rw [hd2]
  by_cases c : ixFrom (rd ids (i : Int)) l 0 < 0
  ·have : allIn l (rd ids (i : Int) :: ids.drop (i + 1)) = false := by simp [allIn]; intro q; omega
   rw [if_pos c, this]
   simp
  ·have e : allIn l (rd ids (i : Int) :: ids.drop (i + 1)) = allIn l (ids.drop (i + 1)) := by simp only [allIn, List.all_cons, decide_eq_true (show 0 ≤ ixFrom (rd ids (i : Int)) l 0 by omega), Bool.true_and]
   rw [if_neg c, e]
   exact ih k (i + 1) (by omega) (by omega)
theorem asked_eq (l : List S41) (ids : List Int) (g b : Bool) (K : Nat) (hl : l.length ≤ 1048576) (hi : ids.length ≤ 1048576) (hg : ∀ k, K < k → spec_l5Good.f k l = some g) (hb : ∀ k, K < k → spec_l1Rising.f k ids 1 99 = some b) (hK : l.length ≤ K) {k : Nat} (hk : ids.length + K + 1 < k) : spec_l5Asked.f k l ids = some (allIn l ids && g && b) := by
 have h := asked_loop l ids g b K hl hi hg hb hK ids.length k 0 (by omega) hk
 simpa [spec_l5Asked.f] using h
theorem bit1 (s : Int) (h0 : 0 ≤ s) (h1 : s ≤ 15) : Go.bits .and .i64 s 1 = s % 2 := by
 have : ∀ n : Fin 16, Go.bits .and .i64 (n.val : Int) 1 = (n.val : Int) % 2 := by decide +kernel
 have h := this ⟨s.toNat, by omega⟩
 simp only [Int.toNat_of_nonneg h0] at h
 exact h
theorem bit2 (s : Int) (h0 : 0 ≤ s) (h1 : s ≤ 15) : Go.bits .and .i64 s 2 = s / 2 % 2 * 2 := by
 have : ∀ n : Fin 16, Go.bits .and .i64 (n.val : Int) 2 = (n.val : Int) / 2 % 2 * 2 := by decide +kernel
 have h := this ⟨s.toNat, by omega⟩
 simp only [Int.toNat_of_nonneg h0] at h
 exact h
theorem bit3 (s : Int) (h0 : 0 ≤ s) (h1 : s ≤ 15) : Go.bits .and .i64 s 3 = s % 4 := by
 have : ∀ n : Fin 16, Go.bits .and .i64 (n.val : Int) 3 = (n.val : Int) % 4 := by decide +kernel
 have h := this ⟨s.toNat, by omega⟩
 simp only [Int.toNat_of_nonneg h0] at h
 exact h
theorem bitOr (s t : Int) (h0 : 0 ≤ s) (h1 : s ≤ 15) (g0 : 0 ≤ t) (g1 : t ≤ 15) : 0 ≤ Go.bits .or .i64 s t ∧ Go.bits .or .i64 s t ≤ 15 ∧ (Go.bits .or .i64 s t % 2 = 0 ↔ s % 2 = 0 ∧ t % 2 = 0) ∧ (Go.bits .or .i64 s t / 2 % 2 = 0 ↔ s / 2 % 2 = 0 ∧ t / 2 % 2 = 0) := by
 have : ∀ n m : Fin 16, 0 ≤ Go.bits .or .i64 (n.val : Int) (m.val : Int) ∧ Go.bits .or .i64 (n.val : Int) (m.val : Int) ≤ 15 ∧ (Go.bits .or .i64 (n.val : Int) (m.val : Int) % 2 = 0 ↔ (n.val : Int) % 2 = 0 ∧ (m.val : Int) % 2 = 0) ∧ (Go.bits .or .i64 (n.val : Int) (m.val : Int) / 2 % 2 = 0 ↔ (n.val : Int) / 2 % 2 = 0 ∧ (m.val : Int) / 2 % 2 = 0) := by decide +kernel
 have h := this ⟨s.toNat, by omega⟩ ⟨t.toNat, by omega⟩
 simp only [Int.toNat_of_nonneg h0, Int.toNat_of_nonneg g0] at h
 exact h
def orAll : List S41 → Int → Int
 | [], s => s
 | x :: r, s => orAll r (Go.bits .or .i64 s x.f2)
def tripsAll : List S41 → Int → Int
 | [], s => s
 | x :: r, s => tripsAll r (wrap64 (s + x.f3))
def able (M : List S41) : List S41 := M.filter fun x => decide (¬ Go.bits .and .i64 x.f2 3 = 0)
theorem all_loop (l : List S41) (ids : List Int) (hl : l.length ≤ 1048576) (hi : ids.length ≤ 1048576) (ha : allIn l ids = true) (d : Nat) : ∀ (k i : Nat) (s t : Int), i + d = ids.length → d + l.length + 1 < k → spec_l5All.l0 k l ids s t (i : Int) = some (orAll ((ids.drop i).map (mem l)) s, tripsAll ((ids.drop i).map (mem l)) t) := by
 induction d with
 | zero =>
  intro k i s t hd hk
  obtain ⟨k, rfl⟩ : ∃ m, k = m + 1 := ⟨k - 1, by omega⟩
  have c1 : ¬ (i : Int) < (ids.length : Int) := by omega
  simp only [spec_l5All.l0, if_neg c1]
  rw [List.drop_of_length_le (by omega)]
  rfl
 | succ d ih =>
  intro k i s t hd hk
  obtain ⟨k, rfl⟩ : ∃ m, k = m + 1 := ⟨k - 1, by omega⟩
  have ew : wrap64 ((i : Int) + 1) = ((i + 1 : Nat) : Int) := (w64 (by omega) (by omega)).trans (by omega)
  have c1 : (i : Int) < (ids.length : Int) := by omega
  have c2 : 0 ≤ (i : Int) := by omega
  have hd2 := ids_drop ids i (by omega)
  have hle := ixFrom_le (rd ids (i : Int)) l 0
  have h0 : 0 ≤ ixFrom (rd ids (i : Int)) l 0 := by
   have hm : rd ids (i : Int) ∈ ids := by
    have e : rd ids (i : Int) = ids[i] := by simp [rd, show i < ids.length by omega]
    rw [e]; exact List.getElem_mem _
   simpa using List.all_eq_true.mp ha _ hm
  have h1 : ixFrom (rd ids (i : Int)) l 0 < (l.length : Int) := by omega
  simp only [spec_l5All.l0, if_pos c1, if_pos c2, ew, find_eq l _ (show l.length ≤ 140737488351232 by omega) (show l.length < k by omega), Option.bind_some, if_pos h0, if_pos h1]
  rw [hd2, ih k (i + 1) _ _ (by omega) (by omega)]
  rfl
theorem all_eq (l : List S41) (ids : List Int) (hl : l.length ≤ 1048576) (hi : ids.length ≤ 1048576) (ha : allIn l ids = true) {k : Nat} (hk : ids.length + l.length + 1 < k) : spec_l5All.f k l ids = some (orAll (ids.map (mem l)) 0, tripsAll (ids.map (mem l)) 0) := by
 have h := all_loop l ids hl hi ha ids.length k 0 0 0 (by omega) hk
 simpa [spec_l5All.f] using h
theorem team_loop (l : List S41) (ids : List Int) (s : Int) (hl : l.length ≤ 1048576) (hi : ids.length ≤ 1048576) (ha : allIn l ids = true) (d : Nat) : ∀ (k i c : Nat), i + d = ids.length → c ≤ i → d + l.length + 1 < k → spec_l5Team.l0 k l ids s (c : Int) (i : Int) = some (decide (2 ≤ ids.length ∧ ids.length ≤ 5 ∧ Go.bits .and .i64 s 3 = 3 ∧ 2 ≤ c + (able ((ids.drop i).map (mem l))).length)) := by
 induction d with
 | zero =>
  intro k i c hd hc hk
  obtain ⟨k, rfl⟩ : ∃ m, k = m + 1 := ⟨k - 1, by omega⟩
  have c1 : ¬ (i : Int) < (ids.length : Int) := by omega
  simp only [spec_l5Team.l0, if_neg c1, l1In_eq, Option.bind_some]
  rw [List.drop_of_length_le (by omega)]
  have e0 : (able (List.map (mem l) [])).length = 0 := rfl
  rw [e0]
  by_cases h1 : (2 : Int) ≤ (ids.length : Int) ∧ (ids.length : Int) ≤ 5
  ·rw [decide_eq_true h1, if_pos rfl]
   by_cases h2 : Go.bits .and .i64 s 3 = 3
   ·rw [if_pos h2]
    refine congrArg some (decide_eq_decide.mpr ⟨fun z => ⟨by omega, by omega, h2, by omega⟩, fun z => by have := z.2.2.2; omega⟩)
   ·rw [if_neg h2]
    exact congrArg some (decide_eq_false (fun z => h2 z.2.2.1)).symm
  ·rw [decide_eq_false h1, if_neg (by simp)]
   exact congrArg some (decide_eq_false (fun z => h1 ⟨by have := z.1; omega, by have := z.2.1; omega⟩)).symm
 | succ d ih =>
  intro k i c hd hc hk
  obtain ⟨k, rfl⟩ : ∃ m, k = m + 1 := ⟨k - 1, by omega⟩
  have ew : wrap64 ((i : Int) + 1) = ((i + 1 : Nat) : Int) := (w64 (by omega) (by omega)).trans (by omega)
  have ewc : wrap64 ((c : Int) + 1) = ((c + 1 : Nat) : Int) := (w64 (by omega) (by omega)).trans (by omega)
  have c1 : (i : Int) < (ids.length : Int) := by omega
  have c2 : 0 ≤ (i : Int) := by omega
  have hd2 := ids_drop ids i (by omega)
  have hle := ixFrom_le (rd ids (i : Int)) l 0
  have h0 : 0 ≤ ixFrom (rd ids (i : Int)) l 0 := by
   have hm : rd ids (i : Int) ∈ ids := by
    have e : rd ids (i : Int) = ids[i] := by simp [rd, show i < ids.length by omega]
    rw [e]; exact List.getElem_mem _
   simpa using List.all_eq_true.mp ha _ hm
  have h1 : ixFrom (rd ids (i : Int)) l 0 < (l.length : Int) := by omega
  simp only [spec_l5Team.l0, if_pos c1, if_pos c2, ew, ewc, find_eq l _ (show l.length ≤ 140737488351232 by omega) (show l.length < k by omega), Option.bind_some, if_pos h0, if_pos h1]
  rw [hd2, List.map_cons]
  by_cases h : Go.bits .and .i64 (mem l (rd ids (i : Int))).f2 3 = 0
  ·have e : able (mem l (rd ids (i : Int)) :: (ids.drop (i + 1)).map (mem l)) = able ((ids.drop (i + 1)).map (mem l)) := by
    unfold able; rw [List.filter_cons_of_neg (by simpa using h)]
   rw [e]
   have h' : Go.bits .and .i64 (rd_T41 l (ixFrom (rd ids (i : Int)) l 0)).f2 3 = 0 := h
   rw [if_pos h']
   exact ih k (i + 1) c (by omega) (by omega) (by omega)
  ·have e : able (mem l (rd ids (i : Int)) :: (ids.drop (i + 1)).map (mem l)) = mem l (rd ids (i : Int)) :: able ((ids.drop (i + 1)).map (mem l)) := by
    unfold able; rw [List.filter_cons_of_pos (by simpa using h)]
   rw [e, List.length_cons]
   have h' : ¬ Go.bits .and .i64 (rd_T41 l (ixFrom (rd ids (i : Int)) l 0)).f2 3 = 0 := h
   rw [if_neg h', ih k (i + 1) (c + 1) (by omega) (by omega) (by omega)]
   refine congrArg some (decide_eq_decide.mpr ?_)
   have : c + 1 + (able ((ids.drop (i + 1)).map (mem l))).length = c + ((able ((ids.drop (i + 1)).map (mem l))).length + 1) := by omega
   rw [this]
def teamP (M : List S41) : Bool := decide (2 ≤ M.length ∧ M.length ≤ 5 ∧ Go.bits .and .i64 (orAll M 0) 3 = 3 ∧ 2 ≤ (able M).length)
theorem team_eq (l : List S41) (ids : List Int) (hl : l.length ≤ 1048576) (hi : ids.length ≤ 1048576) (ha : allIn l ids = true) {k : Nat} (hk : ids.length + l.length + 1 < k) : spec_l5Team.f k l ids = some (teamP (ids.map (mem l))) := by
 unfold spec_l5Team.f
 rw [all_eq l ids hl hi ha hk]
 simp only [Option.bind_some]
 have h := team_loop l ids (orAll (ids.map (mem l)) 0) hl hi ha ids.length k 0 0 (by omega) (by omega) hk
 rw [List.drop_zero] at h
 refine Eq.trans h ?_
 unfold teamP
 rw [List.length_map, Nat.zero_add]
def pairOf (x y : S41) : Prop := x.f0 ≠ y.f0 ∧ ¬ Go.bits .and .i64 x.f2 1 = 0 ∧ ¬ Go.bits .and .i64 y.f2 2 = 0
instance (x y : S41) : Decidable (pairOf x y) := by unfold pairOf; infer_instance
theorem mate_loop (M : List S41) (hM : M.length ≤ 1048576) (i : Nat) (hi : i < M.length) (d : Nat) : ∀ (k j : Nat), j + d = M.length → d < k →
  ((∃ y ∈ M.drop j, pairOf (rd_T41 M (i : Int)) y) → impl_areTeam.l1 k M M (M.length : Int) (i : Int) M (M.length : Int) (j : Int) (rd_T41 M (i : Int)).f0 (rd_T41 M (i : Int)).f1 (rd_T41 M (i : Int)).f2 (rd_T41 M (i : Int)).f3 = some true) ∧
  (¬ (∃ y ∈ M.drop j, pairOf (rd_T41 M (i : Int)) y) → impl_areTeam.l1 k M M (M.length : Int) (i : Int) M (M.length : Int) (j : Int) (rd_T41 M (i : Int)).f0 (rd_T41 M (i : Int)).f1 (rd_T41 M (i : Int)).f2 (rd_T41 M (i : Int)).f3 = impl_areTeam.l0 (k - d - 1) M M (M.length : Int) ((i + 1 : Nat) : Int)) := by
 induction d with
 | zero =>
  intro k j hj hk
  obtain ⟨k, rfl⟩ : ∃ m, k = m + 1 := ⟨k - 1, by omega⟩
  have c1 : ¬ (j : Int) < (M.length : Int) := by omega
  have ew : wrap64 ((i : Int) + 1) = ((i + 1 : Nat) : Int) := (w64 (by omega) (by omega)).trans (by omega)
  rw [List.drop_of_length_le (by omega)]
  refine ⟨fun ⟨y, hy, _⟩ => by simp at hy, fun _ => ?_⟩
  simp only [impl_areTeam.l1, if_neg c1, ew]
  rfl
 | succ d ih =>
  intro k j hj hk
  obtain ⟨k, rfl⟩ : ∃ m, k = m + 1 := ⟨k - 1, by omega⟩
  have c1 : (j : Int) < (M.length : Int) := by omega
  have c2 : 0 ≤ (j : Int) := by omega
  have ew : wrap64 ((j : Int) + 1) = ((j + 1 : Nat) : Int) := (w64 (by omega) (by omega)).trans (by omega)
  have e2 : k + 1 - (d + 1) - 1 = k - d - 1 := by omega
  rw [e2]
  have ih := ih k (j + 1) (by omega) (by omega)
  have hex : (∃ y ∈ M.drop j, pairOf (rd_T41 M (i : Int)) y) ↔ (pairOf (rd_T41 M (i : Int)) (rd_T41 M (j : Int)) ∨ ∃ y ∈ M.drop (j + 1), pairOf (rd_T41 M (i : Int)) y) := by
   rw [rd_T41_drop M j (by omega)]
   simp only [List.mem_cons, exists_eq_or_imp]
  simp only [impl_areTeam.l1, if_pos c1, if_pos c2, ew]
  rw [hex]
  by_cases h1 : (rd_T41 M (i : Int)).f0 = (rd_T41 M (j : Int)).f0
  ·have hn : ¬ pairOf (rd_T41 M (i : Int)) (rd_T41 M (j : Int)) := fun z => z.1 h1
   simp only [if_pos h1, hn, false_or]
   exact ih
  simp only [if_neg h1]
  by_cases h2 : Go.bits .and .i64 (rd_T41 M (i : Int)).f2 1 = 0
  ·have hn : ¬ pairOf (rd_T41 M (i : Int)) (rd_T41 M (j : Int)) := fun z => z.2.1 h2
   simp only [if_pos h2, hn, false_or]
   exact ih
  simp only [if_neg h2]
  by_cases h3 : Go.bits .and .i64 (rd_T41 M (j : Int)).f2 2 = 0
  ·have hn : ¬ pairOf (rd_T41 M (i : Int)) (rd_T41 M (j : Int)) := fun z => z.2.2 h3
   simp only [if_pos h3, hn, false_or]
   exact ih
  simp only [if_neg h3]
  have hp : pairOf (rd_T41 M (i : Int)) (rd_T41 M (j : Int)) := ⟨h1, h2, h3⟩
  exact ⟨fun _ => trivial, fun z => absurd (Or.inl hp) z⟩
theorem mates_loop (M : List S41) (hM : M.length ≤ 1048576) (d : Nat) : ∀ (k i : Nat), i + d = M.length → d * (M.length + 2) < k →
  ((∃ x ∈ M.drop i, ∃ y ∈ M, pairOf x y) → impl_areTeam.l0 k M M (M.length : Int) (i : Int) = some true) ∧ (¬ (∃ x ∈ M.drop i, ∃ y ∈ M, pairOf x y) → impl_areTeam.l0 k M M (M.length : Int) (i : Int) = some false) := by
 induction d with
 | zero =>
  intro k i hj hk
  obtain ⟨k, rfl⟩ : ∃ m, k = m + 1 := ⟨k - 1, by omega⟩
  have c1 : ¬ (i : Int) < (M.length : Int) := by omega
  rw [List.drop_of_length_le (by omega)]
  refine ⟨fun ⟨y, hy, _⟩ => by simp at hy, fun _ => ?_⟩
  simp only [impl_areTeam.l0, if_neg c1]
 | succ d ih =>
  intro k i hj hk
  rw [Nat.succ_mul] at hk
  obtain ⟨k, rfl⟩ : ∃ m, k = m + 1 := ⟨k - 1, by omega⟩
  have c1 : (i : Int) < (M.length : Int) := by omega
  have c2 : 0 ≤ (i : Int) := by omega
  have hex : (∃ x ∈ M.drop i, ∃ y ∈ M, pairOf x y) ↔ ((∃ y ∈ M, pairOf (rd_T41 M (i : Int)) y) ∨ ∃ x ∈ M.drop (i + 1), ∃ y ∈ M, pairOf x y) := by
   rw [rd_T41_drop M i (by omega)]
   simp only [List.mem_cons, exists_eq_or_imp]
  obtain ⟨q1, q2⟩ := mate_loop M hM i (by omega) M.length k 0 (by omega) (by omega)
  rw [List.drop_zero] at q1 q2
  simp only [impl_areTeam.l0, if_pos c1, if_pos c2]
  rw [hex]
  by_cases h : ∃ y ∈ M, pairOf (rd_T41 M (i : Int)) y
  ·refine ⟨fun _ => q1 h, fun z => absurd (Or.inl h) z⟩
  ·have h2 := q2 h
   have h2' : impl_areTeam.l1 k M M (M.length : Int) (i : Int) M (M.length : Int) 0 (rd_T41 M (i : Int)).f0 (rd_T41 M (i : Int)).f1 (rd_T41 M (i : Int)).f2 (rd_T41 M (i : Int)).f3 = impl_areTeam.l0 (k - M.length - 1) M M (M.length : Int) ((i + 1 : Nat) : Int) := h2
   rw [h2']
   obtain ⟨r1, r2⟩ := ih (k - M.length - 1) (i + 1) (by omega) (by omega)
   exact ⟨fun z => r1 (z.resolve_left h), fun z => r2 (fun w => z (Or.inr w))⟩
theorem areTeam_eq (M : List S41) (hM : M.length ≤ 1048576) {k : Nat} (hk : M.length * (M.length + 2) < k) : impl_areTeam.f k M = some (decide ((2 ≤ M.length ∧ M.length ≤ 5) ∧ ∃ x ∈ M, ∃ y ∈ M, pairOf x y)) := by
 unfold impl_areTeam.f
 rw [within_eq]
 simp only [Option.bind_some]
 by_cases h : (2 : Int) ≤ (M.length : Int) ∧ (M.length : Int) ≤ 5
 ·rw [decide_eq_true h, if_pos rfl]
  obtain ⟨r1, r2⟩ := mates_loop M hM M.length k 0 (by omega) hk
  rw [List.drop_zero] at r1 r2
  by_cases q : ∃ x ∈ M, ∃ y ∈ M, pairOf x y
  ·refine Eq.trans (r1 q) (congrArg some (decide_eq_true ⟨⟨by omega, by omega⟩, q⟩).symm)
  ·refine Eq.trans (r2 q) (congrArg some (decide_eq_false (fun z => q z.2)).symm)
 ·rw [decide_eq_false h, if_neg (by simp)]
  exact congrArg some (decide_eq_false (fun z => h ⟨by omega, by omega⟩)).symm
def skillsOk (M : List S41) : Prop := ∀ x ∈ M, 0 ≤ x.f2 ∧ x.f2 ≤ 15
theorem orAll_ok : ∀ (M : List S41) (s : Int), skillsOk M → 0 ≤ s → s ≤ 15 → 0 ≤ orAll M s ∧ orAll M s ≤ 15 ∧ (orAll M s % 2 = 0 ↔ s % 2 = 0 ∧ ∀ x ∈ M, x.f2 % 2 = 0) ∧ (orAll M s / 2 % 2 = 0 ↔ s / 2 % 2 = 0 ∧ ∀ x ∈ M, x.f2 / 2 % 2 = 0) := by
 intro M
 induction M with
 | nil => intro s h h0 h1; simp [orAll, h0, h1]
 | cons x r ih =>
  intro s h h0 h1
  have hx := h x (List.mem_cons_self ..)
  obtain ⟨b0, b1, b2, b3⟩ := bitOr s x.f2 h0 h1 hx.1 hx.2
  obtain ⟨i0, i1, i2, i3⟩ := ih (Go.bits .or .i64 s x.f2) (fun y hy => h y (List.mem_cons_of_mem _ hy)) b0 b1
  simp only [orAll, List.mem_cons, forall_eq_or_imp]
  refine ⟨i0, i1, i2.trans ?_, i3.trans ?_⟩
  ·rw [b2, and_assoc]
  ·rw [b3, and_assoc]
theorem team_iff (M : List S41) (hs : skillsOk M) (hp : M.Pairwise (fun x y => x.f0 ≠ y.f0)) (hu : ∀ x ∈ M, ∀ y ∈ M, x.f0 = y.f0 → x = y) : (Go.bits .and .i64 (orAll M 0) 3 = 3 ∧ 2 ≤ (able M).length) ↔ ∃ x ∈ M, ∃ y ∈ M, pairOf x y := by
 obtain ⟨o0, o1, o2, o3⟩ := orAll_ok M 0 hs (by omega) (by omega)
 rw [bit3 _ o0 o1]
 have hab : ∀ x, x ∈ able M ↔ x ∈ M ∧ ¬ x.f2 % 4 = 0 := by
  intro x
  unfold able
  rw [List.mem_filter]
  refine and_congr_right fun hx => ?_
  rw [decide_eq_true_eq, bit3 _ (hs x hx).1 (hs x hx).2]
 have hpa : (able M).Pairwise (fun x y => x.f0 ≠ y.f0) := hp.filter _
 constructor
 ·rintro ⟨h3, h2⟩
  have n1 : ¬ orAll M 0 % 2 = 0 := by omega
  have n2 : ¬ orAll M 0 / 2 % 2 = 0 := by omega
  rw [o2] at n1
  rw [o3] at n2
  have n1 : ∃ x ∈ M, ¬ x.f2 % 2 = 0 := by
   refine Classical.byContradiction fun z => n1 ⟨rfl, fun x hx => Classical.byContradiction fun q => z ⟨x, hx, q⟩⟩
  have n2 : ∃ x ∈ M, ¬ x.f2 / 2 % 2 = 0 := by
   refine Classical.byContradiction fun z => n2 ⟨rfl, fun x hx => Classical.byContradiction fun q => z ⟨x, hx, q⟩⟩
  obtain ⟨x, hx, bx⟩ := n1
  obtain ⟨y, hy, ty⟩ := n2
  have mk : ∀ a b, a ∈ M → b ∈ M → a.f0 ≠ b.f0 → ¬ a.f2 % 2 = 0 → ¬ b.f2 / 2 % 2 = 0 → ∃ x ∈ M, ∃ y ∈ M, pairOf x y := by
   intro a b ha hb hne h1 h2
   refine ⟨a, ha, b, hb, hne, ?_, ?_⟩
   ·rw [bit1 _ (hs a ha).1 (hs a ha).2]; exact h1
   ·rw [bit2 _ (hs b hb).1 (hs b hb).2]; omega
  by_cases hxy : x.f0 = y.f0
  ·have e := hu x hx y hy hxy
   subst e
   obtain ⟨z, hz, hzx⟩ : ∃ z ∈ able M, z.f0 ≠ x.f0 := by
    match hE : able M with
    | [] => rw [hE] at h2; simp at h2
    | [a] => rw [hE] at h2; simp at h2
    | a :: b :: r =>
     rw [hE] at hpa
     have hne : a.f0 ≠ b.f0 := (List.pairwise_cons.mp hpa).1 b (List.mem_cons_self ..)
     by_cases q : a.f0 = x.f0
     ·exact ⟨b, List.mem_cons_of_mem _ (List.mem_cons_self ..), fun w => hne (by omega)⟩
     ·exact ⟨a, List.mem_cons_self .., q⟩
   obtain ⟨hzM, hz4⟩ := (hab z).mp hz
   by_cases hb : z.f2 % 2 = 0
   ·exact mk x z hx hzM (fun w => hzx w.symm) bx (by omega)
   ·exact mk z x hzM hx hzx hb ty
  ·exact mk x y hx hy hxy bx ty
 ·rintro ⟨x, hx, y, hy, hne, h1, h2⟩
  rw [bit1 _ (hs x hx).1 (hs x hx).2] at h1
  rw [bit2 _ (hs y hy).1 (hs y hy).2] at h2
  have n1 : ¬ orAll M 0 % 2 = 0 := fun z => h1 ((o2.mp z).2 x hx)
  have n2 : ¬ orAll M 0 / 2 % 2 = 0 := fun z => by have := (o3.mp z).2 y hy; omega
  refine ⟨by omega, ?_⟩
  have ax := (hab x).mpr ⟨hx, by omega⟩
  have ay := (hab y).mpr ⟨hy, by omega⟩
  match hE : able M with
  | [] => rw [hE] at ax; cases ax
  | [a] =>
   rw [hE] at ax ay
   rw [List.mem_singleton] at ax ay
   rw [ax, ay] at hne
   exact absurd rfl hne
  | a :: b :: r => simp
theorem mem_in (l : List S41) (id : Int) (h : 0 ≤ ixFrom id l 0) : mem l id ∈ l ∧ (mem l id).f0 = id := by
 have hle := ixFrom_le id l 0
 have hlt : (ixFrom id l 0).toNat < l.length := by omega
 have e : mem l id = l[(ixFrom id l 0).toNat] := by simp [mem, rd_T41, hlt]
 obtain ⟨_, h2⟩ := ixFrom_f0 id l 0 h
 refine ⟨by rw [e]; exact List.getElem_mem _, ?_⟩
 rw [show ixFrom id l 0 - ((0 : Nat) : Int) = ixFrom id l 0 by omega] at h2
 exact h2
theorem good_skills (l : List S41) (h : goodP l = true) : skillsOk l := by
 intro x hx
 obtain ⟨i, hi, rfl⟩ := List.getElem_of_mem hx
 have := ((goodB_true l 0).mp h).1 i (Nat.zero_le _) hi
 have e : rd_T41 l (i : Int) = l[i] := by simp [rd_T41, hi]
 have h3 := this.2.2.1
 rw [e] at h3
 exact h3
theorem ask_all (l : List S41) (ids : List Int) (hl : l.length ≤ 1048576) (hi : ids.length ≤ 1048576) (hM : ∀ x ∈ l, x.f1.size ≤ 1048576) : ∃ b : Bool, (∀ k, l.length * (l.length + 3) + ids.length * (ids.length + 2) + 3145800 < k → spec_l5Asked.f k l ids = some (allIn l ids && goodP l && b) ∧ impl_membersOf.f k l ids = some (if b = true ∧ allIn l ids = true then (ids.map (mem l), true) else ([], false)) ∧ impl_ArePeople.f k l = some (goodP l)) ∧
  ((allIn l ids && goodP l && b) = true → (b = true ∧ allIn l ids = true) ∧ goodP l = true ∧ ∀ k, l.length * (l.length + 3) + ids.length * (ids.length + 2) + 3145800 < k → spec_l5Team.f k l ids = some (teamP (ids.map (mem l))) ∧ impl_areTeam.f k (ids.map (mem l)) = some (teamP (ids.map (mem l)))) := by
 have hM' : ∀ x ∈ l, x.f1.size < 1048577 ∧ x.f1.size ≤ 140737488351232 := fun x hx => by have := hM x hx; omega
 obtain ⟨b, hb, hp⟩ := rising_eq ids (by omega)
 refine ⟨b, fun k hk => ⟨?_, ?_, ?_⟩, fun h => ?_⟩
 ·obtain ⟨K, hK⟩ : ∃ K, K = l.length * (l.length + 3) + 2097153 := ⟨_, rfl⟩
  exact asked_eq l ids (goodP l) b K hl hi (fun k hk => specGood_eq l hl 1048577 hM' (by omega)) (fun k hk => (hb k (by omega)).1) (by omega) (by omega)
 ·exact membersOf_eq l ids hi (hb k (by omega)).2
 ·exact implGood_eq l hl (by omega)
 ·simp only [Bool.and_eq_true] at h
  obtain ⟨⟨ha, hg⟩, hbt⟩ := h
  refine ⟨⟨hbt, ha⟩, hg, fun k hk => ?_⟩
  have hin : ∀ id ∈ ids, mem l id ∈ l ∧ (mem l id).f0 = id := fun id hid => mem_in l id (by simpa using List.all_eq_true.mp ha id hid)
  refine ⟨team_eq l ids hl hi ha (by omega), ?_⟩
  rw [areTeam_eq (ids.map (mem l)) (by rw [List.length_map]; exact hi) (by rw [List.length_map]; omega)]
  have hsk : skillsOk (ids.map (mem l)) := by
   intro x hx
   obtain ⟨id, hid, rfl⟩ := List.mem_map.mp hx
   exact good_skills l hg _ (hin id hid).1
  have hu : ∀ x ∈ ids.map (mem l), ∀ y ∈ ids.map (mem l), x.f0 = y.f0 → x = y := by
   intro x hx y hy hxy
   obtain ⟨i, hii, rfl⟩ := List.mem_map.mp hx
   obtain ⟨j, hij, rfl⟩ := List.mem_map.mp hy
   rw [(hin i hii).2, (hin j hij).2] at hxy
   rw [hxy]
  have hpw : (ids.map (mem l)).Pairwise (fun x y => x.f0 ≠ y.f0) := by
   rw [List.pairwise_map]
   refine (hp hbt).imp_of_mem ?_
   intro i j hii hij hne
   rw [(hin i hii).2, (hin j hij).2]
   exact hne
  have hiff := team_iff _ hsk hpw hu
  unfold teamP
  refine congrArg some (decide_eq_decide.mpr ⟨fun z => ⟨z.1.1, z.1.2, (hiff.mpr z.2).1, (hiff.mpr z.2).2⟩, fun z => ⟨⟨z.1, z.2.1⟩, hiff.mp z.2.2⟩⟩)
namespace Sp
variable {α : Type}
def subAt : List α → Nat → List α
 | [], _ => []
 | x :: xs, s => if s % 2 = 1 then x :: subAt xs (s / 2) else subAt xs (s / 2)
theorem subAt_sub : ∀ (l : List α) (s : Nat), (subAt l s).Sublist l
 | [], _ => List.Sublist.refl _
 | x :: xs, s => by
  simp only [subAt]
  split
  ·exact (subAt_sub xs (s / 2)).cons_cons x
  ·exact (subAt_sub xs (s / 2)).cons x
theorem and_mod2 (s t : Nat) : (s &&& t) % 2 = (s % 2) &&& (t % 2) := by
 have := Nat.and_mod_two_pow (a := s) (b := t) (n := 1)
 simpa using this
theorem and_bits (s t : Nat) (h : s &&& t = s) : s % 2 ≤ t % 2 ∧ (s / 2) &&& (t / 2) = s / 2 ∧ s ≤ t ∧ s / 2 ≤ t / 2 := by
 have h2 : (s / 2) &&& (t / 2) = s / 2 := by rw [← Nat.and_div_two, h]
 have h3 : s ≤ t := by have := Nat.and_le_right (n := s) (m := t); rw [h] at this; exact this
 refine ⟨?_, h2, h3, by omega⟩
 have := and_mod2 s t
 rw [h] at this
 rcases Nat.mod_two_eq_zero_or_one s with a | a <;> rcases Nat.mod_two_eq_zero_or_one t with b | b <;> simp_all
theorem subAt_and : ∀ (l : List α) (s t : Nat), s &&& t = s → (subAt l s).Sublist (subAt l t)
 | [], _, _, _ => List.Sublist.refl _
 | x :: xs, s, t, h => by
  obtain ⟨h1, h2, _, _⟩ := and_bits s t h
  have ih := subAt_and xs (s / 2) (t / 2) h2
  simp only [subAt]
  by_cases a : s % 2 = 1
  ·rw [if_pos a, if_pos (by omega)]; exact ih.cons_cons x
  ·rw [if_neg a]
   split
   ·exact ih.cons x
   ·exact ih
theorem and_mk (s t : Nat) (h1 : s % 2 ≤ t % 2) (h2 : (s / 2) &&& (t / 2) = s / 2) : s &&& t = s := by
 have a : (s &&& t) / 2 = s / 2 := by rw [Nat.and_div_two, h2]
 have b : (s &&& t) % 2 = s % 2 := by
  rw [and_mod2]
  rcases Nat.mod_two_eq_zero_or_one s with a | a <;> rcases Nat.mod_two_eq_zero_or_one t with b | b <;> simp_all
 omega
theorem subAt_of : ∀ (l : List α) (t : Nat) (M : List α), M.Sublist (subAt l t) → ∃ s, s &&& t = s ∧ s < 2 ^ l.length ∧ subAt l s = M
 | [], t, M, h => ⟨0, by simp, by simp, by have := List.sublist_nil.mp h; subst this; rfl⟩
 | x :: xs, t, M, h => by
  simp only [subAt] at h
  have key : ∀ M', M'.Sublist (subAt xs (t / 2)) → ∃ s, s &&& t = s ∧ s % 2 = 0 ∧ s < 2 ^ (xs.length + 1) ∧ subAt xs (s / 2) = M' := by
   intro M' h'
   obtain ⟨s, h1, h2, h3⟩ := subAt_of xs (t / 2) M' h'
   refine ⟨2 * s, and_mk _ _ (by omega) (by rw [Nat.mul_div_cancel_left s (by omega)]; exact h1), by omega, by rw [Nat.pow_succ]; omega, by rw [Nat.mul_div_cancel_left s (by omega)]; exact h3⟩
  by_cases a : t % 2 = 1
  ·rw [if_pos a] at h
   cases h with
   | cons _ h =>
    obtain ⟨s, h1, h2, h3, h4⟩ := key _ h
    exact ⟨s, h1, h3, by simp only [subAt]; rw [if_neg (by omega)]; exact h4⟩
   | cons_cons _ h =>
    obtain ⟨s, h1, h2, h3⟩ := subAt_of xs (t / 2) _ h
    refine ⟨2 * s + 1, and_mk _ _ (by omega) ?_, by rw [List.length_cons, Nat.pow_succ]; omega, ?_⟩
    ·rw [show (2 * s + 1) / 2 = s by omega]; exact h1
    ·simp only [subAt]; rw [if_pos (by omega), show (2 * s + 1) / 2 = s by omega, h3]
  ·rw [if_neg a] at h
   obtain ⟨s, h1, h2, h3, h4⟩ := key _ h
   exact ⟨s, h1, h3, by simp only [subAt]; rw [if_neg (by omega)]; exact h4⟩
theorem subAt_full : ∀ (l : List α), subAt l (2 ^ l.length - 1) = l
 | [] => rfl
 | x :: xs => by
  have : 0 < 2 ^ xs.length := Nat.two_pow_pos _
  have e : (2 ^ (x :: xs).length - 1) = 2 * (2 ^ xs.length - 1) + 1 := by rw [List.length_cons, Nat.pow_succ]; omega
  simp only [subAt]
  rw [e, if_pos (by omega), show (2 * (2 ^ xs.length - 1) + 1) / 2 = 2 ^ xs.length - 1 by omega, subAt_full xs]
theorem subAt_inj : ∀ (l : List α) (s t : Nat), l.Nodup → s < 2 ^ l.length → t < 2 ^ l.length → subAt l s = subAt l t → s = t
 | [], s, t, _, h, g, _ => by simp at h g; omega
 | x :: xs, s, t, hn, h, g, e => by
  have hn' := List.nodup_cons.mp hn
  rw [List.length_cons, Nat.pow_succ] at h g
  have no : ∀ q, x ∉ subAt xs q := fun q hq => hn'.1 ((subAt_sub xs q).subset hq)
  simp only [subAt] at e
  by_cases a : s % 2 = 1 <;> by_cases b : t % 2 = 1
  ·rw [if_pos a, if_pos b] at e
   have := subAt_inj xs (s / 2) (t / 2) hn'.2 (by omega) (by omega) (List.cons.inj e).2
   omega
  ·rw [if_pos a, if_neg b] at e
   exact absurd (e ▸ List.mem_cons_self ..) (no (t / 2))
  ·rw [if_neg a, if_pos b] at e
   exact absurd (e.symm ▸ List.mem_cons_self ..) (no (s / 2))
  ·rw [if_neg a, if_neg b] at e
   have := subAt_inj xs (s / 2) (t / 2) hn'.2 (by omega) (by omega) e
   omega
theorem subAt_pos {x : α} {xs : List α} {s : Nat} (h : s % 2 = 1) : subAt (x :: xs) s = x :: subAt xs (s / 2) := by simp only [subAt]; rw [if_pos h]
theorem subAt_neg {x : α} {xs : List α} {s : Nat} (h : ¬ s % 2 = 1) : subAt (x :: xs) s = subAt xs (s / 2) := by simp only [subAt]; rw [if_neg h]
theorem subAt_others [DecidableEq α] : ∀ (l : List α) (s t : Nat) (M : List α), M = subAt l s → l.Nodup → s &&& t = s → (subAt l t).filter (fun p => !(decide (p ∈ M))) = subAt l (t - s)
 | [], _, _, _, _, _, _ => rfl
 | x :: xs, s, t, M, hM, hn, h => by
  obtain ⟨h1, h2, h3, h4⟩ := and_bits s t h
  have hn' := List.nodup_cons.mp hn
  have no : ∀ q, x ∉ subAt xs q := fun q hq => hn'.1 ((subAt_sub xs q).subset hq)
  have ih := subAt_others xs (s / 2) (t / 2) (subAt xs (s / 2)) rfl hn'.2 h2
  have d : (t - s) / 2 = t / 2 - s / 2 := by omega
  have cong : (∀ p, p ≠ x → (p ∈ M ↔ p ∈ subAt xs (s / 2))) → (subAt xs (t / 2)).filter (fun p => !(decide (p ∈ M))) = subAt xs (t / 2 - s / 2) := by
   intro hS
   rw [← ih]
   refine List.filter_congr ?_
   intro p hp
   have : p ≠ x := fun e => no (t / 2) (e ▸ hp)
   simp only [hS p this]
  by_cases a : s % 2 = 1
  ·have b : t % 2 = 1 := by omega
   rw [subAt_pos a] at hM
   rw [subAt_pos b, subAt_neg (by omega), d, List.filter_cons_of_neg (by simp [hM])]
   exact cong (fun p hp => by simp [hM, hp])
  ·rw [subAt_neg a] at hM
   by_cases b : t % 2 = 1
   ·rw [subAt_pos b, subAt_pos (by omega), d, List.filter_cons_of_pos (by rw [hM]; simpa using no (s / 2)), cong (fun p hp => by rw [hM])]
   ·rw [subAt_neg b, subAt_neg (by omega), d, cong (fun p hp => by rw [hM])]
end Sp
theorem rdP (l : List S41) (i : Nat) (h : i < l.length) : rd_T41 l (i : Int) = l[i] := by simp [rd_T41, h]
theorem good_ok (l : List S41) (h : goodP l = true) : goodFrom l 0 := (goodB_true l 0).mp h
theorem good_lt (l : List S41) (h : goodP l = true) : ∀ (d i : Nat) (hd : i + d + 1 < l.length), (l[i]'(by omega)).f0 < (l[i + d + 1]'hd).f0
 | 0, i, hd => by
  obtain ⟨_, _, _, _, h5, _⟩ := (good_ok l h).1 (i + 1) (Nat.zero_le _) hd
  have h5 := h5 (by omega)
  rw [show i + 1 - 1 = i by omega, rdP l i (by omega), rdP l (i + 1) hd] at h5
  exact h5
 | d + 1, i, hd => by
  have a := good_lt l h d i (by omega)
  obtain ⟨_, _, _, _, h5, _⟩ := (good_ok l h).1 (i + d + 2) (Nat.zero_le _) hd
  have h5 := h5 (by omega)
  rw [show i + d + 2 - 1 = i + d + 1 by omega, rdP l (i + d + 1) (by omega), rdP l (i + d + 2) hd] at h5
  have e : l[i + (d + 1) + 1]'hd = l[i + d + 2]'hd := rfl
  rw [e]
  omega
theorem good_len (l : List S41) (h : goodP l = true) : l.length ≤ 10 := (good_ok l h).2
theorem good_ids (l : List S41) (h : goodP l = true) : (idsL l).Nodup := by
 unfold idsL List.Nodup
 rw [List.pairwise_map, List.pairwise_iff_getElem]
 intro i j hi hj hij
 have := good_lt l h (j - i - 1) i (by omega)
 have e : i + (j - i - 1) + 1 = j := by omega
 simp only [e] at this
 omega
theorem ids_inj (l : List S41) (h : (idsL l).Nodup) (x y : S41) (hx : x ∈ l) (hy : y ∈ l) (e : x.f0 = y.f0) : x = y := by
 obtain ⟨i, hi, rfl⟩ := List.getElem_of_mem hx
 obtain ⟨j, hj, rfl⟩ := List.getElem_of_mem hy
 have i1 := h.idxOf_getElem i (by unfold idsL; simpa using hi)
 have i2 := h.idxOf_getElem j (by unfold idsL; simpa using hj)
 have e2 : (idsL l)[i]'(by unfold idsL; simpa using hi) = (idsL l)[j]'(by unfold idsL; simpa using hj) := by unfold idsL; simpa using e
 rw [e2] at i1
 have : i = j := i1.symm.trans i2
 subst this; rfl
theorem ids_nodup (l : List S41) (h : (idsL l).Nodup) : l.Nodup := by
 unfold idsL List.Nodup at h
 rw [List.pairwise_map] at h
 exact h.imp (fun {a b} hab e => hab (by rw [e]))
theorem ix_mem (id : Int) : ∀ (l : List S41) (i : Nat), (∃ x ∈ l, x.f0 = id) → 0 ≤ ixFrom id l i
 | [], i, h => by obtain ⟨x, hx, _⟩ := h; cases hx
 | y :: r, i, h => by
  simp only [ixFrom]
  by_cases c : y.f0 = id
  ·rw [if_pos c]; omega
  ·rw [if_neg c]
   refine ix_mem id r (i + 1) ?_
   obtain ⟨x, hx, e⟩ := h
   rcases List.mem_cons.mp hx with hx | hx
   ·exact absurd (hx ▸ e) c
   ·exact ⟨x, hx, e⟩
theorem mem_self (l : List S41) (h : (idsL l).Nodup) (x : S41) (hx : x ∈ l) : mem l x.f0 = x := by
 obtain ⟨a, b⟩ := mem_in l x.f0 (ix_mem x.f0 l 0 ⟨x, hx, rfl⟩)
 exact ids_inj l h _ _ a hx b
theorem ids_back (l M : List S41) (h : (idsL l).Nodup) (hM : M.Sublist l) : (idsL M).map (mem l) = M ∧ allIn l (idsL M) = true := by
 have hs := hM.subset
 constructor
 ·unfold idsL
  rw [List.map_map]
  conv => rhs; rw [← List.map_id M]
  refine List.map_congr_left ?_
  intro x hx
  exact mem_self l h x (hs hx)
 ·unfold allIn idsL
  rw [List.all_map, List.all_eq_true]
  intro x hx
  exact decide_eq_true (ix_mem x.f0 l 0 ⟨x, hs hx, rfl⟩)
theorem subAt_ids : ∀ (l : List S41) (s : Nat), idsL (Sp.subAt l s) = Sp.subAt (idsL l) s
 | [], _ => rfl
 | x :: xs, s => by
  show (Sp.subAt (x :: xs) s).map (·.f0) = Sp.subAt (x.f0 :: xs.map (·.f0)) s
  have ih : (Sp.subAt xs (s / 2)).map (·.f0) = Sp.subAt (xs.map (·.f0)) (s / 2) := subAt_ids xs (s / 2)
  simp only [Sp.subAt]
  split
  ·rw [List.map_cons, ih]
  ·exact ih
theorem sub_len (l : List S41) (s : Nat) : (Sp.subAt l s).length ≤ l.length := (Sp.subAt_sub l s).length_le
theorem and_one (x : Nat) (h : x < 1024) : Go.bits .and .i64 (x : Int) 1 = ((x % 2 : Nat) : Int) := by
 have : ∀ n : Fin 1024, Go.bits .and .i64 (n.val : Int) 1 = ((n.val % 2 : Nat) : Int) := by decide +kernel
 exact this ⟨x, h⟩
theorem bit_at (s i : Nat) (hs : s < 1024) (hi : i ≤ 64) : ((Go.bits .and .i64 (shr .i64 (s : Int) (i : Int)) 1) = 1) = (s / 2 ^ i % 2 = 1) := by
 have h1 : shr .i64 (s : Int) (i : Int) = ((s / 2 ^ i : Nat) : Int) := by
  have := (shr_small (k := .i64) (x := (s : Int)) (y := (i : Int)) rfl (by show (i : Int) ≤ ((64 : Nat) : Int); omega)).symm
  rw [this, Int.toNat_natCast]
  simp
 have h2 : s / 2 ^ i < 1024 := Nat.lt_of_le_of_lt (Nat.div_le_self _ _) hs
 rw [h1, and_one _ h2, eq_iff_iff]
 omega
theorem pow_at (n : Nat) (h : n ≤ 10) : shl .i64 1 (n : Int) = ((2 ^ n : Nat) : Int) := by
 have : ∀ m : Fin 11, shl .i64 1 ((m.val : Nat) : Int) = ((2 ^ m.val : Nat) : Int) := by decide +kernel
 exact this ⟨n, by omega⟩
theorem u64_at (n : Nat) (h : n ≤ 1000) : IntKind.u64.wrap (n : Int) = (n : Int) := by simp [IntKind.wrap, IntKind.bits, IntKind.signed]; omega
theorem pow_le {n : Nat} (h : n ≤ 10) : 2 ^ n ≤ 1024 := Nat.pow_le_pow_right (by decide) h
theorem div_pow (s i : Nat) : s / 2 ^ i / 2 = s / 2 ^ (i + 1) := by rw [Nat.div_div_eq_div_mul, Nat.pow_succ]
def teamB (M : List S41) : Bool := decide ((2 ≤ M.length ∧ M.length ≤ 5) ∧ ∃ x ∈ M, ∃ y ∈ M, pairOf x y)
theorem teamP_B (l M : List S41) (h : goodP l = true) (hM : M.Sublist l) : teamP M = teamB M := by
 have hs := hM.subset
 have hn := good_ids l h
 have hk := good_skills l h
 have hsk : skillsOk M := fun x hx => hk x (hs hx)
 have hu : ∀ x ∈ M, ∀ y ∈ M, x.f0 = y.f0 → x = y := fun x hx y hy e => ids_inj l hn x y (hs hx) (hs hy) e
 have hpw : M.Pairwise (fun x y => x.f0 ≠ y.f0) := by
  have : l.Pairwise (fun x y => x.f0 ≠ y.f0) := by
   unfold idsL List.Nodup at hn
   rw [List.pairwise_map] at hn
   exact hn
  exact this.sublist hM
 have hiff := team_iff _ hsk hpw hu
 unfold teamP teamB
 exact decide_eq_decide.mpr ⟨fun z => ⟨⟨z.1, z.2.1⟩, hiff.mp z.2.2⟩, fun z => ⟨z.1.1, z.1.2, (hiff.mpr z.2).1, (hiff.mpr z.2).2⟩⟩
theorem members_loop (l : List S41) (hl : l.length ≤ 10) (s : Nat) (hs : s < 1024) (d : Nat) : ∀ (k i : Nat) (acc : List Int), i + d = l.length → d < k → acc.length ≤ i → spec_l5Members.l0 k l (s : Int) acc (i : Int) = some (acc ++ idsL (Sp.subAt (l.drop i) (s / 2 ^ i))) := by
 induction d with
 | zero =>
  intro k i acc hi hk _
  obtain ⟨k, rfl⟩ : ∃ m, k = m + 1 := ⟨k - 1, by omega⟩
  have c1 : ¬ (i : Int) < (l.length : Int) := by omega
  simp only [spec_l5Members.l0, if_neg c1]
  rw [List.drop_of_length_le (by omega)]
  simp [Sp.subAt, idsL]
 | succ d ih =>
  intro k i acc hi hk ha
  obtain ⟨k, rfl⟩ : ∃ m, k = m + 1 := ⟨k - 1, by omega⟩
  have hil : i < l.length := by omega
  have c1 : (i : Int) < (l.length : Int) := by omega
  have c2 : 0 ≤ (i : Int) := by omega
  have c3 : acc.length < 17592186044416 := by omega
  have ew : wrap64 ((i : Int) + 1) = ((i + 1 : Nat) : Int) := (w64 (by omega) (by omega)).trans (by omega)
  rw [List.drop_eq_getElem_cons hil]
  simp only [spec_l5Members.l0, if_pos c1, u64_at i (by omega), if_pos c2, bit_at s i hs (by omega), if_pos c3, ew, rdP l i hil, Sp.subAt, div_pow]
  by_cases h : s / 2 ^ i % 2 = 1
  ·rw [if_pos h, if_pos h, ih k (i + 1) _ (by omega) (by omega) (by simp; omega)]
   simp [idsL]
  ·rw [if_neg h, if_neg h, ih k (i + 1) _ (by omega) (by omega) (by omega)]
theorem members_eq (l : List S41) (hl : l.length ≤ 10) (s : Nat) (hs : s < 1024) {k : Nat} (hk : l.length < k) : spec_l5Members.f k l (s : Int) = some (idsL (Sp.subAt l s)) := by
 have := members_loop l hl s hs l.length k 0 [] (by omega) hk (by simp)
 unfold spec_l5Members.f
 simpa using this
theorem in_loop (l : List S41) (hl : l.length ≤ 10) (s : Nat) (hs : s < 1024) (T : List (List S41)) (N : Int) (d : Nat) : ∀ (k i : Nat) (acc : List S41), i + d = l.length → acc.length ≤ i →
  impl_teams_in.l1 (k + d + 1) l T (s : Int) acc N (s : Int) l (l.length : Int) (i : Int) = (impl_areTeam.f k (acc ++ Sp.subAt (l.drop i) (s / 2 ^ i))).bind fun t => if t = true then (if T.length < 5864062014805 then impl_teams_in.l0 k l (T ++ [acc ++ Sp.subAt (l.drop i) (s / 2 ^ i)]) N (wrap64 ((s : Int) + 1)) else none) else impl_teams_in.l0 k l T N (wrap64 ((s : Int) + 1)) := by
 induction d with
 | zero =>
  intro k i acc hi _
  have c1 : ¬ (i : Int) < (l.length : Int) := by omega
  simp only [Nat.add_zero, impl_teams_in.l1, if_neg c1]
  rw [List.drop_of_length_le (by omega)]
  simp [Sp.subAt]
 | succ d ih =>
  intro k i acc hi ha
  have hil : i < l.length := by omega
  have c1 : (i : Int) < (l.length : Int) := by omega
  have c2 : 0 ≤ (i : Int) := by omega
  have c3 : acc.length < 3518437208883 := by omega
  have ew : wrap64 ((i : Int) + 1) = ((i + 1 : Nat) : Int) := (w64 (by omega) (by omega)).trans (by omega)
  have ih1 := ih k (i + 1)
  rw [List.drop_eq_getElem_cons hil, show k + (d + 1) + 1 = (k + d + 1) + 1 by omega]
  generalize k + d + 1 = K at ih1
  simp only [impl_teams_in.l1, if_pos c1, if_pos c2, bit_at s i hs (by omega), if_pos c3, ew, rdP l i hil, Sp.subAt, div_pow]
  by_cases h : s / 2 ^ i % 2 = 1
  ·simp only [if_pos h]
   rw [ih1 _ (by omega) (by simp; omega)]
   simp
  ·simp only [if_neg h]
   rw [ih1 _ (by omega) (by omega)]
def subsFrom (l : List S41) (s d : Nat) : List (List S41) := (List.range' s d).map (Sp.subAt l)
theorem subsFrom_succ (l : List S41) (s d : Nat) : subsFrom l s (d + 1) = Sp.subAt l s :: subsFrom l (s + 1) d := by unfold subsFrom; rw [List.range'_succ, List.map_cons]
theorem teamsIn_loop (l : List S41) (hl : l.length ≤ 10) (d : Nat) : ∀ (k s : Nat) (acc : List (List S41)), s + d = 2 ^ l.length → d * (l.length + 2) + 200 ≤ k → acc.length ≤ s → impl_teams_in.l0 k l acc ((2 ^ l.length : Nat) : Int) (s : Int) = some (acc ++ (subsFrom l s d).filter teamB) := by
 have hp := pow_le hl
 induction d with
 | zero =>
  intro k s acc hs hk _
  obtain ⟨k, rfl⟩ : ∃ m, k = m + 1 := ⟨k - 1, by omega⟩
  have c1 : ¬ (s : Int) < ((2 ^ l.length : Nat) : Int) := by omega
  simp only [impl_teams_in.l0, if_neg c1]
  simp [subsFrom]
 | succ d ih =>
  intro k s acc hs hk ha
  rw [Nat.succ_mul] at hk
  obtain ⟨k, rfl⟩ : ∃ m, k = (m + l.length + 1) + 1 := ⟨k - (l.length + 2), by omega⟩
  have c1 : (s : Int) < ((2 ^ l.length : Nat) : Int) := by omega
  have c3 : acc.length < 5864062014805 := by omega
  have ew : wrap64 ((s : Int) + 1) = ((s + 1 : Nat) : Int) := (w64 (by omega) (by omega)).trans (by omega)
  have hM := sub_len l s
  have ht : impl_areTeam.f k (Sp.subAt l s) = some (teamB (Sp.subAt l s)) := areTeam_eq _ (by omega) (by
   have : (Sp.subAt l s).length * ((Sp.subAt l s).length + 2) ≤ 10 * 12 := Nat.mul_le_mul (by omega) (by omega)
   omega)
  have e := in_loop l hl s (by omega) acc ((2 ^ l.length : Nat) : Int) l.length k 0 [] (by omega) (by simp)
  simp only [List.drop_zero, List.nil_append, Nat.pow_zero, Nat.div_one, ht, Option.bind_some, ew] at e
  have e' : impl_teams_in.l1 (k + l.length + 1) l acc (s : Int) [] ((2 ^ l.length : Nat) : Int) (s : Int) l (l.length : Int) 0 = _ := e
  simp only [impl_teams_in.l0, if_pos c1]
  rw [e', subsFrom_succ]
  by_cases h : teamB (Sp.subAt l s) = true
  ·rw [if_pos h, if_pos c3, ih k (s + 1) _ (by omega) (by omega) (by simp; omega), List.filter_cons_of_pos h, List.append_assoc, List.singleton_append]
  ·rw [if_neg h, ih k (s + 1) _ (by omega) (by omega) (by omega), List.filter_cons_of_neg h]
def teamsOf (l : List S41) : List (List S41) := (subsFrom l 0 (2 ^ l.length)).filter teamB
theorem teamsIn_eq (l : List S41) (hl : l.length ≤ 10) {k : Nat} (hk : 20000 ≤ k) : impl_teams_in.f k l = some (teamsOf l) := by
 have hp := pow_le hl
 have : 2 ^ l.length * (l.length + 2) ≤ 1024 * 12 := Nat.mul_le_mul hp (by omega)
 have e := teamsIn_loop l hl (2 ^ l.length) k 0 [] (by omega) (by omega) (by simp)
 unfold impl_teams_in.f
 rw [pow_at l.length hl]
 exact e
theorem subs_nodup (l : List S41) (hn : (idsL l).Nodup) : ((subsFrom l 0 (2 ^ l.length)).map idsL).Nodup := by
 unfold subsFrom List.Nodup
 rw [List.map_map, List.pairwise_map, List.pairwise_iff_getElem]
 intro i j hi hj hij
 have hi' : i < 2 ^ l.length := by simpa using hi
 have hj' : j < 2 ^ l.length := by simpa using hj
 simp only [Function.comp, List.getElem_range', Nat.zero_add, Nat.one_mul]
 rw [subAt_ids, subAt_ids]
 intro e
 have hz : (idsL l).length = l.length := by simp [idsL]
 have := Sp.subAt_inj (idsL l) i j hn (by rw [hz]; exact hi') (by rw [hz]; exact hj') e
 omega
theorem teams_sub (l M : List S41) (h : M ∈ teamsOf l) : M.Sublist l ∧ teamB M = true := by
 unfold teamsOf subsFrom at h
 obtain ⟨h1, h2⟩ := List.mem_filter.mp h
 obtain ⟨s, _, rfl⟩ := List.mem_map.mp h1
 exact ⟨Sp.subAt_sub l s, h2⟩
theorem teams_cond (l : List S41) (hl : l.length ≤ 10) (hn : (idsL l).Nodup) : ((teamsOf l).map idsL).Nodup ∧ (∀ M ∈ teamsOf l, M.length ≤ 1000000) ∧ (teamsOf l).length ≤ 1000000 := by
 have hp := pow_le hl
 refine ⟨?_, ?_, ?_⟩
 ·exact (subs_nodup l hn).sublist ((List.filter_sublist).map idsL)
 ·intro M hM
  have := (teams_sub l M hM).1.length_le
  omega
 ·unfold teamsOf
  refine Nat.le_trans (List.length_filter_le _ _) ?_
  unfold subsFrom
  simp; omega
theorem teams_eq (l : List S41) (hl : l.length ≤ 10) (hn : (idsL l).Nodup) {k : Nat} (hk : 20000 ≤ k) : impl_teams.f k l = some (sortT (teamsOf l)) := by
 unfold impl_teams.f
 rw [teamsIn_eq l hl hk]
 simp only [Option.bind_some]
 rw [if_pos (teams_cond l hl hn)]
theorem sortT_perm (S : List (List S41)) : (sortT S).Perm S := List.mergeSort_perm S _
def ableB (M : List S41) : Bool := decide (tripsAll M 0 ≥ 20)
theorem teamOf_eq (l : List S41) (ids : List Int) (hl : l.length ≤ 1048576) (hi : ids.length ≤ 1048576) (hM : ∀ x ∈ l, x.f1.size ≤ 1048576) : ∃ r : Bool, ∀ k, l.length * (l.length + 3) + ids.length * (ids.length + 2) + 3145800 < k → (r = false → spec_l5Asked.f k l ids = some false ∨ spec_l5Asked.f k l ids = some true ∧ spec_l5Team.f k l ids = some false) ∧ (r = true → spec_l5Asked.f k l ids = some true ∧ spec_l5Team.f k l ids = some true) ∧ (∃ M, impl_teamOf.f k l ids = some (M, r) ∧ (r = true → M = ids.map (mem l))) ∧ (r = true → allIn l ids = true ∧ skillsOk (ids.map (mem l))) := by
 obtain ⟨b, h1, h2⟩ := ask_all l ids hl hi hM
 by_cases c : (allIn l ids && goodP l && b) = true
 ·obtain ⟨hba, hg, ht⟩ := h2 c
  refine ⟨teamP (ids.map (mem l)), fun k hk => ?_⟩
  obtain ⟨e1, e2, e3⟩ := h1 k hk
  obtain ⟨e4, e5⟩ := ht k hk
  unfold impl_teamOf.f
  rw [e1, e2, e3, c, if_pos hba, hg, e4]
  simp only [Option.bind_some, if_true, e5]
  refine ⟨fun z => Or.inr (by rw [z]; simp), fun z => (by rw [z]; simp), ⟨_, rfl, fun _ => rfl⟩, fun _ => ⟨hba.2, ?_⟩⟩
  intro x hx
  obtain ⟨id, hid, rfl⟩ := List.mem_map.mp hx
  exact good_skills l hg _ (mem_in l id (by simpa using List.all_eq_true.mp hba.2 id hid)).1
 ·refine ⟨false, fun k hk => ?_⟩
  obtain ⟨e1, e2, e3⟩ := h1 k hk
  unfold impl_teamOf.f
  rw [e1, e2, e3]
  have c' : (allIn l ids && goodP l && b) = false := by revert c; cases (allIn l ids && goodP l && b) <;> simp
  refine ⟨fun _ => Or.inl (congrArg some c'), (fun z => by cases z), ?_, (fun z => by cases z)⟩
  by_cases q : goodP l = true
  ·simp only [q, Option.bind_some, if_true]
   by_cases c2 : b = true ∧ allIn l ids = true
   ·exact absurd (by rw [c2.1, c2.2, q]; rfl) c
   ·simp only [if_neg c2, Bool.false_eq_true, if_false]
    exact ⟨_, rfl, fun z => by cases z⟩
  ·simp only [q, Option.bind_some, Bool.false_eq_true, if_false]
   exact ⟨_, rfl, fun z => by cases z⟩
theorem skills_loop (M : List S41) (hM : M.length ≤ 1048576) (d : Nat) : ∀ (k i : Nat) (s t : Int), i + d = M.length → d < k → impl_skills.l0 k s t M (M.length : Int) (i : Int) = some (orAll (M.drop i) s, tripsAll (M.drop i) t) := by
 induction d with
 | zero =>
  intro k i s t hd hk
  obtain ⟨k, rfl⟩ : ∃ m, k = m + 1 := ⟨k - 1, by omega⟩
  have c1 : ¬ (i : Int) < (M.length : Int) := by omega
  simp only [impl_skills.l0, if_neg c1]
  rw [List.drop_of_length_le (by omega)]
  rfl
 | succ d ih =>
  intro k i s t hd hk
  obtain ⟨k, rfl⟩ : ∃ m, k = m + 1 := ⟨k - 1, by omega⟩
  have ew : wrap64 ((i : Int) + 1) = ((i + 1 : Nat) : Int) := (w64 (by omega) (by omega)).trans (by omega)
  have c1 : (i : Int) < (M.length : Int) := by omega
  have c2 : 0 ≤ (i : Int) := by omega
  simp only [impl_skills.l0, if_pos c1, if_pos c2, ew]
  rw [rd_T41_drop M i (by omega), ih k (i + 1) _ _ (by omega) (by omega)]
  rfl
theorem skills_sum (M : List S41) (hM : M.length ≤ 1048576) {k : Nat} (hk : M.length < k) : impl_skills.f k M = some (orAll M 0, tripsAll M 0) :=
 skills_loop M hM M.length k 0 0 0 (by omega) hk
namespace Sp
def lx : List Int → List Int → Bool
 | [], [] => false
 | [], _ :: _ => true
 | _ :: _, [] => false
 | a :: ar, b :: bs => if a = b then lx ar bs else decide (a < b)
theorem lx_irr : ∀ a, lx a a = false
 | [] => rfl
 | a :: ar => by simp [lx, lx_irr ar]
theorem lx_trans : ∀ a b c, lx a b = true → lx b c = true → lx a c = true
 | [], [], _, h, _ => by simp [lx] at h
 | [], _ :: _, [], _, h => by simp [lx] at h
 | [], _ :: _, _ :: _, _, _ => rfl
 | _ :: _, [], _, h, _ => by simp [lx] at h
 | _ :: _, _ :: _, [], _, h => by simp [lx] at h
 | a :: ar, b :: bs, c :: cs, h, g => by
  simp only [lx] at h g ⊢
  by_cases e1 : a = b
  ·by_cases e2 : b = c
   ·rw [if_pos e1] at h; rw [if_pos e2] at g; rw [if_pos (e1.trans e2)]; exact lx_trans ar bs cs h g
   ·rw [if_neg e2] at g; rw [if_neg (by rw [e1]; exact e2), e1]; exact g
  ·by_cases e2 : b = c
   ·rw [if_neg e1] at h; rw [← e2, if_neg e1]; exact h
   ·rw [if_neg e1] at h; rw [if_neg e2] at g
    have h := of_decide_eq_true h; have g := of_decide_eq_true g
    rw [if_neg (by omega)]; exact decide_eq_true (by omega)
theorem lx_asym (a b) (h : lx a b = true) : lx b a = false := by
 cases e : lx b a with
 | false => rfl
 | true => have := lx_trans a b a h e; rw [lx_irr] at this; cases this
theorem lx_total : ∀ a b, lx a b = false → lx b a = false → a = b
 | [], [], _, _ => rfl
 | [], _ :: _, h, _ => by simp [lx] at h
 | _ :: _, [], _, h => by simp [lx] at h
 | a :: ar, b :: bs, h, g => by
  simp only [lx] at h g
  by_cases e : a = b
  ·rw [if_pos e] at h; rw [if_pos e.symm] at g; rw [e, lx_total ar bs h g]
  ·rw [if_neg e] at h; rw [if_neg (Ne.symm e)] at g
   have h := of_decide_eq_false h; have g := of_decide_eq_false g; omega
def ahead (a b : List Int) : Prop := a.length < b.length ∨ (a.length = b.length ∧ lx b a = false)
def stepS (best m : List Int) : List Int := if best.length = 0 ∨ m.length < best.length ∨ (m.length = best.length ∧ lx m best = true) then m else best
def stepF (best m : List Int) : List Int := if best.length = 0 ∨ m.length < best.length then m else best
def isFirst (S : List (List Int)) (r : List Int) : Prop := r ∈ S ∧ ∀ m ∈ S, ahead r m
def stepL {β : Type} (key : β → List Int) (best : Option β) (m : β) : Option β := match best with
 | none => some m
 | some b => if lx (key m) (key b) = true then some m else some b
def isLeast {β : Type} (key : β → List Int) (S : List β) (r : β) : Prop := r ∈ S ∧ ∀ m ∈ S, lx (key m) (key r) = false
theorem lx_ntrans {a b c : List Int} (h : lx b a = false) (g : lx c b = false) : lx c a = false := by
 cases e : lx c a with
 | false => rfl
 | true =>
  cases e2 : lx a b with
  | true => have := lx_trans _ _ _ e e2; rw [g] at this; cases this
  | false => have := lx_total _ _ e2 h; subst this; rw [g] at e; cases e
theorem foldL_least {β : Type} (key : β → List Int) : ∀ (S : List β) (b : β), ∃ r, S.foldl (stepL key) (some b) = some r ∧ isLeast key (b :: S) r
 | [], b => ⟨b, rfl, by simp, fun m hm => by simp at hm; rw [hm]; exact lx_irr _⟩
 | m :: S, b => by
  rw [List.foldl_cons]
  by_cases c : lx (key m) (key b) = true
  ·have e : stepL key (some b) m = some m := by simp [stepL, c]
   rw [e]
   obtain ⟨r, h1, h2⟩ := foldL_least key S m
   refine ⟨r, h1, List.mem_cons_of_mem _ h2.1, fun x hx => ?_⟩
   rcases List.mem_cons.mp hx with rfl | hx
   ·exact lx_ntrans (h2.2 m (by simp)) (lx_asym _ _ c)
   ·exact h2.2 x hx
  ·have e : stepL key (some b) m = some b := by simp [stepL, c]
   rw [e]
   obtain ⟨r, h1, h2⟩ := foldL_least key S b
   refine ⟨r, h1, ?_, fun x hx => ?_⟩
   ·rcases List.mem_cons.mp h2.1 with h | h
    ·rw [h]; simp
    ·simp [h]
   ·rcases List.mem_cons.mp hx with rfl | hx
    ·exact h2.2 _ (by simp)
    rcases List.mem_cons.mp hx with rfl | hx
    ·exact lx_ntrans (h2.2 b (by simp)) (by simpa using c)
    ·exact h2.2 x (by simp [hx])
theorem least_key {β : Type} {key : β → List Int} {S : List β} {r s : β} (h : isLeast key S r) (g : isLeast key S s) : key r = key s := lx_total _ _ (g.2 r h.1) (h.2 s g.1)
theorem head_least {β : Type} {key : β → List Int} {t : β} {T : List β} (hp : (t :: T).Pairwise (fun a b => lx (key b) (key a) = false)) : isLeast key (t :: T) t := by
 refine ⟨by simp, fun m hm => ?_⟩
 rcases List.mem_cons.mp hm with rfl | hm
 ·exact lx_irr _
 ·exact (List.pairwise_cons.mp hp).1 m hm
end Sp
namespace Sp
variable {α : Type}
def pairsOf (b t x : Nat) : Nat := min b t + min (max b t - min b t) x + (x - min (max b t - min b t) x) / 2
theorem pairs_mono {b t x b' t' x' : Nat} (hb : b ≤ b') (ht : t ≤ t') (hx : x ≤ x') : pairsOf b t x ≤ pairsOf b' t' x' := by unfold pairsOf; omega
theorem pairs_bt (b t x : Nat) : pairsOf (b + 1) (t + 1) x = pairsOf b t x + 1 := by unfold pairsOf; omega
theorem pairs_bx (b t x : Nat) : pairsOf b t x + 1 ≤ pairsOf (b + 1) t (x + 1) := by unfold pairsOf; omega
theorem pairs_tx (b t x : Nat) : pairsOf b t x + 1 ≤ pairsOf b (t + 1) (x + 1) := by unfold pairsOf; omega
theorem pairs_xx (b t x : Nat) : pairsOf b t x + 1 ≤ pairsOf b t (x + 2) := by unfold pairsOf; omega
theorem pairs_bx0 (b x : Nat) : pairsOf (b + 1) 0 (x + 1) = pairsOf b 0 x + 1 := by unfold pairsOf; omega
theorem pairs_tx0 (t x : Nat) : pairsOf 0 (t + 1) (x + 1) = pairsOf 0 t x + 1 := by unfold pairsOf; omega
theorem pairs_xx0 (x : Nat) : pairsOf 0 0 (x + 2) = pairsOf 0 0 x + 1 := by unfold pairsOf; omega
theorem pairs_some {b t x : Nat} (h : 1 ≤ pairsOf b t x) : (1 ≤ b ∧ 1 ≤ t) ∨ (t = 0 ∧ 1 ≤ b ∧ 1 ≤ x) ∨ (b = 0 ∧ 1 ≤ t ∧ 1 ≤ x) ∨ (b = 0 ∧ t = 0 ∧ 2 ≤ x) := by unfold pairsOf at h; omega
variable (bk tp : α → Bool)
def isB (p : α) : Bool := bk p && !tp p
def isT (p : α) : Bool := tp p && !bk p
def isX (p : α) : Bool := bk p && tp p
def most (l : List α) : Nat := pairsOf (l.countP (isB bk tp)) (l.countP (isT bk tp)) (l.countP (isX bk tp))
theorem most_sub {l l' : List α} (h : l.Sublist l') : most bk tp l ≤ most bk tp l' := pairs_mono h.countP_le h.countP_le h.countP_le
theorem countP_erase' [DecidableEq α] (q : α → Bool) {l : List α} {a : α} (h : a ∈ l) : l.countP q = (l.erase a).countP q + if q a = true then 1 else 0 := by
 have := (List.perm_cons_erase h).countP_eq q
 rw [this, List.countP_cons]
theorem most_less [DecidableEq α] {l : List α} {a b : α} (ha : a ∈ l) (hb : b ∈ l.erase a) (ka : bk a = true) (kb : tp b = true) : most bk tp ((l.erase a).erase b) + 1 ≤ most bk tp l := by
 unfold most
 rw [countP_erase' (isB bk tp) ha, countP_erase' (isT bk tp) ha, countP_erase' (isX bk tp) ha, countP_erase' (isB bk tp) hb, countP_erase' (isT bk tp) hb, countP_erase' (isX bk tp) hb]
 cases k1 : tp a <;> cases k2 : bk b <;> simp [isB, isT, isX, ka, kb, k1, k2]
 ·exact Nat.le_of_eq (pairs_bt _ _ _).symm
 ·exact pairs_bx _ _ _
 ·exact pairs_tx _ _ _
 ·exact pairs_xx _ _ _
theorem mem_count {q : α → Bool} {l : List α} (h : 1 ≤ l.countP q) : ∃ a ∈ l, q a = true := List.countP_pos_iff.mp h
theorem most_pair [DecidableEq α] {l : List α} (h : 1 ≤ most bk tp l) : ∃ a b, a ∈ l ∧ b ∈ l.erase a ∧ bk a = true ∧ tp b = true ∧ most bk tp l = most bk tp ((l.erase a).erase b) + 1 := by
 have two : ∀ (q r : α → Bool) (c : Nat), (∀ p, q p = true → r p = true → c = 2) → 1 ≤ l.countP q → (if c = 2 then 2 else 1) ≤ l.countP r → ∃ a b, a ∈ l ∧ b ∈ l.erase a ∧ q a = true ∧ r b = true := by
  intro q r c hqr hq hr
  obtain ⟨a, ha, ka⟩ := mem_count hq
  have e := countP_erase' r ha
  have : 1 ≤ (l.erase a).countP r := by
   by_cases k : r a = true
   ·have := hqr a ka k; rw [if_pos k] at e; rw [if_pos this] at hr; omega
   ·rw [if_neg k] at e; split at hr <;> omega
  obtain ⟨b, hb, kb⟩ := mem_count this
  exact ⟨a, b, ha, hb, ka, kb⟩
 have fin : ∀ {a b : α}, a ∈ l → b ∈ l.erase a → most bk tp l = pairsOf (((l.erase a).erase b).countP (isB bk tp) + (if isB bk tp b = true then 1 else 0) + (if isB bk tp a = true then 1 else 0)) (((l.erase a).erase b).countP (isT bk tp) + (if isT bk tp b = true then 1 else 0) + (if isT bk tp a = true then 1 else 0)) (((l.erase a).erase b).countP (isX bk tp) + (if isX bk tp b = true then 1 else 0) + (if isX bk tp a = true then 1 else 0)) := by
  intro a b ha hb
  unfold most
  rw [countP_erase' (isB bk tp) ha, countP_erase' (isT bk tp) ha, countP_erase' (isX bk tp) ha, countP_erase' (isB bk tp) hb, countP_erase' (isT bk tp) hb, countP_erase' (isX bk tp) hb]
 have cnt : ∀ {a b : α} (q : α → Bool), a ∈ l → b ∈ l.erase a → l.countP q = ((l.erase a).erase b).countP q + (if q b = true then 1 else 0) + (if q a = true then 1 else 0) := by
  intro a b q ha hb; rw [countP_erase' q ha, countP_erase' q hb]
 rcases pairs_some h with ⟨h1, h2⟩ | ⟨h1, h2, h3⟩ | ⟨h1, h2, h3⟩ | ⟨h1, h2, h3⟩
 ·obtain ⟨a, b, ha, hb, ka, kb⟩ := two (isB bk tp) (isT bk tp) 1 (fun p x y => by simp [isB, isT] at x y; simp_all) h1 h2
  have f := fin ha hb
  simp only [isB, isT, Bool.and_eq_true, Bool.not_eq_true'] at ka kb
  refine ⟨a, b, ha, hb, ka.1, kb.1, ?_⟩
  rw [f]; simp [isB, isT, isX, ka.1, ka.2, kb.1, kb.2]; rw [pairs_bt]; rfl
 ·obtain ⟨a, b, ha, hb, ka, kb⟩ := two (isB bk tp) (isX bk tp) 1 (fun p x y => by simp [isB, isX] at x y; simp_all) h2 h3
  have f := fin ha hb
  have c := cnt (isT bk tp) ha hb
  simp only [isB, isX, Bool.and_eq_true, Bool.not_eq_true'] at ka kb
  refine ⟨a, b, ha, hb, ka.1, kb.2, ?_⟩
  rw [f]; rw [h1] at c; simp only [most]
  have c0 : ((l.erase a).erase b).countP (isT bk tp) = 0 := by omega
  rw [c0]; simp [isB, isT, isX, ka.1, ka.2, kb.1, kb.2]; rw [pairs_bx0]
 ·obtain ⟨a, b, ha, hb, ka, kb⟩ := two (isX bk tp) (isT bk tp) 1 (fun p x y => by simp [isT, isX] at x y; simp_all) h3 h2
  have f := fin ha hb
  have c := cnt (isB bk tp) ha hb
  simp only [isT, isX, Bool.and_eq_true, Bool.not_eq_true'] at ka kb
  refine ⟨a, b, ha, hb, ka.1, kb.1, ?_⟩
  rw [f]; rw [h1] at c; simp only [most]
  have c0 : ((l.erase a).erase b).countP (isB bk tp) = 0 := by omega
  rw [c0]; simp [isB, isT, isX, ka.1, ka.2, kb.1, kb.2]; rw [pairs_tx0]
 ·obtain ⟨a, b, ha, hb, ka, kb⟩ := two (isX bk tp) (isX bk tp) 2 (fun p x y => rfl) (by omega) h3
  have f := fin ha hb
  have c := cnt (isB bk tp) ha hb
  have d := cnt (isT bk tp) ha hb
  simp only [isX, Bool.and_eq_true] at ka kb
  refine ⟨a, b, ha, hb, ka.1, kb.2, ?_⟩
  rw [f]; rw [h1] at c; rw [h2] at d; simp only [most]
  have c0 : ((l.erase a).erase b).countP (isB bk tp) = 0 := by omega
  have d0 : ((l.erase a).erase b).countP (isT bk tp) = 0 := by omega
  rw [c0, d0]; simp [isB, isT, isX, ka.1, ka.2, kb.1, kb.2]; rw [pairs_xx0]
def splits [DecidableEq α] (T : List α → List (List α)) : Nat → List α → Bool
 | 0, _ => true
 | c + 1, l => (T l).any fun M => splits T c (l.filter fun p => !(decide (p ∈ M)))
theorem splits_iff [DecidableEq α] (T : List α → List (List α)) (Pr : List α → Prop) (hPr : ∀ l l' : List α, l'.Sublist l → Pr l → Pr l') (h1 : ∀ l M, M ∈ T l → M.Sublist l ∧ ∃ a b, a ∈ M ∧ b ∈ M ∧ a ≠ b ∧ bk a = true ∧ tp b = true)
  (h2 : ∀ (l M : List α), Pr l → l.Nodup → M.Sublist l → M.length = 2 → (∃ a b, a ∈ M ∧ b ∈ M ∧ a ≠ b ∧ bk a = true ∧ tp b = true) → M ∈ T l) :
  ∀ (c : Nat) (l : List α), Pr l → l.Nodup → (splits T c l = true ↔ c ≤ most bk tp l)
 | 0, l, _, _ => by simp [splits]
 | c + 1, l, hp0, hn => by
  have ih := splits_iff T Pr hPr h1 h2 c
  simp only [splits, List.any_eq_true]
  constructor
  ·rintro ⟨M, hM, hs⟩
   have hnf : (l.filter fun p => !(decide (p ∈ M))).Nodup := hn.sublist List.filter_sublist
   rw [ih _ (hPr _ _ List.filter_sublist hp0) hnf] at hs
   obtain ⟨hsub, a, b, ha, hb, hab, ka, kb⟩ := h1 l M hM
   have hal := hsub.subset ha
   have hbl : b ∈ l.erase a := (List.mem_erase_of_ne (Ne.symm hab)).mpr (hsub.subset hb)
   have := most_less bk tp hal hbl ka kb
   have hle : most bk tp (l.filter fun p => !(decide (p ∈ M))) ≤ most bk tp ((l.erase a).erase b) := by
    apply most_sub
    have e1 : l.erase a = l.filter (fun p => p != a) := hn.erase_eq_filter a
    have hn2 : (l.erase a).Nodup := hn.erase a
    have e2 : (l.erase a).erase b = (l.erase a).filter (fun p => p != b) := hn2.erase_eq_filter b
    rw [e2, e1, List.filter_filter]
    have e3 : (l.filter fun p => !(decide (p ∈ M))) = (l.filter fun p => p != b && p != a).filter fun p => !(decide (p ∈ M)) := by
     rw [List.filter_filter]
     refine List.filter_congr ?_
     intro p _
     by_cases hp : p ∈ M
     ·simp [hp]
     ·have n1 : p ≠ b := fun e => hp (e ▸ hb)
      have n2 : p ≠ a := fun e => hp (e ▸ ha)
      simp [hp, n1, n2]
    rw [e3]
    exact List.filter_sublist
   omega
  ·intro h
   obtain ⟨a, b, ha, hb, ka, kb, e⟩ := most_pair bk tp (l := l) (by omega)
   have hab : a ≠ b := by
    intro hh; subst hh
    exact absurd hb (by rw [hn.mem_erase_iff]; simp)
   have hbl : b ∈ l := List.mem_of_mem_erase hb
   have hmem : ∀ p, p ∈ l.filter (fun p => p == a || p == b) ↔ p = a ∨ p = b := by
    intro p; simp only [List.mem_filter, Bool.or_eq_true, beq_iff_eq]
    exact ⟨fun h => h.2, fun h => ⟨h.elim (· ▸ ha) (· ▸ hbl), h⟩⟩
   have e1 : l.erase a = l.filter (fun p => p != a) := hn.erase_eq_filter a
   have e2 : (l.erase a).erase b = (l.erase a).filter (fun p => p != b) := (hn.erase a).erase_eq_filter b
   refine ⟨l.filter (fun p => p == a || p == b), h2 l _ hp0 hn List.filter_sublist ?_ ⟨a, b, (hmem a).mpr (Or.inl rfl), (hmem b).mpr (Or.inr rfl), hab, ka, kb⟩, ?_⟩
   ·have hp : (l.filter (fun p => p == a || p == b)).Perm [a, b] := by
     have hn1 : (l.filter (fun p => p == a || p == b)).Nodup := hn.sublist List.filter_sublist
     have hn2 : [a, b].Nodup := by simp [hab]
     refine (List.perm_ext_iff_of_nodup hn1 hn2).mpr ?_
     intro p; rw [hmem]; simp
    exact hp.length_eq
   ·have e3 : (l.filter fun p => !(decide (p ∈ l.filter (fun p => p == a || p == b)))) = (l.erase a).erase b := by
     rw [e2, e1, List.filter_filter]
     refine List.filter_congr ?_
     intro p hp
     have := hmem p
     rw [Bool.eq_iff_iff]
     simp only [Bool.not_eq_true', decide_eq_false_iff_not, this, Bool.and_eq_true, bne_iff_ne, ne_eq, not_or]
     exact and_comm
    rw [e3, ih _ (hPr _ _ ((List.erase_sublist ..).trans (List.erase_sublist ..)) hp0) ((hn.erase a).erase b)]
    omega
end Sp
namespace Sp
theorem least_members {β : Type} {key : β → List Int} {S T : List β} (h : ∀ m, m ∈ S ↔ m ∈ T) {r : β} (g : isLeast key S r) : isLeast key T r := ⟨(h r).mp g.1, fun m hm => g.2 m ((h m).mpr hm)⟩
theorem foldL_none {β : Type} (key : β → List Int) : ∀ (S : List β), S ≠ [] → ∃ r, S.foldl (stepL key) none = some r ∧ isLeast key S r
 | [], h => absurd rfl h
 | b :: S, _ => by rw [List.foldl_cons]; exact foldL_least key S b
section
variable {α : Type} [DecidableEq α] (bk tp : α → Bool) (L : List α) (team : List α → Bool) (key : List α → List Int) (T : List α → List (List α))
def others (l M : List α) : List α := l.filter fun p => !(decide (p ∈ M))
def implSplit : Nat → List α → List (List α)
 | 0, _ => []
 | c + 1, l => match (T l).find? (fun M => splits T c (others l M)) with
  | some M => M :: implSplit c (others l M)
  | none => implSplit c l
def specOk (c left s : Nat) : Bool := decide (s &&& left = s) && team (subAt L s) && decide (c ≤ most bk tp (subAt L (left - s)))
def specSplit : Nat → Nat → List (List α)
 | 0, _ => []
 | c + 1, left => match ((List.range (left + 1)).filter (specOk bk tp L team c left)).foldl (stepL (fun s => key (subAt L s))) none with
  | some s => subAt L s :: specSplit c (left - s)
  | none => [] :: specSplit c left
theorem split_eq (hn : L.Nodup) (hkey : ∀ M M', M.Sublist L → M'.Sublist L → key M = key M' → M = M')
  (hT : ∀ R, R.Sublist L → ∀ M, M ∈ T R ↔ M.Sublist R ∧ team M = true) (hP : ∀ R, R.Sublist L → (T R).Pairwise (fun a b => lx (key b) (key a) = false))
  (hs : ∀ (c : Nat) (R : List α), R.Sublist L → (splits T c R = true ↔ c ≤ most bk tp R)) :
  ∀ (c left : Nat), c ≤ most bk tp (subAt L left) → implSplit T c (subAt L left) = specSplit bk tp L team key c left
 | 0, _, _ => rfl
 | c + 1, left, hc => by
  have hsub := subAt_sub L left
  have hany : splits T (c + 1) (subAt L left) = true := (hs _ _ hsub).mpr hc
  simp only [splits, List.any_eq_true] at hany
  obtain ⟨M0, hM0, hQ0⟩ := hany
  have hmem : ∀ M, M ∈ (T (subAt L left)).filter (fun M => splits T c (others (subAt L left) M)) ↔ M ∈ ((List.range (left + 1)).filter (specOk bk tp L team c left)).map (subAt L) := by
   intro M
   simp only [List.mem_filter, List.mem_map, List.mem_range]
   rw [hT _ hsub]
   constructor
   ·rintro ⟨⟨h1, h2⟩, h3⟩
    obtain ⟨s, a1, a2, a3⟩ := subAt_of L left M h1
    have hle := (and_bits s left a1).2.2.1
    have ho : others (subAt L left) M = subAt L (left - s) := subAt_others L s left M a3.symm hn a1
    rw [ho, hs _ _ (subAt_sub L _)] at h3
    exact ⟨s, ⟨by omega, by simp [specOk, a1, a3, h2, h3]⟩, a3⟩
   ·rintro ⟨s, ⟨_, h2⟩, rfl⟩
    simp only [specOk, Bool.and_eq_true, decide_eq_true_eq] at h2
    obtain ⟨⟨a1, a2⟩, a3⟩ := h2
    have ho : others (subAt L left) (subAt L s) = subAt L (left - s) := subAt_others L s left _ rfl hn a1
    exact ⟨⟨subAt_and L s left a1, a2⟩, by rw [ho, hs _ _ (subAt_sub L _)]; exact a3⟩
  have hne : (T (subAt L left)).filter (fun M => splits T c (others (subAt L left) M)) ≠ [] := List.ne_nil_of_mem (List.mem_filter.mpr ⟨hM0, hQ0⟩)
  have hne2 : (List.range (left + 1)).filter (specOk bk tp L team c left) ≠ [] := by
   intro e
   have := (hmem M0).mp (List.mem_filter.mpr ⟨hM0, hQ0⟩)
   rw [e] at this; simp at this
  have hp := (hP _ hsub).filter (fun M => splits T c (others (subAt L left) M))
  cases hF : (T (subAt L left)).filter (fun M => splits T c (others (subAt L left) M)) with
  | nil => exact absurd hF hne
  | cons M rest =>
   rw [hF] at hp hmem
   have l1 : isLeast key (M :: rest) M := head_least hp
   obtain ⟨s, e2, l2⟩ := foldL_none (fun s => key (subAt L s)) _ hne2
   have l3 : isLeast key (((List.range (left + 1)).filter (specOk bk tp L team c left)).map (subAt L)) (subAt L s) := by
    refine ⟨List.mem_map.mpr ⟨s, l2.1, rfl⟩, ?_⟩
    intro m hm
    obtain ⟨s', hs', rfl⟩ := List.mem_map.mp hm
    exact l2.2 s' hs'
   have hk := least_key (least_members hmem l1) l3
   have hfind : (T (subAt L left)).find? (fun M => splits T c (others (subAt L left) M)) = some M := by
    rw [← List.head?_filter, hF]; rfl
   have hMm : M ∈ (T (subAt L left)).filter (fun M => splits T c (others (subAt L left) M)) := by rw [hF]; simp
   have hM1 := (List.mem_filter.mp hMm)
   have hMs : M.Sublist L := (((hT _ hsub M).mp hM1.1).1).trans hsub
   have hEq : M = subAt L s := hkey _ _ hMs (subAt_sub L s) hk
   have hok := (List.mem_filter.mp l2.1).2
   simp only [specOk, Bool.and_eq_true, decide_eq_true_eq] at hok
   have ho : others (subAt L left) M = subAt L (left - s) := subAt_others L s left M hEq hn hok.1.1
   simp only [implSplit, specSplit]
   rw [hfind, e2]
   show M :: implSplit T c (others (subAt L left) M) = _
   rw [ho, hEq]
   exact congrArg (subAt L s :: ·) (split_eq hn hkey hT hP hs c (left - s) hok.2)
end
end Sp
theorem lx_lxL : ∀ a b, Sp.lx a b = lxL a b
 | [], [] => rfl
 | [], _ :: _ => rfl
 | _ :: _, [] => rfl
 | a :: r, b :: t => by simp only [Sp.lx, lxL, lx_lxL r t]
theorem sortT_sorted (S : List (List S41)) : (sortT S).Pairwise (fun a b => lxL (idsL b) (idsL a) = false) := by
 have h := List.pairwise_mergeSort (le := fun x y : List S41 => !lxL (idsL y) (idsL x)) ?_ ?_ S
 ·exact h.imp (fun {a b} h => by simpa using h)
 ·intro a b c h g
  simp only [Bool.not_eq_true', Bool.not_eq_eq_eq_not, Bool.not_true] at h g ⊢
  exact lxL_ntrans g h
 ·intro a b
  cases h : lxL (idsL b) (idsL a) with
  | false => simp
  | true =>
   have : lxL (idsL a) (idsL b) = false := by
    cases e : lxL (idsL a) (idsL b) with
    | false => rfl
    | true => have := lxL_trans _ _ _ e h; rw [lxL_irr] at this; cases this
   simp [this]
theorem less_loop (a b : List Int) (ha : a.length ≤ 1000000) (hb : b.length ≤ 1000000) (d : Nat) : ∀ (k i : Nat), i + d = a.length → 2 * d + 3 ≤ k → spec_l5Less.l0 k a b (i : Int) = some (lxL (a.drop i) (b.drop i)) := by
 induction d with
 | zero =>
  intro k i hi hk
  obtain ⟨k, rfl⟩ : ∃ m, k = m + 2 := ⟨k - 2, by omega⟩
  have c1 : ¬ (i : Int) < (a.length : Int) := by omega
  simp only [spec_l5Less.l0, if_neg c1, spec_l5Less.j1, Bool.false_eq_true, if_false]
  rw [List.drop_of_length_le (l := a) (by omega)]
  by_cases h : (a.length : Int) < (b.length : Int)
  ·rw [decide_eq_true h, List.drop_eq_getElem_cons (show i < b.length by omega)]
   rfl
  ·rw [decide_eq_false h, List.drop_of_length_le (l := b) (by omega)]
   rfl
 | succ d ih =>
  intro k i hi hk
  obtain ⟨k, rfl⟩ : ∃ m, k = m + 2 := ⟨k - 2, by omega⟩
  have hai : i < a.length := by omega
  have c1 : (i : Int) < (a.length : Int) := by omega
  have c2 : 0 ≤ (i : Int) := by omega
  have ew : wrap64 ((i : Int) + 1) = ((i + 1 : Nat) : Int) := (w64 (by omega) (by omega)).trans (by omega)
  have ea : rd a (i : Int) = a[i] := by simp [rd, hai]
  have ih := ih k (i + 1) (by omega) (by omega)
  rw [List.drop_eq_getElem_cons hai]
  simp only [spec_l5Less.l0, if_pos c1, spec_l5Less.j1]
  by_cases h : (i : Int) < (b.length : Int)
  ·have hbi : i < b.length := by omega
   have eb : rd b (i : Int) = b[i] := by simp [rd, hbi]
   rw [decide_eq_true h, if_pos rfl, if_pos c2, if_pos h, ea, eb, ew, ih, List.drop_eq_getElem_cons hbi]
   simp only [lxL]
   by_cases e : a[i] = b[i]
   ·rw [if_pos e, if_pos e]
   ·rw [if_neg e, if_neg e]
  ·have h2 : ¬ (a.length : Int) < (b.length : Int) := by omega
   rw [decide_eq_false h, if_neg (by simp), decide_eq_false h2, List.drop_of_length_le (l := b) (by omega)]
   rfl
theorem less_eq (a b : List Int) (ha : a.length ≤ 1000000) (hb : b.length ≤ 1000000) {k : Nat} (hk : 2 * a.length + 3 ≤ k) : spec_l5Less.f k a b = some (lxL a b) := by
 have := less_loop a b ha hb a.length k 0 (by omega) hk
 unfold spec_l5Less.f
 simpa using this
instance : DecidableEq S41 := fun a b => decidable_of_iff (a.f0 = b.f0 ∧ a.f1 = b.f1 ∧ a.f2 = b.f2 ∧ a.f3 = b.f3) (by cases a; cases b; simp)
def bkP (x : S41) : Bool := decide (¬ Go.bits .and .i64 x.f2 1 = 0)
def tpP (x : S41) : Bool := decide (¬ Go.bits .and .i64 x.f2 2 = 0)
def TP (R : List S41) : List (List S41) := sortT (teamsOf R)
theorem mem_teamsOf (l M : List S41) : M ∈ teamsOf l ↔ M.Sublist l ∧ teamB M = true := by
 constructor
 ·exact teams_sub l M
 ·rintro ⟨h1, h2⟩
  unfold teamsOf
  refine List.mem_filter.mpr ⟨?_, h2⟩
  obtain ⟨s, _, h3, h4⟩ := Sp.subAt_of l (2 ^ l.length - 1) M (by rw [Sp.subAt_full]; exact h1)
  unfold subsFrom
  exact List.mem_map.mpr ⟨s, by simpa using h3, h4⟩
theorem mem_TP (l M : List S41) : M ∈ TP l ↔ M.Sublist l ∧ teamB M = true := by
 unfold TP
 rw [(sortT_perm _).mem_iff, mem_teamsOf]
theorem TP_sorted (R : List S41) : (TP R).Pairwise (fun a b => Sp.lx (idsL b) (idsL a) = false) := by
 refine (sortT_sorted _).imp ?_
 intro a b h
 rw [lx_lxL]
 exact h
theorem ids_sub {l M : List S41} (h : (idsL l).Nodup) (hs : M.Sublist l) : (idsL M).Nodup := h.sublist (hs.map _)
theorem TP_splits (c : Nat) (R : List S41) (h : (idsL R).Nodup) : Sp.splits TP c R = true ↔ c ≤ Sp.most bkP tpP R := by
 refine Sp.splits_iff bkP tpP TP (fun l => (idsL l).Nodup) (fun l l' hs h => ids_sub h hs) ?_ ?_ c R h (ids_nodup R h)
 ·intro l M hM
  obtain ⟨h1, h2⟩ := (mem_TP l M).mp hM
  obtain ⟨_, x, hx, y, hy, p1, p2, p3⟩ := of_decide_eq_true h2
  exact ⟨h1, x, y, hx, hy, fun e => p1 (by rw [e]), decide_eq_true p2, decide_eq_true p3⟩
 ·intro l M hl _ hs hz hab
  refine (mem_TP l M).mpr ⟨hs, ?_⟩
  obtain ⟨a, b, ha, hb, hne, ka, kb⟩ := hab
  exact decide_eq_true ⟨⟨by omega, by omega⟩, a, ha, b, hb, fun e => hne (ids_inj l hl a b (hs.subset ha) (hs.subset hb) e), of_decide_eq_true ka, of_decide_eq_true kb⟩
theorem TP_split_eq (L : List S41) (hn : (idsL L).Nodup) (c left : Nat) (hc : c ≤ Sp.most bkP tpP (Sp.subAt L left)) : Sp.implSplit TP c (Sp.subAt L left) = Sp.specSplit bkP tpP L teamB idsL c left := by
 refine Sp.split_eq bkP tpP L teamB idsL TP (ids_nodup L hn) ?_ (fun R _ M => mem_TP R M) (fun R _ => TP_sorted R) (fun c R hR => TP_splits c R (ids_sub hn hR)) c left hc
 intro M M' h1 h2 e
 have a := (ids_back L M hn h1).1
 have b := (ids_back L M' hn h2).1
 rw [← a, ← b, e]
theorem and_nat (a b : Nat) (ha : a < 1024) (hb : b < 1024) : Go.bits .and .i64 (a : Int) (b : Int) = ((a &&& b : Nat) : Int) :=
 (bits_nat .i64 10 (by decide) (fun n h0 h1 => by simp [IntKind.wrap, IntKind.bits, IntKind.signed]; omega) a b ha hb).1
theorem bit0_at (s i : Nat) (hs : s < 1024) (hi : i ≤ 64) : ((Go.bits .and .i64 (shr .i64 (s : Int) (i : Int)) 1) = 0) = (s / 2 ^ i % 2 = 0) := by
 have h1 : shr .i64 (s : Int) (i : Int) = ((s / 2 ^ i : Nat) : Int) := by
  have := (shr_small (k := .i64) (x := (s : Int)) (y := (i : Int)) rfl (by show (i : Int) ≤ ((64 : Nat) : Int); omega)).symm
  rw [this, Int.toNat_natCast]
  simp
 have h2 : s / 2 ^ i < 1024 := Nat.lt_of_le_of_lt (Nat.div_le_self _ _) hs
 rw [h1, and_one _ h2, eq_iff_iff]
 omega
theorem kind_of (x : S41) (h : 0 ≤ x.f2 ∧ x.f2 ≤ 15) : (Go.bits .and .i64 x.f2 3 = 1 ↔ Sp.isB bkP tpP x = true) ∧ (Go.bits .and .i64 x.f2 3 = 2 ↔ Sp.isT bkP tpP x = true) ∧ (Go.bits .and .i64 x.f2 3 = 3 ↔ Sp.isX bkP tpP x = true) := by
 unfold Sp.isB Sp.isT Sp.isX bkP tpP
 rw [bit1 _ h.1 h.2, bit2 _ h.1 h.2, bit3 _ h.1 h.2]
 simp only [Bool.and_eq_true, Bool.not_eq_true', decide_eq_true_eq, decide_eq_false_iff_not]
 omega
set_option maxHeartbeats 2000000 in
theorem pairs_loop (l : List S41) (hl : l.length ≤ 10) (hsk : skillsOk l) (s : Nat) (hs : s < 1024) (d : Nat) : ∀ (k i b t x : Nat), i + d = l.length → d < k → b ≤ i → t ≤ i → x ≤ i →
  spec_l5Pairs.l0 k l (s : Int) (b : Int) (t : Int) (x : Int) (i : Int) = some (((b + (Sp.subAt (l.drop i) (s / 2 ^ i)).countP (Sp.isB bkP tpP) : Nat) : Int), ((t + (Sp.subAt (l.drop i) (s / 2 ^ i)).countP (Sp.isT bkP tpP) : Nat) : Int), ((x + (Sp.subAt (l.drop i) (s / 2 ^ i)).countP (Sp.isX bkP tpP) : Nat) : Int)) := by
 induction d with
 | zero =>
  intro k i b t x hi hk _ _ _
  obtain ⟨k, rfl⟩ : ∃ m, k = m + 1 := ⟨k - 1, by omega⟩
  have c1 : ¬ (i : Int) < (l.length : Int) := by omega
  simp only [spec_l5Pairs.l0, if_neg c1]
  rw [List.drop_of_length_le (by omega)]
  simp [Sp.subAt]
 | succ d ih =>
  intro k i b t x hi hk hb ht hx
  obtain ⟨k, rfl⟩ : ∃ m, k = m + 1 := ⟨k - 1, by omega⟩
  have hil : i < l.length := by omega
  have c1 : (i : Int) < (l.length : Int) := by omega
  have c2 : 0 ≤ (i : Int) := by omega
  have ew : wrap64 ((i : Int) + 1) = ((i + 1 : Nat) : Int) := (w64 (by omega) (by omega)).trans (by omega)
  have eb : wrap64 ((b : Int) + 1) = ((b + 1 : Nat) : Int) := (w64 (by omega) (by omega)).trans (by omega)
  have et : wrap64 ((t : Int) + 1) = ((t + 1 : Nat) : Int) := (w64 (by omega) (by omega)).trans (by omega)
  have ex : wrap64 ((x : Int) + 1) = ((x + 1 : Nat) : Int) := (w64 (by omega) (by omega)).trans (by omega)
  obtain ⟨k1, k2, k3⟩ := kind_of l[i] (hsk _ (List.getElem_mem hil))
  have ih := fun b t x => ih k (i + 1) b t x (by omega) (by omega)
  rw [List.drop_eq_getElem_cons hil]
  simp only [spec_l5Pairs.l0, if_pos c1, u64_at i (by omega), if_pos c2, bit0_at s i hs (by omega), ew, eb, et, ex, rdP l i hil, Sp.subAt, div_pow]
  by_cases h : s / 2 ^ i % 2 = 1
  ·rw [if_neg (show ¬ s / 2 ^ i % 2 = 0 by omega), if_pos h]
   simp only [List.countP_cons]
   by_cases a1 : Go.bits .and .i64 (l[i]).f2 3 = 1
   ·have b2 : ¬ Sp.isT bkP tpP l[i] = true := fun z => by have := k2.mpr z; omega
    have b3 : ¬ Sp.isX bkP tpP l[i] = true := fun z => by have := k3.mpr z; omega
    rw [if_pos a1, if_pos (k1.mp a1), if_neg b2, if_neg b3, ih (b + 1) t x (Nat.succ_le_succ hb) (Nat.le_succ_of_le ht) (Nat.le_succ_of_le hx)]
    simp only [Nat.add_zero, Nat.add_assoc, Nat.add_comm 1]
   ·have b1 : ¬ Sp.isB bkP tpP l[i] = true := fun z => a1 (k1.mpr z)
    rw [if_neg a1, if_neg b1]
    by_cases a2 : Go.bits .and .i64 (l[i]).f2 3 = 2
    ·have b3 : ¬ Sp.isX bkP tpP l[i] = true := fun z => by have := k3.mpr z; omega
     rw [if_pos a2, if_pos (k2.mp a2), if_neg b3, ih b (t + 1) x (Nat.le_succ_of_le hb) (Nat.succ_le_succ ht) (Nat.le_succ_of_le hx)]
     simp only [Nat.add_zero, Nat.add_assoc, Nat.add_comm 1]
    ·have b2 : ¬ Sp.isT bkP tpP l[i] = true := fun z => a2 (k2.mpr z)
     rw [if_neg a2, if_neg b2]
     by_cases a3 : Go.bits .and .i64 (l[i]).f2 3 = 3
     ·rw [if_pos a3, if_pos (k3.mp a3), ih b t (x + 1) (Nat.le_succ_of_le hb) (Nat.le_succ_of_le ht) (Nat.succ_le_succ hx)]
      simp only [Nat.add_zero, Nat.add_assoc, Nat.add_comm 1]
     ·have b3 : ¬ Sp.isX bkP tpP l[i] = true := fun z => a3 (k3.mpr z)
      rw [if_neg a3, if_neg b3, ih b t x (Nat.le_succ_of_le hb) (Nat.le_succ_of_le ht) (Nat.le_succ_of_le hx)]
      simp only [Nat.add_zero]
  ·rw [if_pos (show s / 2 ^ i % 2 = 0 by omega), if_neg h, ih b t x (Nat.le_succ_of_le hb) (Nat.le_succ_of_le ht) (Nat.le_succ_of_le hx)]
theorem least_nat (a b : Nat) : spec_l1Least.f (a : Int) (b : Int) = some ((min a b : Nat) : Int) := by
 unfold spec_l1Least.f
 by_cases h : (a : Int) < (b : Int)
 ·rw [if_pos h]; exact congrArg some (by omega)
 ·rw [if_neg h]; exact congrArg some (by omega)
theorem least3 (n : Nat) : spec_l1Least.f 3 (n : Int) = some ((min 3 n : Nat) : Int) := by
 unfold spec_l1Least.f
 by_cases h : (3 : Int) < (n : Int)
 ·rw [if_pos h, Nat.min_eq_left (by omega)]; rfl
 ·rw [if_neg h, Nat.min_eq_right (by omega)]
theorem most_nat (a b : Nat) : spec_l1Most.f (a : Int) (b : Int) = some ((max a b : Nat) : Int) := by
 unfold spec_l1Most.f
 by_cases h : (a : Int) > (b : Int)
 ·rw [if_pos h]; exact congrArg some (by omega)
 ·rw [if_neg h]; exact congrArg some (by omega)
theorem wsub (a b : Nat) (h : b ≤ a) (ha : a ≤ 100000) : wrap64 ((a : Int) - (b : Int)) = ((a - b : Nat) : Int) := (w64 (by omega) (by omega)).trans (by omega)
theorem wadd (a b : Nat) (h : a + b ≤ 1000) : wrap64 ((a : Int) + (b : Int)) = ((a + b : Nat) : Int) := (w64 (by omega) (by omega)).trans (by omega)
theorem wdiv (a : Nat) (h : a ≤ 1000) : wrap64 (Int.tdiv (a : Int) 2) = ((a / 2 : Nat) : Int) := by
 have e : Int.tdiv (a : Int) 2 = ((a / 2 : Nat) : Int) := by rw [Int.tdiv_eq_ediv_of_nonneg (by omega)]; omega
 rw [e]
 exact w64 (by omega) (by omega)
theorem arith_most (mn mx X : Nat) (h1 : mn ≤ mx) (h2 : mx ≤ 10) (hX : X ≤ 10) : ((spec_l1Least.f (wrap64 ((mx : Int) - (mn : Int))) (X : Int)).bind fun t167 => ((spec_l1Least.f 3 (wrap64 ((wrap64 ((mn : Int) + t167)) + (wrap64 (Int.tdiv (wrap64 ((X : Int) - t167)) 2))))).bind fun t168 => (some t168))) = some ((min 3 (mn + min (mx - mn) X + (X - min (mx - mn) X) / 2) : Nat) : Int) := by
 rw [wsub mx mn h1 (Nat.le_trans h2 (by decide)), least_nat, Option.bind_some]
 have hm : min (mx - mn) X ≤ X := Nat.min_le_right _ _
 have hm2 : mn + min (mx - mn) X ≤ 10 := by have : min (mx - mn) X ≤ mx - mn := Nat.min_le_left _ _; omega
 generalize min (mx - mn) X = m at hm hm2 ⊢
 rw [wsub X m hm (by omega), wdiv (X - m) (by omega), wadd mn m (by omega), wadd (mn + m) ((X - m) / 2) (by omega)]
 rw [least3]
 rfl
theorem most_set (l : List S41) (hl : l.length ≤ 10) (hsk : skillsOk l) (s : Nat) (hs : s < 1024) {k : Nat} (hk : l.length < k) : spec_l5Most.f k l (s : Int) = some ((min 3 (Sp.most bkP tpP (Sp.subAt l s)) : Nat) : Int) := by
 have e := pairs_loop l hl hsk s hs l.length k 0 0 0 0 (Nat.zero_add _) hk (Nat.le_refl _) (Nat.le_refl _) (Nat.le_refl _)
 simp only [List.drop_zero, Nat.pow_zero, Nat.div_one, Nat.zero_add] at e
 have hz := Nat.le_trans (sub_len l s) hl
 have z1 := Nat.le_trans (List.countP_le_length (p := Sp.isB bkP tpP) (l := Sp.subAt l s)) hz
 have z2 := Nat.le_trans (List.countP_le_length (p := Sp.isT bkP tpP) (l := Sp.subAt l s)) hz
 have z3 := Nat.le_trans (List.countP_le_length (p := Sp.isX bkP tpP) (l := Sp.subAt l s)) hz
 unfold spec_l5Most.f spec_l5Pairs.f Sp.most Sp.pairsOf
 have e' : spec_l5Pairs.l0 k l (s : Int) 0 0 0 0 = _ := e
 rw [e']
 clear e e'
 generalize (Sp.subAt l s).countP (Sp.isB bkP tpP) = B at z1 ⊢
 generalize (Sp.subAt l s).countP (Sp.isT bkP tpP) = T at z2 ⊢
 generalize (Sp.subAt l s).countP (Sp.isX bkP tpP) = X at z3 ⊢
 simp only [Option.bind_some, least_nat, most_nat]
 exact arith_most (min B T) (max B T) X (Nat.le_trans (Nat.min_le_left _ _) (Nat.le_max_left _ _)) (Nat.max_le.mpr ⟨z1, z2⟩) z3
def bI (L : List S41) : Option Nat → List Int
 | none => []
 | some s => idsL (Sp.subAt L s)
def bT : Option Nat → Nat
 | none => 0
 | some s => s
def foldK (L : List S41) (S : List Nat) (best : Option Nat) : Option Nat := S.foldl (Sp.stepL (fun s => idsL (Sp.subAt L s))) best
theorem fold_mem (L : List S41) : ∀ (S : List Nat) (best : Option Nat) (r : Nat), foldK L S best = some r → r ∈ S ∨ best = some r
 | [], best, r, h => .inr h
 | s :: S, best, r, h => by
  have h' : foldK L S (Sp.stepL (fun s => idsL (Sp.subAt L s)) best s) = some r := h
  rcases fold_mem L S _ r h' with h1 | h1
  ·exact .inl (List.mem_cons_of_mem _ h1)
  ·cases best with
   | none => simp only [Sp.stepL, Option.some.injEq] at h1; exact .inl (h1 ▸ List.mem_cons_self ..)
   | some b =>
    simp only [Sp.stepL] at h1
    split at h1
    ·simp only [Option.some.injEq] at h1; exact .inl (h1 ▸ List.mem_cons_self ..)
    ·exact .inr h1
theorem teamB_len (M : List S41) (h : teamB M = true) : 2 ≤ M.length ∧ M.length ≤ 5 := (of_decide_eq_true h).1
set_option maxHeartbeats 2000000 in
theorem specIn (L : List S41) (hg : goodP L = true) (c left : Nat) (hc : c ≤ 3) (hleft : left < 2 ^ L.length) (acc : List (List Int)) (d : Nat) : ∀ (k s : Nat) (best : Option Nat), s + d = left + 1 → 100 ≤ k → (∀ b, best = some b → teamB (Sp.subAt L b) = true) →
  spec_SplitTeams.l1 (k + 2 * d + 1) L acc (left : Int) ((c + 1 : Nat) : Int) (bI L best) ((bT best : Nat) : Int) (s : Int) = if acc.length < 5864062014805 then spec_SplitTeams.l0 k L (acc ++ [bI L (foldK L ((List.range' s d).filter (Sp.specOk bkP tpP L teamB c left)) best)]) (wrap64 ((left : Int) - ((bT (foldK L ((List.range' s d).filter (Sp.specOk bkP tpP L teamB c left)) best) : Nat) : Int))) (c : Int) else none := by
 have hl := good_len L hg
 have hp := pow_le hl
 have hsk := good_skills L hg
 induction d with
 | zero =>
  intro k s best hs hk hb
  have c1 : ¬ (s : Int) ≤ (left : Int) := by omega
  have ec : wrap64 (((c + 1 : Nat) : Int) - 1) = (c : Int) := (w64 (by omega) (by omega)).trans (by omega)
  simp only [Nat.mul_zero, Nat.add_zero, spec_SplitTeams.l1, if_neg c1, List.range'_zero, List.filter_nil, ec]
  rfl
 | succ d ih =>
  intro k s best hs hk hb
  have c1 : (s : Int) ≤ (left : Int) := by omega
  have ew : wrap64 ((s : Int) + 1) = ((s + 1 : Nat) : Int) := (w64 (by omega) (by omega)).trans (by omega)
  have ec : wrap64 (((c + 1 : Nat) : Int) - 1) = (c : Int) := (w64 (by omega) (by omega)).trans (by omega)
  have es : wrap64 ((left : Int) - (s : Int)) = ((left - s : Nat) : Int) := (w64 (by omega) (by omega)).trans (by omega)
  have hsub := Sp.subAt_sub L s
  have hlen := sub_len L s
  have hz : (idsL (Sp.subAt L s)).length = (Sp.subAt L s).length := by simp [idsL]
  obtain ⟨h1, h2⟩ := ids_back L _ (good_ids L hg) hsub
  have ht := team_eq L (idsL (Sp.subAt L s)) (by omega) (by omega) h2 (k := k + 2 * d + 1 + 1) (by omega)
  rw [h1, teamP_B L _ hg hsub] at ht
  have hmm := members_eq L hl s (by omega) (k := k + 2 * d + 1 + 1) (by omega)
  have hmo := most_set L hl hsk (left - s) (by omega) (k := k + 2 * d + 1 + 1) (by omega)
  have eA : (Go.bits .and .i64 (s : Int) (left : Int) = (s : Int)) = (s &&& left = s) := by
   rw [and_nat s left (by omega) (by omega)]
   exact propext (by omega)
  have ih1 := fun best hb => ih k (s + 1) best (by omega) hk hb
  have hskip : ∀ (hn : ¬ Sp.specOk bkP tpP L teamB c left s = true), spec_SplitTeams.j2 (k + 2 * d + 1 + 1) L acc (left : Int) ((c + 1 : Nat) : Int) (bI L best) ((bT best : Nat) : Int) (s : Int) (idsL (Sp.subAt L s)) true = if acc.length < 5864062014805 then spec_SplitTeams.l0 k L (acc ++ [bI L (foldK L ((List.range' s (d + 1)).filter (Sp.specOk bkP tpP L teamB c left)) best)]) (wrap64 ((left : Int) - ((bT (foldK L ((List.range' s (d + 1)).filter (Sp.specOk bkP tpP L teamB c left)) best) : Nat) : Int))) (c : Int) else none := by
   intro hn
   rw [List.range'_succ, List.filter_cons_of_neg hn]
   simp only [spec_SplitTeams.j2, if_true, ew]
   exact ih1 best hb
  rw [show k + 2 * (d + 1) + 1 = (k + 2 * d + 1 + 1) + 1 by omega]
  simp only [spec_SplitTeams.l1, if_pos c1, hmm, Option.bind_some, eA, es]
  by_cases a1 : s &&& left = s
  ·rw [if_pos a1, ht]
   simp only [Option.bind_some]
   cases a2 : teamB (Sp.subAt L s) with
   | false =>
    rw [if_neg (by simp)]
    exact hskip (by simp [Sp.specOk, a2])
   | true =>
    rw [if_pos rfl, hmo]
    simp only [Option.bind_some, ec]
    by_cases a3 : c ≤ Sp.most bkP tpP (Sp.subAt L (left - s))
    ·have hok : Sp.specOk bkP tpP L teamB c left s = true := by simp [Sp.specOk, a1, a2, a3]
     have d1 : decide (((min 3 (Sp.most bkP tpP (Sp.subAt L (left - s))) : Nat) : Int) < (c : Int)) = false := decide_eq_false (by omega)
     rw [d1, List.range'_succ, List.filter_cons_of_pos hok]
     simp only [spec_SplitTeams.j2, Bool.false_eq_true, if_false, ew]
     have htl := teamB_len _ a2
     have hnew : ∀ b, some s = some b → teamB (Sp.subAt L b) = true := fun b e => by cases e; exact a2
     cases best with
     | none =>
      have e0 : ((bI L none).length : Int) = 0 := rfl
      rw [if_pos e0]
      exact ih1 (some s) hnew
     | some b =>
      have hbl := teamB_len _ (hb b rfl)
      have hzb : (idsL (Sp.subAt L b)).length = (Sp.subAt L b).length := by simp [idsL]
      have e0 : ¬ ((bI L (some b)).length : Int) = 0 := by show ¬ ((idsL (Sp.subAt L b)).length : Int) = 0; omega
      have hle : spec_l5Less.f (k + 2 * d + 1) (idsL (Sp.subAt L s)) (bI L (some b)) = some (lxL (idsL (Sp.subAt L s)) (idsL (Sp.subAt L b))) := less_eq _ _ (by omega) (by show (idsL (Sp.subAt L b)).length ≤ 1000000; omega) (by omega)
      rw [if_neg e0, hle]
      simp only [Option.bind_some]
      cases e4 : lxL (idsL (Sp.subAt L s)) (idsL (Sp.subAt L b)) with
      | true =>
       have hst : Sp.stepL (fun s => idsL (Sp.subAt L s)) (some b) s = some s := by simp only [Sp.stepL]; rw [lx_lxL, e4, if_pos rfl]
       rw [if_pos rfl]
       have := ih1 (some s) hnew
       unfold foldK
       rw [List.foldl_cons, hst]
       exact this
      | false =>
       have hst : Sp.stepL (fun s => idsL (Sp.subAt L s)) (some b) s = some b := by simp only [Sp.stepL]; rw [lx_lxL, e4, if_neg (by simp)]
       rw [if_neg (by simp)]
       have := ih1 (some b) hb
       unfold foldK
       rw [List.foldl_cons, hst]
       exact this
    ·have d1 : decide (((min 3 (Sp.most bkP tpP (Sp.subAt L (left - s))) : Nat) : Int) < (c : Int)) = true := decide_eq_true (by omega)
     rw [d1]
     exact hskip (by simp [Sp.specOk, a3])
  ·rw [if_neg a1]
   exact hskip (by simp [Sp.specOk, a1])
theorem specOut (L : List S41) (hg : goodP L = true) (Q K : Nat) (hQ : 5000 ≤ Q) (hK : 200 ≤ K) (c : Nat) : ∀ (left : Nat), c ≤ 3 → left < 2 ^ L.length → ∀ (k : Nat) (acc : List (List Int)), Q * c + K ≤ k → acc.length + c ≤ 10 → spec_SplitTeams.l0 k L acc (left : Int) (c : Int) = some (acc ++ (Sp.specSplit bkP tpP L teamB idsL c left).map idsL, true) := by
 induction c with
 | zero =>
  intro left _ _ k acc hk _
  obtain ⟨k, rfl⟩ : ∃ m, k = m + 1 := ⟨k - 1, by omega⟩
  simp [spec_SplitTeams.l0, Sp.specSplit]
 | succ c ihc =>
  intro left hc hleft k acc hk ha
  rw [Nat.mul_succ] at hk
  have hl := good_len L hg
  have hp := pow_le hl
  obtain ⟨k, rfl⟩ : ∃ m, k = (m + 2 * left + 1) + 1 := ⟨k - 2 * left - 2, by omega⟩
  have c1 : ((c + 1 : Nat) : Int) > 0 := by omega
  have ec : wrap64 (((c + 1 : Nat) : Int) - 1) = (c : Int) := (w64 (by omega) (by omega)).trans (by omega)
  have e := specIn L hg c left (by omega) hleft acc left k 1 none (by omega) (by omega) (fun b h => by cases h)
  simp only [spec_SplitTeams.l0, if_pos c1]
  have e' : spec_SplitTeams.l1 (k + 2 * left + 1) L acc (left : Int) ((c + 1 : Nat) : Int) [] 0 1 = _ := e
  rw [e', if_pos (show acc.length < 5864062014805 by omega)]
  have hr : (List.range (left + 1)).filter (Sp.specOk bkP tpP L teamB c left) = (List.range' 1 left).filter (Sp.specOk bkP tpP L teamB c left) := by
   rw [List.range_eq_range', List.range'_succ, List.filter_cons_of_neg]
   have : ∀ l : List S41, Sp.subAt l 0 = [] := by
    intro l
    induction l with
    | nil => rfl
    | cons x r ih => simp [Sp.subAt, ih]
   simp [Sp.specOk, this, teamB]
  have hspec : Sp.specSplit bkP tpP L teamB idsL (c + 1) left = match foldK L ((List.range' 1 left).filter (Sp.specOk bkP tpP L teamB c left)) none with
   | some s => Sp.subAt L s :: Sp.specSplit bkP tpP L teamB idsL c (left - s)
   | none => [] :: Sp.specSplit bkP tpP L teamB idsL c left := by
   simp only [Sp.specSplit]
   rw [hr]
   rfl
  rw [hspec]
  have hl1 : left ≤ 100000 := by omega
  have ha1 : (acc.length + 1) + c ≤ 10 := by omega
  have hk1 : Q * c + K ≤ k := by omega
  have hc1 : c ≤ 3 := by omega
  clear hk ha hc hr hspec e e' c1
  cases hf : foldK L ((List.range' 1 left).filter (Sp.specOk bkP tpP L teamB c left)) none with
  | none =>
   have e0 : wrap64 ((left : Int) - ((bT none : Nat) : Int)) = (left : Int) := wsub left 0 (Nat.zero_le _) hl1
   rw [e0, ihc left hc1 hleft k (acc ++ [bI L none]) hk1 (by rw [List.length_append]; exact ha1)]
   simp only [List.append_assoc, List.map_cons, bI, idsL, List.map_nil, List.singleton_append]
  | some s =>
   have hs : s ≤ left := by
    rcases fold_mem L _ _ _ hf with h | h
    ·have := (List.mem_filter.mp h).1
     rw [List.mem_range'_1] at this
     omega
    ·cases h
   have e0 : wrap64 ((left : Int) - ((bT (some s) : Nat) : Int)) = ((left - s : Nat) : Int) := wsub left s hs hl1
   rw [e0, ihc (left - s) hc1 (Nat.lt_of_le_of_lt (Nat.sub_le _ _) hleft) k (acc ++ [bI L (some s)]) hk1 (by rw [List.length_append]; exact ha1)]
   simp only [List.append_assoc, List.map_cons, bI, List.singleton_append]
theorem inP_mem (R M : List S41) (hn : (idsL R).Nodup) (hs : M.Sublist R) (x : S41) (hx : x ∈ R) : inP M x = decide (x ∈ M) := by
 unfold inP
 rw [Bool.eq_iff_iff, List.any_eq_true, decide_eq_true_eq]
 constructor
 ·rintro ⟨y, hy, e⟩
  have := (of_decide_eq_true e).1
  rw [ids_inj R hn x y hx (hs.subset hy) this]
  exact hy
 ·intro h
  exact ⟨x, h, decide_eq_true ⟨rfl, rfl, rfl, rfl⟩⟩
theorem others_some (R M : List S41) (hl : R.length ≤ 10) (hn : (idsL R).Nodup) (hM : M ∈ TP R) : impl_others.f R M = some (Sp.others R M) := by
 obtain ⟨h1, h2⟩ := (mem_TP R M).mp hM
 have := teamB_len M h2
 unfold impl_others.f
 rw [if_pos ⟨by omega, by omega⟩]
 unfold delL Sp.others
 exact congrArg some (List.filter_congr fun x hx => by rw [inP_mem R M hn h1 x hx])
theorem rdT (T : List (List S41)) (i : Nat) (h : i < T.length) : rd_L4 T (i : Int) = T[i] := by simp [rd_L4, h]
theorem others_sub (R M : List S41) : (Sp.others R M).Sublist R := List.filter_sublist
theorem TP_len (R : List S41) (hl : R.length ≤ 10) : (TP R).length ≤ 1024 := by
 unfold TP
 rw [(sortT_perm _).length_eq]
 unfold teamsOf
 refine Nat.le_trans (List.length_filter_le _ _) ?_
 unfold subsFrom
 have := pow_le hl
 simpa using this
theorem canSplit_eq (Q K : Nat) (hQ : 2000 ≤ Q) (hK : 25000 ≤ K) (c : Nat) : ∀ (R : List S41), c ≤ 3 → R.length ≤ 10 → (idsL R).Nodup → ∀ k, Q * c + K ≤ k → impl_canSplit.f k R (c : Int) = some (Sp.splits TP c R) := by
 induction c with
 | zero =>
  intro R _ _ _ k hk
  obtain ⟨k, rfl⟩ : ∃ m, k = m + 1 := ⟨k - 1, by omega⟩
  simp [impl_canSplit.f, Sp.splits]
 | succ c ihc =>
  intro R hc hl hn k hk
  rw [Nat.mul_succ] at hk
  have hT := TP_len R hl
  have ec : wrap64 (((c + 1 : Nat) : Int) - 1) = (c : Int) := (w64 (by omega) (by omega)).trans (by omega)
  have hloop : ∀ (d k i : Nat), i + d = (TP R).length → Q * c + K + d + 1 ≤ k → impl_canSplit.l0 k R ((c + 1 : Nat) : Int) (TP R) ((TP R).length : Int) (i : Int) = some (((TP R).drop i).any fun M => Sp.splits TP c (Sp.others R M)) := by
   intro d
   induction d with
   | zero =>
    intro k i hi hk
    obtain ⟨k, rfl⟩ : ∃ m, k = m + 1 := ⟨k - 1, by omega⟩
    have c1 : ¬ (i : Int) < ((TP R).length : Int) := by omega
    simp only [impl_canSplit.l0, if_neg c1]
    rw [List.drop_of_length_le (by omega)]
    rfl
   | succ d ih =>
    intro k i hi hk
    obtain ⟨k, rfl⟩ : ∃ m, k = m + 1 := ⟨k - 1, by omega⟩
    have hil : i < (TP R).length := by omega
    have c1 : (i : Int) < ((TP R).length : Int) := by omega
    have c2 : 0 ≤ (i : Int) := by omega
    have ew : wrap64 ((i : Int) + 1) = ((i + 1 : Nat) : Int) := (w64 (by omega) (by omega)).trans (by omega)
    have hM : (TP R)[i] ∈ TP R := List.getElem_mem hil
    have hsub := others_sub R (TP R)[i]
    simp only [impl_canSplit.l0, if_pos c1, if_pos c2, rdT _ i hil, others_some R _ hl hn hM, Option.bind_some, ec, ew]
    rw [ihc (Sp.others R (TP R)[i]) (by omega) (Nat.le_trans hsub.length_le hl) (ids_sub hn hsub) k (by omega), List.drop_eq_getElem_cons hil, List.any_cons]
    simp only [Option.bind_some]
    cases hq : Sp.splits TP c (Sp.others R (TP R)[i]) with
    | true => simp
    | false => rw [if_neg (by simp), ih k (i + 1) (by omega) (by omega)]; simp
  obtain ⟨k, rfl⟩ : ∃ m, k = m + 1 := ⟨k - 1, by omega⟩
  have c0 : ¬ ((c + 1 : Nat) : Int) = 0 := by omega
  have et : impl_teams.f k R = some (TP R) := teams_eq R hl hn (by omega)
  simp only [impl_canSplit.f, if_neg c0, et, Option.bind_some]
  have := hloop (TP R).length k 0 (by omega) (by omega)
  simpa [Sp.splits, Sp.others] using this
theorem idsOf_loop (M : List S41) (hl : M.length ≤ 1000) (d : Nat) : ∀ (k i : Nat) (acc : List Int), i + d = M.length → d < k → acc.length ≤ i → impl_idsOf.l0 k acc M (M.length : Int) (i : Int) = some (acc ++ idsL (M.drop i)) := by
 induction d with
 | zero =>
  intro k i acc hi hk _
  obtain ⟨k, rfl⟩ : ∃ m, k = m + 1 := ⟨k - 1, by omega⟩
  have c1 : ¬ (i : Int) < (M.length : Int) := by omega
  simp only [impl_idsOf.l0, if_neg c1]
  rw [List.drop_of_length_le (by omega)]
  simp [idsL]
 | succ d ih =>
  intro k i acc hi hk ha
  obtain ⟨k, rfl⟩ : ∃ m, k = m + 1 := ⟨k - 1, by omega⟩
  have hil : i < M.length := by omega
  have c1 : (i : Int) < (M.length : Int) := by omega
  have c2 : 0 ≤ (i : Int) := by omega
  have c3 : acc.length < 17592186044416 := by omega
  have ew : wrap64 ((i : Int) + 1) = ((i + 1 : Nat) : Int) := (w64 (by omega) (by omega)).trans (by omega)
  simp only [impl_idsOf.l0, if_pos c1, if_pos c2, if_pos c3, rdP M i hil, ew]
  rw [ih k (i + 1) _ (by omega) (by omega) (by simp; omega), List.drop_eq_getElem_cons hil]
  simp only [idsL, List.map_cons, List.append_assoc, List.singleton_append]
theorem idsOf_eq (M : List S41) (hl : M.length ≤ 1000) {k : Nat} (hk : M.length < k) : impl_idsOf.f k M = some (idsL M) := by
 have := idsOf_loop M hl M.length k 0 [] (by omega) hk (Nat.le_refl _)
 unfold impl_idsOf.f
 simpa using this
theorem implOut (Q K : Nat) (hQ : 2000 ≤ Q) (hK : 40000 ≤ K) (c : Nat) : ∀ (R : List S41), c ≤ 3 → R.length ≤ 10 → (idsL R).Nodup → ∀ (k : Nat) (acc : List (List Int)), Q * c + K ≤ k → acc.length + c ≤ 10 → impl_SplitTeams.l1 k R (c : Int) acc = some (acc ++ (Sp.implSplit TP c R).map idsL, true) := by
 induction c with
 | zero =>
  intro R _ _ _ k acc hk _
  obtain ⟨k, rfl⟩ : ∃ m, k = m + 1 := ⟨k - 1, by omega⟩
  simp [impl_SplitTeams.l1, Sp.implSplit]
 | succ c ihc =>
  intro R hc hl hn k acc hk ha
  rw [Nat.mul_succ] at hk
  have hT := TP_len R hl
  have ec : wrap64 (((c + 1 : Nat) : Int) - 1) = (c : Int) := (w64 (by omega) (by omega)).trans (by omega)
  have hloop : ∀ (d k i : Nat), i + d = (TP R).length → Q * c + K + d + 1 ≤ k → impl_SplitTeams.l2 k R ((c + 1 : Nat) : Int) acc (TP R) ((TP R).length : Int) (i : Int) = some (acc ++ (match ((TP R).drop i).find? (fun M => Sp.splits TP c (Sp.others R M)) with
    | some M => M :: Sp.implSplit TP c (Sp.others R M)
    | none => Sp.implSplit TP c R).map idsL, true) := by
   intro d
   induction d with
   | zero =>
    intro k i hi hk
    obtain ⟨k, rfl⟩ : ∃ m, k = m + 1 := ⟨k - 1, by omega⟩
    have c1 : ¬ (i : Int) < ((TP R).length : Int) := by omega
    simp only [impl_SplitTeams.l2, if_neg c1, ec]
    rw [List.drop_of_length_le (by omega), ihc R (by omega) hl hn k acc (by omega) (by omega)]
    rfl
   | succ d ih =>
    intro k i hi hk
    obtain ⟨k, rfl⟩ : ∃ m, k = m + 1 := ⟨k - 1, by omega⟩
    have hil : i < (TP R).length := by omega
    have c1 : (i : Int) < ((TP R).length : Int) := by omega
    have c2 : 0 ≤ (i : Int) := by omega
    have ew : wrap64 ((i : Int) + 1) = ((i + 1 : Nat) : Int) := (w64 (by omega) (by omega)).trans (by omega)
    have hM : (TP R)[i] ∈ TP R := List.getElem_mem hil
    have hsub := others_sub R (TP R)[i]
    have hMl := teamB_len _ ((mem_TP R _).mp hM).2
    have hc3 : acc.length < 5864062014805 := by omega
    simp only [impl_SplitTeams.l2, if_pos c1, if_pos c2, rdT _ i hil, others_some R _ hl hn hM, Option.bind_some, ec, ew]
    rw [canSplit_eq 2000 25000 (Nat.le_refl _) (Nat.le_refl _) c (Sp.others R (TP R)[i]) (by omega) (Nat.le_trans hsub.length_le hl) (ids_sub hn hsub) k (by omega), List.drop_eq_getElem_cons hil]
    simp only [Option.bind_some]
    cases hq : Sp.splits TP c (Sp.others R (TP R)[i]) with
    | true =>
     rw [if_pos rfl, idsOf_eq _ (by omega) (by omega)]
     simp only [Option.bind_some]
     rw [if_pos hc3, ihc (Sp.others R (TP R)[i]) (by omega) (Nat.le_trans hsub.length_le hl) (ids_sub hn hsub) k _ (by omega) (by simp; omega), List.find?_cons_of_pos (p := fun M => Sp.splits TP c (Sp.others R M)) (a := (TP R)[i]) hq]
     simp
    | false =>
     rw [if_neg (by simp), ih k (i + 1) (by omega) (by omega), List.find?_cons_of_neg (p := fun M => Sp.splits TP c (Sp.others R M)) (a := (TP R)[i]) (by simp [hq])]
  obtain ⟨k, rfl⟩ : ∃ m, k = m + 1 := ⟨k - 1, by omega⟩
  have c0 : ((c + 1 : Nat) : Int) > 0 := by omega
  have et : impl_teams.f k R = some (TP R) := teams_eq R hl hn (by omega)
  simp only [impl_SplitTeams.l1, if_pos c0, et, Option.bind_some]
  have := hloop (TP R).length k 0 (by omega) (by omega)
  simp only [List.drop_zero] at this
  have e2 : impl_SplitTeams.l2 k R ((c + 1 : Nat) : Int) acc (TP R) ((TP R).length : Int) 0 = _ := this
  rw [e2]
  simp only [Sp.implSplit]
  cases (TP R).find? (fun M => Sp.splits TP c (Sp.others R M)) <;> rfl
theorem implCount (R : List S41) (hl : R.length ≤ 10) (hn : (idsL R).Nodup) : ∀ (n : Nat), n ≤ 3 → min 3 (Sp.most bkP tpP R) ≤ n → ∀ k, 50000 + n ≤ k → impl_SplitTeams.l0 k R (n : Int) = some ((Sp.implSplit TP (min 3 (Sp.most bkP tpP R)) R).map idsL, true) := by
 intro n
 induction n with
 | zero =>
  intro _ hm k hk
  obtain ⟨k, rfl⟩ : ∃ m, k = m + 1 := ⟨k - 1, by omega⟩
  have hs := canSplit_eq 2000 25000 (Nat.le_refl _) (Nat.le_refl _) 0 R (by omega) hl hn k (by omega)
  have e := implOut 2000 40000 (Nat.le_refl _) (Nat.le_refl _) 0 R (by omega) hl hn k [] (by omega) (by simp)
  have hm0 : min 3 (Sp.most bkP tpP R) = 0 := by omega
  rw [hm0]
  have hs' : impl_canSplit.f k R ((0 : Nat) : Int) = some true := hs
  simp only [impl_SplitTeams.l0, hs', Option.bind_some, if_true]
  rw [e, List.nil_append]
 | succ n ih =>
  intro h3 hm k hk
  obtain ⟨k, rfl⟩ : ∃ m, k = m + 1 := ⟨k - 1, by omega⟩
  have hs := canSplit_eq 2000 25000 (Nat.le_refl _) (Nat.le_refl _) (n + 1) R h3 hl hn k (by omega)
  have hiff := TP_splits (n + 1) R hn
  have ec : wrap64 (((n + 1 : Nat) : Int) - 1) = (n : Int) := (w64 (by omega) (by omega)).trans (by omega)
  simp only [impl_SplitTeams.l0, hs, Option.bind_some, ec]
  by_cases q : n + 1 ≤ Sp.most bkP tpP R
  ·rw [hiff.mpr q, if_pos rfl]
   have e := implOut 2000 40000 (Nat.le_refl _) (Nat.le_refl _) (n + 1) R h3 hl hn k [] (by omega) (by simp; omega)
   rw [e, List.nil_append, show min 3 (Sp.most bkP tpP R) = n + 1 by omega]
  ·have hf : Sp.splits TP (n + 1) R = false := by
    cases e : Sp.splits TP (n + 1) R with
    | false => rfl
    | true => exact absurd (hiff.mp e) q
   rw [hf, if_neg (by simp)]
   exact ih (by omega) (by omega) k (by omega)
theorem implSplit_len : ∀ (c : Nat) (R : List S41), R.length ≤ 10 → (Sp.implSplit TP c R).length ≤ c ∧ ∀ M ∈ Sp.implSplit TP c R, M.length ≤ 10
 | 0, R, _ => ⟨Nat.le_refl _, fun M h => by simp [Sp.implSplit] at h⟩
 | c + 1, R, hl => by
  simp only [Sp.implSplit]
  cases hf : (TP R).find? (fun M => Sp.splits TP c (Sp.others R M)) with
  | none => have := implSplit_len c R hl; exact ⟨by simp only []; omega, this.2⟩
  | some M =>
   have hM := List.mem_of_find?_eq_some hf
   have h1 := ((mem_TP R M).mp hM).1.length_le
   have h2 := implSplit_len c (Sp.others R M) (Nat.le_trans (others_sub R M).length_le hl)
   refine ⟨by simp only [List.length_cons]; omega, fun X hX => ?_⟩
   rcases List.mem_cons.mp hX with rfl | hX
   ·omega
   ·exact h2.2 X hX
theorem rdL (T : List (List S41)) (i : Nat) (h : i < T.length) : rd_L4 T (i : Int) = T[i] := by simp [rd_L4, h]
theorem implCount_loop (T : List (List S41)) (hT : T.length ≤ 1024) (hM : ∀ M ∈ T, M.length ≤ 10) (d : Nat) : ∀ (k i c : Nat), i + d = T.length → d + 20 < k → c ≤ i → impl_CountTeams.l0 k T (c : Int) T (T.length : Int) (i : Int) = some ((T.length : Int), ((c + (T.drop i).countP ableB : Nat) : Int), true) := by
 induction d with
 | zero =>
  intro k i c hi hk _
  obtain ⟨k, rfl⟩ : ∃ m, k = m + 1 := ⟨k - 1, by omega⟩
  have c1 : ¬ (i : Int) < (T.length : Int) := by omega
  simp only [impl_CountTeams.l0, if_neg c1]
  rw [List.drop_of_length_le (by omega)]
  simp
 | succ d ih =>
  intro k i c hi hk hc
  obtain ⟨k, rfl⟩ : ∃ m, k = m + 1 := ⟨k - 1, by omega⟩
  have hil : i < T.length := by omega
  have c1 : (i : Int) < (T.length : Int) := by omega
  have c2 : 0 ≤ (i : Int) := by omega
  have ew : wrap64 ((i : Int) + 1) = ((i + 1 : Nat) : Int) := (w64 (by omega) (by omega)).trans (by omega)
  have ec : wrap64 ((c : Int) + 1) = ((c + 1 : Nat) : Int) := (w64 (by omega) (by omega)).trans (by omega)
  have hm := hM T[i] (List.getElem_mem hil)
  simp only [impl_CountTeams.l0, if_pos c1, if_pos c2, rdL T i hil, skills_sum T[i] (by omega) (show T[i].length < k by omega), Option.bind_some, ew, ec]
  rw [List.drop_eq_getElem_cons hil, List.countP_cons]
  by_cases h : tripsAll T[i] 0 ≥ 20
  ·have h' : ableB T[i] = true := decide_eq_true h
   rw [if_pos h, ih k (i + 1) (c + 1) (by omega) (by omega) (by omega), if_pos h']
   refine congrArg some (Prod.ext rfl (Prod.ext ?_ rfl))
   simp only; omega
  ·have h' : ableB T[i] = false := decide_eq_false h
   rw [if_neg h, ih k (i + 1) c (by omega) (by omega) (by omega), h']
   refine congrArg some (Prod.ext rfl (Prod.ext ?_ rfl))
   simp
theorem specCount_loop (l : List S41) (hg : goodP l = true) (d : Nat) : ∀ (k s a b : Nat), s + d = 2 ^ l.length → d + 100 ≤ k → a ≤ s → b ≤ s → spec_CountTeams.l0 k l (a : Int) (b : Int) (s : Int) = some (((a + (subsFrom l s d).countP teamB : Nat) : Int), ((b + (subsFrom l s d).countP (fun M => ableB M && teamB M) : Nat) : Int), true) := by
 have hl := good_len l hg
 have hp := pow_le hl
 induction d with
 | zero =>
  intro k s a b hs hk _ _
  obtain ⟨k, rfl⟩ : ∃ m, k = m + 1 := ⟨k - 1, by omega⟩
  have c0 : 0 ≤ (l.length : Int) := by omega
  have c1 : ¬ (s : Int) < ((2 ^ l.length : Nat) : Int) := by omega
  simp only [spec_CountTeams.l0, u64_at l.length (by omega), if_pos c0, pow_at l.length hl, if_neg c1]
  simp [subsFrom]
 | succ d ih =>
  intro k s a b hs hk ha hb
  obtain ⟨k, rfl⟩ : ∃ m, k = m + 1 := ⟨k - 1, by omega⟩
  have c0 : 0 ≤ (l.length : Int) := by omega
  have c1 : (s : Int) < ((2 ^ l.length : Nat) : Int) := by omega
  have ew : wrap64 ((s : Int) + 1) = ((s + 1 : Nat) : Int) := (w64 (by omega) (by omega)).trans (by omega)
  have ea : wrap64 ((a : Int) + 1) = ((a + 1 : Nat) : Int) := (w64 (by omega) (by omega)).trans (by omega)
  have eb : wrap64 ((b : Int) + 1) = ((b + 1 : Nat) : Int) := (w64 (by omega) (by omega)).trans (by omega)
  have hsub := Sp.subAt_sub l s
  have hlen := sub_len l s
  have hz : (idsL (Sp.subAt l s)).length = (Sp.subAt l s).length := by simp [idsL]
  obtain ⟨h1, h2⟩ := ids_back l _ (good_ids l hg) hsub
  have ht := team_eq l (idsL (Sp.subAt l s)) (by omega) (by omega) h2 (k := k) (by omega)
  have hal := all_eq l (idsL (Sp.subAt l s)) (by omega) (by omega) h2 (k := k) (by omega)
  rw [h1] at ht hal
  rw [teamP_B l _ hg hsub] at ht
  simp only [spec_CountTeams.l0, u64_at l.length (by omega), if_pos c0, pow_at l.length hl, if_pos c1, members_eq l hl s (by omega) (show l.length < k by omega), Option.bind_some, ht, hal, ew, ea, eb]
  rw [subsFrom_succ, List.countP_cons, List.countP_cons]
  cases h : teamB (Sp.subAt l s) with
  | true =>
   rw [if_pos rfl]
   by_cases h3 : tripsAll (Sp.subAt l s) 0 ≥ 20
   ·have h' : ableB (Sp.subAt l s) = true := decide_eq_true h3
    rw [if_pos h3, ih k (s + 1) (a + 1) (b + 1) (by omega) (by omega) (by omega) (by omega)]
    simp only [h', Bool.and_self, if_true]
    refine congrArg some (Prod.ext ?_ (Prod.ext ?_ rfl)) <;> (simp only; omega)
   ·have h' : ableB (Sp.subAt l s) = false := decide_eq_false h3
    rw [if_neg h3, ih k (s + 1) (a + 1) b (by omega) (by omega) (by omega) (by omega)]
    simp only [h', Bool.false_and, Bool.false_eq_true, if_false, if_true]
    refine congrArg some (Prod.ext ?_ (Prod.ext ?_ rfl)) <;> (simp only; omega)
  | false =>
   rw [if_neg (by simp), ih k (s + 1) a b (by omega) (by omega) (by omega) (by omega)]
   simp
theorem count_good (l : List S41) (hM : ∀ x ∈ l, x.f1.size < 1048577 ∧ x.f1.size ≤ 140737488351232) (hg : goodP l = true) (k : Nat) (hk : 1088860 < k) : spec_CountTeams.f k l = some (((teamsOf l).length : Int), (((teamsOf l).countP ableB : Nat) : Int), true) ∧ impl_CountTeams.f k l = some (((teamsOf l).length : Int), (((teamsOf l).countP ableB : Nat) : Int), true) := by
 have h10 := good_len l hg
 have hn := good_ids l hg
 have hp := sortT_perm (teamsOf l)
 have hp2 := pow_le h10
 have hsq : l.length * (l.length + 3) ≤ 10 * 13 := Nat.mul_le_mul h10 (by omega)
 have e1 := specCount_loop l hg (2 ^ l.length) k 0 0 0 (by omega) (by omega) (by omega) (by omega)
 have hlt : (teamsOf l).length ≤ 1024 := by
  unfold teamsOf
  refine Nat.le_trans (List.length_filter_le _ _) ?_
  unfold subsFrom
  simp; omega
 have e2 := implCount_loop (sortT (teamsOf l)) (by rw [hp.length_eq]; exact hlt) (fun M hM => by
  have := (teams_sub l M (hp.mem_iff.mp hM)).1.length_le
  omega) (sortT (teamsOf l)).length k 0 0 (by omega) (by rw [hp.length_eq]; omega) (by omega)
 unfold spec_CountTeams.f impl_CountTeams.f
 rw [specGood_eq l (by omega) 1048577 hM (by omega), implGood_eq l (by omega) (by omega), hg]
 simp only [Option.bind_some, if_true]
 rw [teams_eq l h10 hn (by omega)]
 simp only [Option.bind_some]
 constructor
 ·refine Eq.trans e1 ?_
  rw [Nat.zero_add, Nat.zero_add, List.countP_eq_length_filter]
  have : (subsFrom l 0 (2 ^ l.length)).countP (fun M => ableB M && teamB M) = (teamsOf l).countP ableB := by
   unfold teamsOf
   rw [List.countP_filter]
  rw [this]
  rfl
 ·refine Eq.trans e2 ?_
  rw [List.drop_zero, hp.countP_eq, hp.length_eq, Nat.zero_add]
def idsWith (l : List S41) (a : Int) : List Int := (l.filter fun x => Go.bits .and .i64 x.f2 a = a).map (·.f0)
theorem with_loops (l : List S41) (a : Int) (hl : l.length ≤ 2097152) : ∀ (xs : List S41) (k n : Nat) (o : List Int), l.drop n = xs → o.length ≤ n → xs.length < k →
  spec_WithSkills.l0 k l a o (n : Int) = some (o ++ idsWith xs a, true) ∧ impl_WithSkills.l0 k a o l (l.length : Int) (n : Int) = some (o ++ idsWith xs a, true)
 | [], k, n, o, hx, ho, hk => by
  obtain ⟨k, rfl⟩ : ∃ m, k = m + 1 := ⟨k - 1, by omega⟩
  have hn : l.length ≤ n := List.drop_eq_nil_iff.mp hx
  simp only [spec_WithSkills.l0, impl_WithSkills.l0, idsWith]
  rw [if_neg (by omega), if_neg (by omega)]
  simp
 | x :: xs, k, n, o, hx, ho, hk => by
  obtain ⟨k, rfl⟩ : ∃ m, k = m + 1 := ⟨k - 1, by omega⟩
  have hn : n < l.length := by
   have := congrArg List.length hx
   simp at this
   omega
  have hd := List.drop_eq_getElem_cons hn
  rw [hx] at hd
  obtain ⟨h1, h2⟩ := List.cons.inj hd
  have ew : wrap64 ((n : Int) + 1) = ((n + 1 : Nat) : Int) := (w64 (by omega) (by omega)).trans (by omega)
  have er : rd_T41 l (n : Int) = x := by simp [rd_T41, hn, h1]
  have c1 : (n : Int) < (l.length : Int) := by omega
  have c2 : 0 ≤ (n : Int) := by omega
  have c3 : o.length < 17592186044416 := by omega
  have hk' : xs.length < k := by simp at hk; omega
  simp only [spec_WithSkills.l0, impl_WithSkills.l0, if_pos c1, if_pos c2, if_pos c3, er, ew]
  by_cases c : Go.bits .and .i64 x.f2 a = a
  ·have ih := with_loops l a hl xs k (n + 1) (o ++ [x.f0]) h2.symm (by simp; omega) hk'
   have e : o ++ idsWith (x :: xs) a = o ++ [x.f0] ++ idsWith xs a := by simp [idsWith, c]
   rw [e, if_pos c, if_pos c]
   exact ih
  ·have ih := with_loops l a hl xs k (n + 1) o h2.symm (by omega) hk'
   have e : o ++ idsWith (x :: xs) a = o ++ idsWith xs a := by simp [idsWith, c]
   rw [e, if_neg c, if_neg c]
   exact ih
theorem with_eq (l : List S41) (a : Int) (hl : l.length ≤ 1048576) (hM : ∀ x ∈ l, x.f1.size ≤ 1048576) : ∃ r b, (∀ k, l.length * (l.length + 3) + 1048590 < k → spec_WithSkills.f k l a = some (r, b) ∧ impl_WithSkills.f k l a = some (r, b)) ∧ r.length ≤ l.length := by
 have hM' : ∀ x ∈ l, x.f1.size < 1048577 ∧ x.f1.size ≤ 140737488351232 := fun x hx => by have := hM x hx; omega
 have hsq : l.length ≤ l.length * (l.length + 3) := Nat.le_mul_of_pos_right _ (by omega)
 by_cases h : goodP l = true ∧ 0 ≤ a ∧ a ≤ 15
 ·refine ⟨idsWith l a, true, fun k hk => ?_, ?_⟩
  ·obtain ⟨k, rfl⟩ : ∃ m, k = m + 1 := ⟨k - 1, by omega⟩
   unfold spec_WithSkills.f impl_WithSkills.f
   rw [specGood_eq l hl 1048577 hM' (by omega), implGood_eq l hl (by omega)]
   simp only [Option.bind_some, skills_eq, areSkills_eq, h.1, if_true]
   rw [decide_eq_true h.2]
   have hlo := with_loops l a (by omega) l k 0 [] rfl (by simp) (by omega)
   simp only [spec_WithSkills.j0, impl_WithSkills.j0, Bool.not_true, Bool.false_eq_true, if_false]
   simpa using hlo
  ·unfold idsWith
   rw [List.length_map]
   exact List.length_filter_le _ _
 ·refine ⟨[], false, fun k hk => ?_, by simp⟩
  obtain ⟨k, rfl⟩ : ∃ m, k = m + 1 := ⟨k - 1, by omega⟩
  unfold spec_WithSkills.f impl_WithSkills.f
  rw [specGood_eq l hl 1048577 hM' (by omega), implGood_eq l hl (by omega)]
  simp only [Option.bind_some, skills_eq, areSkills_eq]
  cases hg : goodP l with
  | false => simp [spec_WithSkills.j0, impl_WithSkills.j0]
  | true =>
   have hn : ¬ (0 ≤ a ∧ a ≤ 15) := fun z => h ⟨hg, z⟩
   rw [decide_eq_false hn]
   simp [spec_WithSkills.j0, impl_WithSkills.j0]
theorem skillsOf_eq (l : List S41) (ids : List Int) (hl : l.length ≤ 1048576) (hi : ids.length ≤ 1048576) (hM : ∀ x ∈ l, x.f1.size ≤ 1048576) : ∃ r, ∀ k, l.length * (l.length + 3) + ids.length * (ids.length + 2) + 3145800 < k → spec_SkillsOf.f k l ids = some r ∧ impl_SkillsOf.f k l ids = some r := by
 obtain ⟨r, h⟩ := teamOf_eq l ids hl hi hM
 have hsi : ids.length ≤ ids.length * (ids.length + 2) := Nat.le_mul_of_pos_right _ (by omega)
 cases r with
 | true =>
  refine ⟨(orAll (ids.map (mem l)) 0, true), fun k hk => ?_⟩
  obtain ⟨_, h2, ⟨M, h3, h4⟩, h5⟩ := h k hk
  obtain ⟨e1, e2⟩ := h2 rfl
  obtain ⟨h6, h7⟩ := h5 rfl
  obtain rfl := h4 rfl
  unfold spec_SkillsOf.f impl_SkillsOf.f
  rw [e1, h3]
  simp only [Option.bind_some, if_true]
  rw [e2, all_eq l ids hl hi h6 (by omega), skills_sum _ (by rw [List.length_map]; exact hi) (by rw [List.length_map]; omega)]
  simp
 | false =>
  refine ⟨(0, false), fun k hk => ?_⟩
  obtain ⟨h2, _, ⟨M, h3, _⟩, _⟩ := h k hk
  unfold spec_SkillsOf.f impl_SkillsOf.f
  rw [h3]
  rcases h2 rfl with e | ⟨e, e'⟩
  ·rw [e]; simp
  ·rw [e]
   simp only [Option.bind_some, if_true, e']
   simp
theorem rInts_loop (l : List Int) (hl : l.length ≤ 140737488351232) (d : Nat) : ∀ (k i : Nat), i + d = l.length → d < k → laws_rInts.l0 k l l (i : Int) = some true := by
 induction d with
 | zero =>
  intro k i hd hk
  obtain ⟨k, rfl⟩ : ∃ m, k = m + 1 := ⟨k - 1, by omega⟩
  simp only [laws_rInts.l0]
  rw [if_neg (by omega)]
 | succ d ih =>
  intro k i hd hk
  obtain ⟨k, rfl⟩ : ∃ m, k = m + 1 := ⟨k - 1, by omega⟩
  have ew : wrap64 ((i : Int) + 1) = ((i + 1 : Nat) : Int) := (w64 (by omega) (by omega)).trans (by omega)
  have c1 : (i : Int) < (l.length : Int) := by omega
  have c2 : 0 ≤ (i : Int) := by omega
  simp only [laws_rInts.l0, if_pos c1, if_pos c2, if_true, ew]
  exact ih k (i + 1) (by omega) (by omega)
theorem rInts_eq (l : List Int) (hl : l.length ≤ 140737488351232) {k : Nat} (hk : l.length < k) : laws_rInts.f k l l = some true := by
 unfold laws_rInts.f
 rw [if_pos rfl]
 exact rInts_loop l hl l.length k 0 (by omega) hk
theorem rd_u8 {l : List Int} (hl : ∀ y ∈ l, (Lit.int .u8 y).wf = true) (i : Int) : 0 ≤ rd l i ∧ rd l i ≤ 255 := by
 unfold rd
 rw [List.getD_eq_getElem?_getD]
 cases e : l[i.toNat]? with
 | none => simp
 | some x =>
  have h := hl x (List.mem_of_getElem? e)
  simp only [Lit.wf, Bool.and_eq_true, decide_eq_true_eq] at h
  have h2 : 0 ≤ x ∧ x ≤ 255 := h
  simpa using h2
theorem and_255 (x : Int) (h0 : 0 ≤ x) (h1 : x < 18446744073709551616) : 0 ≤ Go.bits .and .u64 x 255 ∧ Go.bits .and .u64 x 255 ≤ 255 := by
 have h := bits_and_u64_nat x.toNat 255 (by omega) (by omega)
 have e : ((x.toNat : Nat) : Int) = x := Int.toNat_of_nonneg h0
 rw [e] at h
 have e2 : ((255 : Nat) : Int) = 255 := rfl
 rw [e2] at h
 rw [h]
 have := Nat.and_le_right (n := x.toNat) (m := 255)
 omega
def Pl (p : Int) : Prop := 0 ≤ p ∧ p ≤ 1000000
theorem u64_bound (x : Int) : 0 ≤ IntKind.u64.wrap x ∧ IntKind.u64.wrap x < 18446744073709551616 := by
 have e : IntKind.u64.wrap x = x % 18446744073709551616 := rfl
 rw [e]
 omega
theorem next_ok {l : List Int} (hl : ∀ y ∈ l, (Lit.int .u8 y).wf = true) (p q : Int) (h0 : 0 ≤ p) (h1 : p ≤ 1000000) : ∃ v p' q', spec_l1Cur_next.f l p q = some (v, p', q') ∧ 0 ≤ v ∧ v ≤ 255 ∧ 0 ≤ p' ∧ p' ≤ p + 1 := by
 have ep : wrap64 (p + 1) = p + 1 := w64 (by omega) (by omega)
 have hd : ∀ x : Int, 0 ≤ wrap64 (Go.bits .and .u64 (IntKind.u64.wrap x / 1099511627776) 255) ∧ wrap64 (Go.bits .and .u64 (IntKind.u64.wrap x / 1099511627776) 255) ≤ 255 := by
  intro x
  have hb := u64_bound x
  have h := and_255 (IntKind.u64.wrap x / 1099511627776) (by omega) (by omega)
  rw [w64 (by omega) (by omega)]
  exact h
 unfold spec_l1Cur_next.f
 rw [ep]
 have hr := rd_u8 hl p
 have er : wrap64 (rd l p) = rd l p := w64 (by omega) (by omega)
 by_cases c : p < (l.length : Int)
 ·have c2 : p + 1 ≤ (l.length : Int) := by omega
  simp only [if_pos c, if_pos h0, if_pos c2]
  exact ⟨_, _, _, rfl, by rw [er]; exact hr.1, by rw [er]; exact hr.2, by omega, by omega⟩
 ·have c2 : ¬ p + 1 ≤ (l.length : Int) := by omega
  simp only [if_neg c, if_neg c2]
  exact ⟨_, _, _, rfl, (hd _).1, (hd _).2, by omega, by omega⟩
theorem pick_ok {l : List Int} (hl : ∀ y ∈ l, (Lit.int .u8 y).wf = true) (p q n : Int) (h0 : 0 ≤ p) (h1 : p ≤ 900000) (hn : 1 ≤ n) (hn1 : n ≤ 1000000) : ∃ v p' q', spec_l1Cur_pick.f l p q n = some (v, p', q') ∧ 0 ≤ v ∧ v < n ∧ 0 ≤ p' ∧ p' ≤ p + 2 := by
 unfold spec_l1Cur_pick.f
 by_cases c : n ≤ 1
 ·rw [if_pos c]
  exact ⟨_, _, _, rfl, by omega, by omega, by omega, by omega⟩
 ·have cz : ¬ n = 0 := by omega
  obtain ⟨v, p1, q1, e1, a1, a2, a3, a4⟩ := next_ok hl p q h0 (by omega)
  rw [if_neg c, e1]
  simp only [Option.bind_some, if_neg cz]
  by_cases c2 : n > 200
  ·obtain ⟨v2, p2, q2, e2, b1, b2, b3, b4⟩ := next_ok hl p1 q1 a3 (by omega)
   rw [if_pos c2, e2]
   simp only [Option.bind_some]
   rw [w64 (x := v * 256) (by omega) (by omega), w64 (x := v * 256 + v2) (by omega) (by omega), Int.tmod_eq_emod_of_nonneg (by omega)]
   exact ⟨_, _, _, rfl, Int.emod_nonneg _ cz, Int.emod_lt_of_pos _ (by omega), by omega, by omega⟩
  ·rw [if_neg c2, Int.tmod_eq_emod_of_nonneg (by omega)]
   exact ⟨_, _, _, rfl, Int.emod_nonneg _ cz, Int.emod_lt_of_pos _ (by omega), by omega, by omega⟩
theorem among_ok {l : List Int} (hl : ∀ y ∈ l, (Lit.int .u8 y).wf = true) (p q : Int) (xs : List Int) (h0 : 0 ≤ p) (h1 : p ≤ 900000) (hx : 1 ≤ xs.length) (hx1 : xs.length ≤ 1000000) {P : Int → Prop} (hP : ∀ x ∈ xs, P x) : ∃ v p' q', spec_l1Cur_among.f l p q xs = some (v, p', q') ∧ P v ∧ 0 ≤ p' ∧ p' ≤ p + 2 := by
 obtain ⟨v, p1, q1, e1, a1, a2, a3, a4⟩ := pick_ok hl p q (xs.length : Int) h0 h1 (by omega) (by omega)
 unfold spec_l1Cur_among.f
 rw [e1]
 simp only [Option.bind_some]
 rw [if_pos a1, if_pos a2]
 refine ⟨_, _, _, rfl, ?_, a3, a4⟩
 have hv : v.toNat < xs.length := by omega
 have e : rd xs v = xs[v.toNat] := by unfold rd; rw [List.getD_eq_getElem?_getD, List.getElem?_eq_getElem hv]; rfl
 rw [e]
 exact hP _ (List.getElem_mem hv)
theorem one_ok {l : List Int} (hl : ∀ y ∈ l, (Lit.int .u8 y).wf = true) (p q n : Int) (h0 : 0 ≤ p) (h1 : p ≤ 900000) (hn : 1 ≤ n) (hn1 : n ≤ 1000000) : ∃ b p' q', spec_l1Cur_one.f l p q n = some (b, p', q') ∧ 0 ≤ p' ∧ p' ≤ p + 2 := by
 obtain ⟨v, p1, q1, e1, a1, a2, a3, a4⟩ := pick_ok hl p q n h0 h1 hn hn1
 unfold spec_l1Cur_one.f
 rw [e1]
 exact ⟨_, _, _, rfl, a3, a4⟩
theorem of_ok {l : List Int} (hl : ∀ y ∈ l, (Lit.int .u8 y).wf = true) (p q : Int) (xs : List ByteArray) (h0 : 0 ≤ p) (h1 : p ≤ 900000) (hx : 1 ≤ xs.length) (hx1 : xs.length ≤ 1000000) {P : ByteArray → Prop} (hP : ∀ x ∈ xs, P x) : ∃ s p' q', spec_l1Cur_of.f l p q xs = some (s, p', q') ∧ P s ∧ 0 ≤ p' ∧ p' ≤ p + 2 := by
 obtain ⟨v, p1, q1, e1, a1, a2, a3, a4⟩ := pick_ok hl p q (xs.length : Int) h0 h1 (by omega) (by omega)
 unfold spec_l1Cur_of.f
 rw [e1]
 simp only [Option.bind_some]
 rw [if_pos a1, if_pos a2]
 refine ⟨_, _, _, rfl, hP _ ?_, a3, a4⟩
 have hlt : v.toNat < xs.length := by omega
 have e : rdOf ByteArray.empty xs v = xs[v.toNat] := by simp [rdOf, hlt]
 rw [e]
 exact List.getElem_mem hlt
theorem strOfNums_one (n : Int) : (strOfNums [n]).size = 1 := by simp [strOfNums, ByteArray.size]
theorem skills_ok {l : List Int} (hw : ∀ y ∈ l, (Lit.int .u8 y).wf = true) (p q : Int) (h0 : 0 ≤ p) (h1 : p ≤ 850000) : ∃ v p' q', spec_l1Cur_skills.f l p q = some (v, p', q') ∧ 0 ≤ p' ∧ p' ≤ p + 4 := by
 unfold spec_l1Cur_skills.f
 obtain ⟨v, p1, q1, e1, a1, a2, a3, a4⟩ := pick_ok hw p q 24 h0 (by omega) (by omega) (by omega)
 rw [e1]
 simp only [Option.bind_some]
 rw [if_pos ⟨a1, a2⟩]
 have ht : Int.tdiv v 11 = v / 11 := Int.tdiv_eq_ediv_of_nonneg a1
 have hn : 7 ≤ (7 + Int.tdiv v 11).toNat := by rw [ht]; omega
 have hl2 : (([0, 1, 3, 4, 7, 8, 15, -1, 16] : List Int).take (7 + Int.tdiv v 11).toNat).length = min (7 + Int.tdiv v 11).toNat 9 := by rw [List.length_take]; rfl
 obtain ⟨v2, p2, q2, e2, b1, b2, b3⟩ := among_ok hw p1 q1 (([0, 1, 3, 4, 7, 8, 15, -1, 16] : List Int).take (7 + Int.tdiv v 11).toNat) a3 (by omega) (by rw [hl2]; omega) (by rw [hl2]; omega) (P := fun _ => True) (fun _ _ => trivial)
 exact ⟨v2, p2, q2, e2, b2, by omega⟩
def shortN (o : List S41) : Prop := ∀ x ∈ o, x.f1.size ≤ 11
theorem shortN_snoc {o : List S41} (h : shortN o) (x : S41) (hx : x.f1.size ≤ 11) : shortN (o ++ [x]) := by
 intro y hy
 rcases List.mem_append.mp hy with hy | hy
 ·exact h y hy
 ·rw [List.mem_singleton.mp hy]; exact hx
theorem shortN_set {o : List S41} (h : shortN o) (i : Nat) (x : S41) (hx : x.f1.size ≤ 11) : shortN (o.set i x) := by
 intro y hy
 rcases List.mem_or_eq_of_mem_set hy with hy | hy
 ·exact h y hy
 ·rw [hy]; exact hx
theorem rd_short {o : List S41} (h : shortN o) (i : Int) : (rd_T41 o i).f1.size ≤ 11 := by
 unfold rd_T41
 rw [List.getD_eq_getElem?_getD]
 cases e : o[i.toNat]? with
 | none => simp [z41, ByteArray.size]
 | some x => exact h x (List.mem_of_getElem? e)
theorem rdOf_short (o : List ByteArray) (h : ∀ x ∈ o, x.size ≤ 11) (i : Int) : (rdOf ByteArray.empty o i).size ≤ 11 := by
 unfold rdOf
 rw [List.getD_eq_getElem?_getD]
 cases e : o[i.toNat]? with
 | none => simp
 | some x => exact h x (List.mem_of_getElem? e)
theorem peo1_ok {l : List Int} (hw : ∀ y ∈ l, (Lit.int .u8 y).wf = true) (d : Nat) : ∀ (k i : Nat) (o : List S41) (p q : Int), 0 ≤ p → p + 2 * d ≤ 800000 → i + d = 11 → o.length = i → shortN o → d < k →
  ∃ r p' q', spec_l1Cur_people.l1 k o (i : Int) l p q = some (r, p', q') ∧ r.length ≤ 11 ∧ shortN r ∧ 0 ≤ p' ∧ p' ≤ p + 2 * d + 2 := by
 induction d with
 | zero =>
  intro k i o p q h0 h1 h2 h3 h4 hk
  obtain ⟨k, rfl⟩ : ∃ m, k = m + 1 := ⟨k - 1, by omega⟩
  obtain ⟨v, p1, q1, e1, a1, a2, a3, a4⟩ := pick_ok hw p q 2 h0 (by omega) (by omega) (by omega)
  simp only [spec_l1Cur_people.l1, e1, Option.bind_some]
  rw [w64 (x := 10 + v) (by omega) (by omega), if_neg (by omega)]
  exact ⟨_, _, _, rfl, by omega, h4, a3, by omega⟩
 | succ d ih =>
  intro k i o p q h0 h1 h2 h3 h4 hk
  obtain ⟨k, rfl⟩ : ∃ m, k = m + 1 := ⟨k - 1, by omega⟩
  obtain ⟨v, p1, q1, e1, a1, a2, a3, a4⟩ := pick_ok hw p q 2 h0 (by omega) (by omega) (by omega)
  simp only [spec_l1Cur_people.l1, e1, Option.bind_some]
  rw [w64 (x := 10 + v) (by omega) (by omega)]
  by_cases c : (i : Int) < 10 + v
  ·have ew : wrap64 ((i : Int) + 1) = ((i + 1 : Nat) : Int) := (w64 (by omega) (by omega)).trans (by omega)
   rw [if_pos c, if_pos (by omega), ew]
   obtain ⟨r, p2, q2, e2, b1, b2, b3, b4⟩ := ih k (i + 1) (o ++ [⟨((i + 1 : Nat) : Int), strOfNums (([(wrap64 (97 + (i : Int))) % 256] : List Int)), Int.tmod (i : Int) 4, wrap64 (3 * (i : Int))⟩]) p1 q1 a3 (by omega) (by omega) (by simp; omega) (shortN_snoc h4 _ (by rw [strOfNums_one]; decide)) (by omega)
   exact ⟨r, p2, q2, e2, b1, b2, b3, by omega⟩
  ·rw [if_neg c]
   exact ⟨_, _, _, rfl, by omega, h4, a3, by omega⟩
theorem peo0_ok {l : List Int} (hw : ∀ y ∈ l, (Lit.int .u8 y).wf = true) (names : List ByteArray) (hnl : names.length = 10) (hns : ∀ x ∈ names, x.size ≤ 11) (d : Nat) : ∀ (k : Nat) (o : List S41) (b p q : Int), 0 ≤ p → p + 8 * d ≤ 700000 → o.length + d ≤ 7 → shortN o → d + 20 < k →
  ∃ r p' q', spec_l1Cur_people.l0 k o names b (d : Int) l p q = some (r, p', q') ∧ r.length ≤ 11 ∧ shortN r ∧ 0 ≤ p' ∧ p' ≤ p + 8 * d + 100 := by
 induction d with
 | zero =>
  intro k o b p q h0 h1 h2 h4 hk
  obtain ⟨k, rfl⟩ : ∃ m, k = m + 1 := ⟨k - 1, by omega⟩
  have c0 : ¬ ((0 : Nat) : Int) > 0 := by omega
  simp only [spec_l1Cur_people.l0, if_neg c0]
  by_cases c1 : (o.length : Int) = 0
  ·rw [if_pos c1]
   exact ⟨_, _, _, rfl, by omega, h4, h0, by omega⟩
  ·rw [if_neg c1]
   obtain ⟨v, p1, q1, e1, a1, a2, a3, a4⟩ := pick_ok hw p q (o.length : Int) h0 (by omega) (by omega) (by omega)
   obtain ⟨v2, p2, q2, e2, b1, b2, b3, b4⟩ := pick_ok hw p1 q1 50 a3 (by omega) (by omega) (by omega)
   simp only [e1, Option.bind_some, if_pos a1, if_pos a2, e2]
   have hrs := rd_short h4 v
   split
   ·obtain ⟨v3, p3, q3, e3, _, f2, f3⟩ := among_ok hw p2 q2 [0, 99, 100] b3 (by omega) (by decide) (by decide) (P := fun _ => True) (fun _ _ => trivial)
    rw [e3]
    exact ⟨_, _, _, rfl, by rw [List.length_set]; omega, shortN_set h4 _ _ hrs, f2, show p3 ≤ _ by omega⟩
   ·split
    ·obtain ⟨v3, p3, q3, e3, f1, f2, f3⟩ := of_ok hw p2 q2 [(⟨#[]⟩ : ByteArray), (⟨#[65]⟩ : ByteArray), (⟨#[97, 110, 110]⟩ : ByteArray), (⟨#[97, 98, 99, 100, 101, 102, 103, 104, 105, 106, 107]⟩ : ByteArray)] b3 (by omega) (by decide) (by decide) (P := fun x => x.size ≤ 11) (by decide)
     rw [e3]
     exact ⟨_, _, _, rfl, by rw [List.length_set]; omega, shortN_set h4 _ _ f1, f2, show p3 ≤ _ by omega⟩
    ·split
     ·obtain ⟨v3, p3, q3, e3, _, f2, f3⟩ := among_ok hw p2 q2 [(-1), 16] b3 (by omega) (by decide) (by decide) (P := fun _ => True) (fun _ _ => trivial)
      rw [e3]
      exact ⟨_, _, _, rfl, by rw [List.length_set]; omega, shortN_set h4 _ _ hrs, f2, show p3 ≤ _ by omega⟩
     ·split
      ·obtain ⟨v3, p3, q3, e3, _, f2, f3⟩ := among_ok hw p2 q2 [(-1), 501] b3 (by omega) (by decide) (by decide) (P := fun _ => True) (fun _ _ => trivial)
       rw [e3]
       exact ⟨_, _, _, rfl, by rw [List.length_set]; omega, shortN_set h4 _ _ hrs, f2, show p3 ≤ _ by omega⟩
      ·split
       ·obtain ⟨r, p3, q3, e3, f1, f2, f3, f4⟩ := peo1_ok hw 11 k 0 [] p2 q2 b3 (by omega) (by omega) rfl (fun x hx => by cases hx) (by omega)
        exact ⟨r, p3, q3, e3, f1, f2, f3, by omega⟩
       ·exact ⟨_, _, _, rfl, by rw [List.length_set]; omega, shortN_set h4 _ _ hrs, b3, show p2 ≤ _ by omega⟩
 | succ d ih =>
  intro k o b p q h0 h1 h2 h4 hk
  obtain ⟨k, rfl⟩ : ∃ m, k = m + 1 := ⟨k - 1, by omega⟩
  obtain ⟨v, p1, q1, e1, a1, a2, a3, a4⟩ := pick_ok hw p q 3 h0 (by omega) (by omega) (by omega)
  obtain ⟨v2, p2, q2, e2, _, b2, b3⟩ := among_ok hw p1 q1 [0, 1, 1, 2, 2, 3, 5, 10, 15] a3 (by omega) (by decide) (by decide) (P := fun _ => True) (fun _ _ => trivial)
  obtain ⟨v3, p3, q3, e3, _, f2, f3⟩ := among_ok hw p2 q2 [0, 1, 5, 10, 20, 500] b2 (by omega) (by decide) (by decide) (P := fun _ => True) (fun _ _ => trivial)
  have c0 : ((d + 1 : Nat) : Int) > 0 := by omega
  have c1 : 0 ≤ (o.length : Int) := by omega
  have c2 : (o.length : Int) < (names.length : Int) := by omega
  have c3 : o.length < 3518437208883 := by omega
  have ew : wrap64 (((d + 1 : Nat) : Int) - 1) = (d : Int) := (w64 (by omega) (by omega)).trans (by omega)
  simp only [spec_l1Cur_people.l0, if_pos c0, e1, Option.bind_some, if_pos c1, if_pos c2, e2, e3, if_pos c3, ew]
  obtain ⟨r, p4, q4, e4, g1, g2, g3, g4⟩ := ih k (o ++ [⟨wrap64 ((wrap64 (b + 1)) + v), rdOf ByteArray.empty names (o.length : Int), v2, v3⟩]) (wrap64 ((wrap64 (b + 1)) + v)) p3 q3 f2 (by omega) (by simp; omega) (shortN_snoc h4 _ (rdOf_short names hns _)) (by omega)
  exact ⟨r, p4, q4, e4, g1, g2, g3, by omega⟩
theorem people_ok {l : List Int} (hw : ∀ y ∈ l, (Lit.int .u8 y).wf = true) (p q : Int) (h0 : 0 ≤ p) (h1 : p ≤ 600000) {k : Nat} (hk : 40 ≤ k) : ∃ r p' q', spec_l1Cur_people.f k l p q = some (r, p', q') ∧ r.length ≤ 11 ∧ shortN r ∧ 0 ≤ p' ∧ p' ≤ p + 200 := by
 unfold spec_l1Cur_people.f
 obtain ⟨v, p1, q1, e1, a1, a2, a3, a4⟩ := pick_ok hw p q 7 h0 (by omega) (by omega) (by omega)
 obtain ⟨n, rfl⟩ : ∃ n : Nat, v = (n : Int) := ⟨v.toNat, by omega⟩
 rw [e1]
 simp only [Option.bind_some]
 obtain ⟨r, p2, q2, e2, b1, b2, b3, b4⟩ := peo0_ok hw ([(⟨#[97, 110, 110]⟩ : ByteArray), (⟨#[98, 111]⟩ : ByteArray), (⟨#[99, 121]⟩ : ByteArray), (⟨#[100, 105]⟩ : ByteArray), (⟨#[101, 118, 101]⟩ : ByteArray), (⟨#[102, 97, 121]⟩ : ByteArray), (⟨#[103, 117, 115]⟩ : ByteArray), (⟨#[104, 97, 108]⟩ : ByteArray), (⟨#[105, 100, 97]⟩ : ByteArray), (⟨#[106, 111]⟩ : ByteArray)] : List ByteArray) rfl (by decide) n k [] 0 p1 q1 a3 (by omega) (by simp; omega) (fun x hx => by cases hx) (by omega)
 exact ⟨r, p2, q2, e2, b1, b2, b3, by omega⟩
theorem team_ok {l : List Int} (hw : ∀ y ∈ l, (Lit.int .u8 y).wf = true) (L : List S41) (hL : L.length ≤ 11) (d : Nat) : ∀ (k i : Nat) (o : List Int) (p q : Int), 0 ≤ p → p + 2 * d ≤ 700000 → i + d = L.length → o.length ≤ i → d < k →
  ∃ r p' q', spec_l1Cur_team.l0 k L o (i : Int) l p q = some (r, p', q') ∧ r.length ≤ 12 ∧ 0 ≤ p' ∧ p' ≤ p + 2 * d + 10 := by
 induction d with
 | zero =>
  intro k i o p q h0 h1 h2 h3 hk
  obtain ⟨k, rfl⟩ : ∃ m, k = m + 1 := ⟨k - 1, by omega⟩
  have c1 : ¬ (i : Int) < (L.length : Int) := by omega
  have c3 : o.length < 17592186044416 := by omega
  obtain ⟨v, p1, q1, e1, a1, a2, a3, a4⟩ := pick_ok hw p q 24 h0 (by omega) (by omega) (by omega)
  simp only [spec_l1Cur_team.l0, if_neg c1, e1, Option.bind_some]
  split
  ·obtain ⟨v3, p3, q3, e3, _, f2, f3⟩ := among_ok hw p1 q1 [0, 1, 98] a3 (by omega) (by decide) (by decide) (P := fun _ => True) (fun _ _ => trivial)
   rw [e3]
   simp only [Option.bind_some, if_pos c3]
   exact ⟨_, _, _, rfl, by simp; omega, f2, by omega⟩
  ·split
   ·split
    ·rename_i c5
     rw [if_pos (show (0 : Int) < (o.length : Int) by omega)]
     exact ⟨_, _, _, rfl, by rw [List.length_set]; omega, a3, by omega⟩
    ·exact ⟨_, _, _, rfl, by omega, a3, by omega⟩
   ·exact ⟨_, _, _, rfl, by omega, a3, by omega⟩
 | succ d ih =>
  intro k i o p q h0 h1 h2 h3 hk
  obtain ⟨k, rfl⟩ : ∃ m, k = m + 1 := ⟨k - 1, by omega⟩
  have c1 : (i : Int) < (L.length : Int) := by omega
  have c2 : 0 ≤ (i : Int) := by omega
  have c3 : o.length < 17592186044416 := by omega
  have ew : wrap64 ((i : Int) + 1) = ((i + 1 : Nat) : Int) := (w64 (by omega) (by omega)).trans (by omega)
  obtain ⟨b, p1, q1, e1, a3, a4⟩ := one_ok hw p q 2 h0 (by omega) (by omega) (by omega)
  simp only [spec_l1Cur_team.l0, if_pos c1, e1, Option.bind_some, if_pos c2, if_pos c3, ew]
  split
  ·obtain ⟨r, p4, q4, e4, g1, g3, g4⟩ := ih k (i + 1) (o ++ [(rd_T41 L (i : Int)).f0]) p1 q1 a3 (by omega) (by omega) (by simp; omega) (by omega)
   exact ⟨r, p4, q4, e4, g1, g3, by omega⟩
  ·obtain ⟨r, p4, q4, e4, g1, g3, g4⟩ := ih k (i + 1) o p1 q1 a3 (by omega) (by omega) (by omega) (by omega)
   exact ⟨r, p4, q4, e4, g1, g3, by omega⟩
theorem strict_true (ids : List Int) (hl : ids.length ≤ 1000) (h1 : ∀ x ∈ ids, 1 ≤ x ∧ x ≤ 99) (h2 : ids.Pairwise (fun x y => x < y)) (d : Nat) : ∀ (k i : Nat), i + d = ids.length → d < k → impl_strictly.l0 k ids 1 99 ids (ids.length : Int) (i : Int) = some true := by
 induction d with
 | zero =>
  intro k i hd hk
  obtain ⟨k, rfl⟩ : ∃ m, k = m + 1 := ⟨k - 1, by omega⟩
  have c1 : ¬ (i : Int) < (ids.length : Int) := by omega
  simp only [impl_strictly.l0, if_neg c1]
 | succ d ih =>
  intro k i hd hk
  obtain ⟨k, rfl⟩ : ∃ m, k = m + 1 := ⟨k - 1, by omega⟩
  have hil : i < ids.length := by omega
  have c1 : (i : Int) < (ids.length : Int) := by omega
  have c2 : 0 ≤ (i : Int) := by omega
  have ew : wrap64 ((i : Int) + 1) = ((i + 1 : Nat) : Int) := (w64 (by omega) (by omega)).trans (by omega)
  have er : rd ids (i : Int) = ids[i] := by simp [rd, hil]
  have hb := h1 ids[i] (List.getElem_mem hil)
  simp only [impl_strictly.l0, if_pos c1, if_pos c2, er, within_eq, Option.bind_some, ew]
  rw [decide_eq_true hb, if_pos rfl]
  by_cases c3 : (i : Int) > 0
  ·have hi1 : i - 1 < ids.length := by omega
   have em : wrap64 ((i : Int) - 1) = ((i - 1 : Nat) : Int) := (w64 (by omega) (by omega)).trans (by omega)
   have er2 : rd ids ((i - 1 : Nat) : Int) = ids[i - 1] := by simp [rd, hi1]
   have hlt : ids[i - 1] < ids[i] := List.pairwise_iff_getElem.mp h2 (i - 1) i hi1 hil (by omega)
   rw [if_pos c3, em, if_pos (by omega), if_pos (by omega), er2, if_neg (by omega)]
   exact ih k (i + 1) (by omega) (by omega)
  ·rw [if_neg c3]
   exact ih k (i + 1) (by omega) (by omega)
theorem good_pair (l : List S41) (h : goodP l = true) : (idsL l).Pairwise (fun x y => x < y) := by
 unfold idsL
 rw [List.pairwise_map, List.pairwise_iff_getElem]
 intro i j hi hj hij
 have := good_lt l h (j - i - 1) i (by omega)
 have e : i + (j - i - 1) + 1 = j := by omega
 simp only [e] at this
 exact this
theorem good_range (l : List S41) (h : goodP l = true) : ∀ x ∈ idsL l, 1 ≤ x ∧ x ≤ 99 := by
 intro x hx
 obtain ⟨y, hy, rfl⟩ := List.mem_map.mp hx
 obtain ⟨i, hi, rfl⟩ := List.getElem_of_mem hy
 obtain ⟨h1, _⟩ := (good_ok l h).1 i (Nat.zero_le _) hi
 rw [rdP l i hi] at h1
 exact h1
theorem isTeam_true (l M : List S41) (h : goodP l = true) (hs : M.Sublist l) (ht : teamB M = true) {k : Nat} (hk : 1048900 < k) : impl_IsTeam.f k l (idsL M) = some (true, true) := by
 have hl := good_len l h
 have hlen := hs.length_le
 have hz : (idsL M).length = M.length := by simp [idsL]
 obtain ⟨h1, h2⟩ := ids_back l M (good_ids l h) hs
 have hst : impl_strictly.f k (idsL M) 1 99 = some true := strict_true (idsL M) (by omega) (fun x hx => good_range l h x ((hs.map _).subset hx)) ((good_pair l h).sublist (hs.map _)) (idsL M).length k 0 (by omega) (by omega)
 have hm := membersOf_eq l (idsL M) (by omega) hst
 rw [if_pos ⟨rfl, h2⟩, h1] at hm
 have hsq : l.length * (l.length + 3) ≤ 10 * 13 := Nat.mul_le_mul hl (by omega)
 have hsq2 : M.length * (M.length + 2) ≤ 10 * 12 := Nat.mul_le_mul (by omega) (by omega)
 have ha : impl_areTeam.f k M = some (teamB M) := areTeam_eq M (by omega) (by omega)
 unfold impl_IsTeam.f
 rw [hm]
 simp only [Option.bind_some, if_true]
 rw [implGood_eq l (by omega) (by omega), h]
 simp only [Option.bind_some, if_true]
 rw [ha, ht]
 rfl
theorem others_ids (R M : List S41) (hn : (idsL R).Nodup) (hs : M.Sublist R) (x : Int) (h1 : x ∈ idsL M) (h2 : x ∈ idsL (Sp.others R M)) : False := by
 obtain ⟨a, ha, rfl⟩ := List.mem_map.mp h1
 obtain ⟨b, hb, e⟩ := List.mem_map.mp h2
 obtain ⟨hb1, hb2⟩ := List.mem_filter.mp hb
 have : b = a := ids_inj R hn b a hb1 (hs.subset ha) e
 subst this
 simp [ha] at hb2
theorem split_props : ∀ (c : Nat) (R : List S41), (idsL R).Nodup → (∀ M ∈ Sp.implSplit TP c R, M.Sublist R ∧ teamB M = true) ∧ ((Sp.implSplit TP c R).map idsL).flatten.Nodup
 | 0, R, _ => ⟨fun M h => by simp [Sp.implSplit] at h, by simp [Sp.implSplit]⟩
 | c + 1, R, hn => by
  simp only [Sp.implSplit]
  cases hf : (TP R).find? (fun M => Sp.splits TP c (Sp.others R M)) with
  | none => exact split_props c R hn
  | some M =>
   have hM := (mem_TP R M).mp (List.mem_of_find?_eq_some hf)
   have hsub := others_sub R M
   obtain ⟨p1, p2⟩ := split_props c (Sp.others R M) (ids_sub hn hsub)
   refine ⟨fun X hX => ?_, ?_⟩
   ·rcases List.mem_cons.mp hX with rfl | hX
    ·exact hM
    ·exact ⟨(p1 X hX).1.trans hsub, (p1 X hX).2⟩
   ·simp only [List.map_cons, List.flatten_cons]
    rw [List.nodup_append]
    refine ⟨ids_sub hn hM.1, p2, fun a ha b hb e => ?_⟩
    subst e
    obtain ⟨L, hL, hb⟩ := List.mem_flatten.mp hb
    obtain ⟨X, hX, rfl⟩ := List.mem_map.mp hL
    exact others_ids R M hn hM.1 a ha (((p1 X hX).1.map _).subset hb)
theorem split_none (c : Nat) (R : List S41) (hn : (idsL R).Nodup) (hc : c ≤ Sp.most bkP tpP R) : (Sp.implSplit TP c R).length = 0 ↔ c = 0 := by
 cases c with
 | zero => simp [Sp.implSplit]
 | succ c =>
  have hs := (TP_splits (c + 1) R hn).mpr hc
  simp only [Sp.splits, List.any_eq_true] at hs
  obtain ⟨M, hM, hq⟩ := hs
  simp only [Sp.implSplit]
  cases hf : (TP R).find? (fun M => Sp.splits TP c (Sp.others R M)) with
  | none =>
   have := List.find?_eq_none.mp hf M hM
   exact absurd hq this
  | some X => simp
theorem teams_none (R : List S41) (hn : (idsL R).Nodup) : (teamsOf R).length = 0 ↔ Sp.most bkP tpP R = 0 := by
 have h1 := TP_splits 1 R hn
 have e : (TP R).length = (teamsOf R).length := by unfold TP; exact (sortT_perm _).length_eq
 rw [← e]
 constructor
 ·intro h
  have : TP R = [] := List.eq_nil_of_length_eq_zero h
  have hs : Sp.splits TP 1 R = false := by simp [Sp.splits, this]
  rw [hs] at h1
  have := mt h1.mpr (by simp)
  omega
 ·intro h
  have hs : Sp.splits TP 1 R = false := by
   cases q : Sp.splits TP 1 R with
   | false => rfl
   | true => have := h1.mp q; omega
  simp only [Sp.splits, List.any_eq_false] at hs
  cases hT : TP R with
  | nil => rfl
  | cons M T => exact absurd (hs M (by rw [hT]; exact List.mem_cons_self ..)) (by simp)
theorem split_law (l : List S41) (hl : l.length ≤ 11) (hM : shortN l) : ∃ (r : List (List Int)) (b : Bool), (∀ k, 1048800 < k → spec_SplitTeams.f k l = some (r, b) ∧ impl_SplitTeams.f k l = some (r, b)) ∧ r.length ≤ 3 ∧ (∀ x ∈ r, x.length ≤ 10) ∧ (∀ x ∈ r, ∀ k, 1048900 < k → impl_IsTeam.f k l x = some (true, true)) ∧ r.flatten.Nodup ∧
  ∃ (n a : Nat) (q : Bool), (∀ k, 1088900 < k → spec_CountTeams.f k l = some ((n : Int), (a : Int), q) ∧ impl_CountTeams.f k l = some ((n : Int), (a : Int), q)) ∧ a ≤ n ∧ (q = true → (n = 0 ↔ r.length = 0)) := by
 have hM' : ∀ x ∈ l, x.f1.size < 1048577 ∧ x.f1.size ≤ 140737488351232 := fun x hx => by have := hM x hx; omega
 have hM2 : ∀ x ∈ l, x.f1.size ≤ 1048576 := fun x hx => by have := hM x hx; omega
 have hsq : l.length * (l.length + 3) ≤ 11 * 14 := Nat.mul_le_mul hl (by omega)
 cases hg : goodP l with
 | true =>
  have h10 := good_len l hg
  have hn := good_ids l hg
  have hp2 := pow_le h10
  have hpos : 0 < 2 ^ l.length := Nat.two_pow_pos _
  have hfull : Sp.subAt l (2 ^ l.length - 1) = l := Sp.subAt_full l
  obtain ⟨c, hc⟩ : ∃ c, min 3 (Sp.most bkP tpP l) = c := ⟨_, rfl⟩
  have hcm : c ≤ Sp.most bkP tpP l := by omega
  have heq := TP_split_eq l hn c (2 ^ l.length - 1) (by rw [hfull]; exact hcm)
  rw [hfull] at heq
  obtain ⟨z1, z2⟩ := implSplit_len c l h10
  obtain ⟨p1, p2⟩ := split_props c l hn
  refine ⟨(Sp.implSplit TP c l).map idsL, true, fun k hk => ⟨?_, ?_⟩, by rw [List.length_map]; omega, fun x hx => ?_, fun x hx k hk => ?_, p2, (teamsOf l).length, (teamsOf l).countP ableB, true, fun k hk => count_good l hM' hg k (by omega), List.countP_le_length, fun _ => ?_⟩
  ·unfold spec_SplitTeams.f
   rw [specGood_eq l (by omega) 1048577 hM' (by omega)]
   have c0 : 0 ≤ (l.length : Int) := by omega
   have ew : wrap64 (((2 ^ l.length : Nat) : Int) - 1) = ((2 ^ l.length - 1 : Nat) : Int) := (w64 (by omega) (by omega)).trans (by omega)
   simp only [Option.bind_some, hg, if_true, u64_at l.length (by omega), if_pos c0, pow_at l.length h10, ew]
   rw [most_set l h10 (good_skills l hg) (2 ^ l.length - 1) (by omega) (by omega), hfull, hc]
   simp only [Option.bind_some]
   rw [specOut l hg 5000 200 (Nat.le_refl _) (Nat.le_refl _) c (2 ^ l.length - 1) (by omega) (by omega) k [] (by omega) (by simp; omega), List.nil_append, heq]
  ·unfold impl_SplitTeams.f
   rw [implGood_eq l (by omega) (by omega)]
   simp only [Option.bind_some, hg, if_true]
   have := implCount l h10 hn 3 (by omega) (by omega) k (by omega)
   rw [hc] at this
   exact this
  ·obtain ⟨M, h1, rfl⟩ := List.mem_map.mp hx
   have := z2 M h1
   unfold idsL
   rwa [List.length_map]
  ·obtain ⟨M, h1, rfl⟩ := List.mem_map.mp hx
   exact isTeam_true l M hg (p1 M h1).1 (p1 M h1).2 hk
  ·rw [List.length_map, split_none c l hn hcm, teams_none l hn]
   omega
 | false =>
  refine ⟨[], false, fun k hk => ⟨?_, ?_⟩, by simp, by simp, by simp, by simp, 0, 0, false, fun k hk => ⟨?_, ?_⟩, Nat.le_refl _, fun h => by cases h⟩
  ·unfold spec_SplitTeams.f
   rw [specGood_eq l (by omega) 1048577 hM' (by omega)]
   simp only [Option.bind_some, hg]
   rfl
  ·unfold impl_SplitTeams.f
   rw [implGood_eq l (by omega) (by omega)]
   simp only [Option.bind_some, hg]
   rfl
  ·unfold spec_CountTeams.f
   rw [specGood_eq l (by omega) 1048577 hM' (by omega), hg]
   rfl
  ·unfold impl_CountTeams.f
   rw [implGood_eq l (by omega) (by omega), hg]
   rfl
theorem rHas_loop (s : List Int) (v : Int) (hl : s.length ≤ 1000) (hv : v ∉ s) (d : Nat) : ∀ (k i : Nat), i + d = s.length → d < k → laws_rHas.l0 k s v (i : Int) = some false := by
 induction d with
 | zero =>
  intro k i hd hk
  obtain ⟨k, rfl⟩ : ∃ m, k = m + 1 := ⟨k - 1, by omega⟩
  have c1 : ¬ (i : Int) < (s.length : Int) := by omega
  simp only [laws_rHas.l0, if_neg c1]
 | succ d ih =>
  intro k i hd hk
  obtain ⟨k, rfl⟩ : ∃ m, k = m + 1 := ⟨k - 1, by omega⟩
  have hil : i < s.length := by omega
  have c1 : (i : Int) < (s.length : Int) := by omega
  have c2 : 0 ≤ (i : Int) := by omega
  have ew : wrap64 ((i : Int) + 1) = ((i + 1 : Nat) : Int) := (w64 (by omega) (by omega)).trans (by omega)
  have er : rd s (i : Int) = s[i] := by simp [rd, hil]
  have hne : ¬ s[i] = v := fun e => hv (e ▸ List.getElem_mem hil)
  simp only [laws_rHas.l0, if_pos c1, if_pos c2, er, if_neg hne, ew]
  exact ih k (i + 1) (by omega) (by omega)
theorem rTable_loop : ∀ (rest pre : List (List Int)) (k : Nat), (∀ x ∈ rest, x.length ≤ 10) → pre.length + rest.length ≤ 10 → rest.length + 20 < k → laws_rTable.l0 k (pre ++ rest) (pre ++ rest) (pre.length : Int) = some true
 | [], pre, k, _, _, hk => by
  obtain ⟨k, rfl⟩ : ∃ m, k = m + 1 := ⟨k - 1, by omega⟩
  simp [laws_rTable.l0]
 | r :: rs, pre, k, hx, hp, hk => by
  obtain ⟨k, rfl⟩ : ∃ m, k = m + 1 := ⟨k - 1, by omega⟩
  have hr := hx r (List.mem_cons_self ..)
  simp only [List.length_cons] at hp hk
  have c1 : (pre.length : Int) < ((pre ++ r :: rs).length : Int) := by simp; omega
  have c2 : 0 ≤ (pre.length : Int) := by omega
  have ew : wrap64 ((pre.length : Int) + 1) = (((pre ++ [r]).length : Nat) : Int) := (w64 (by omega) (by omega)).trans (by simp)
  have ih := rTable_loop rs (pre ++ [r]) k (fun x h => hx x (List.mem_cons_of_mem _ h)) (by simp; omega) (by omega)
  have er : rd_L5 (pre ++ r :: rs) (pre.length : Int) = r := by unfold rd_L5; rw [Int.toNat_natCast]; simp
  simp only [laws_rTable.l0, if_pos c1, if_pos c2, er, rInts_eq r (by omega) (show r.length < k by omega), Option.bind_some, if_true, ew]
  rw [show pre ++ r :: rs = (pre ++ [r]) ++ rs by simp, ih]
theorem rTable_eq (r : List (List Int)) (hr : r.length ≤ 3) (hx : ∀ x ∈ r, x.length ≤ 10) {k : Nat} (hk : 100 < k) : laws_rTable.f k r r = some true := by
 have := rTable_loop r [] k hx (by simp; omega) (by omega)
 unfold laws_rTable.f
 rw [if_pos rfl]
 simpa using this
theorem l1_loop (X : List Int) (L : List S41) (r : List (List Int)) (i : Nat) (hi : i < r.length) (x : List Int) (hx : rd_L5 r (i : Int) = x) (hxl : x.length ≤ 10) (d : Nat) : ∀ (k j : Nat) (s : List Int), j + d = x.length → (s ++ x.drop j).Nodup → s.length + d ≤ 100 → 200 ≤ k →
  laws_FnTeamCounts.l1 (k + d + 1) X L r s (i : Int) (j : Int) = laws_FnTeamCounts.l0 k X L r (s ++ x.drop j) (wrap64 ((i : Int) + 1)) := by
 have c0 : 0 ≤ (i : Int) := by omega
 have c1 : (i : Int) < (r.length : Int) := by omega
 induction d with
 | zero =>
  intro k j s hj _ _ _
  have c2 : ¬ (j : Int) < (x.length : Int) := by omega
  simp only [Nat.add_zero, laws_FnTeamCounts.l1, if_pos c0, if_pos c1, hx, if_neg c2]
  rw [List.drop_of_length_le (by omega), List.append_nil]
 | succ d ih =>
  intro k j s hj hn hs hk
  have hjl : j < x.length := by omega
  have c2 : (j : Int) < (x.length : Int) := by omega
  have c3 : 0 ≤ (j : Int) := by omega
  have c4 : s.length < 17592186044416 := by omega
  have ew : wrap64 ((j : Int) + 1) = ((j + 1 : Nat) : Int) := (w64 (by omega) (by omega)).trans (by omega)
  have er : rd x (j : Int) = x[j] := by simp [rd, hjl]
  rw [List.drop_eq_getElem_cons hjl] at hn ⊢
  have hv : x[j] ∉ s := fun h => (List.nodup_append.mp hn).2.2 _ h _ (List.mem_cons_self ..) rfl
  have hh : laws_rHas.f (k + d + 1) s x[j] = some false := rHas_loop s x[j] (by omega) hv s.length (k + d + 1) 0 (by omega) (by omega)
  have ih := ih k (j + 1) (s ++ [x[j]]) (by omega) (by simpa using hn) (by simp; omega) hk
  rw [show k + (d + 1) + 1 = (k + d + 1) + 1 by omega]
  generalize k + d + 1 = m at ih hh ⊢
  simp only [laws_FnTeamCounts.l1, if_pos c0, if_pos c1, hx, if_pos c2, if_pos c3, er, hh, Option.bind_some, Bool.false_eq_true, if_false, if_pos c4, ew]
  rw [ih, List.append_assoc, List.singleton_append]
theorem l0_loop (X : List Int) (L : List S41) (r : List (List Int)) (hr : r.length ≤ 3) (hxl : ∀ x ∈ r, x.length ≤ 10) (B : Nat) (hT : ∀ x ∈ r, ∀ k, B ≤ k → impl_IsTeam.f k L x = some (true, true))
  (hF : ∀ k s, B ≤ k → laws_FnTeamCounts.l0 (k + 1) X L r s (r.length : Int) = some true) (d : Nat) : ∀ (k i : Nat) (s : List Int), i + d = r.length → (s ++ (r.drop i).flatten).Nodup → s.length + 10 * d ≤ 60 → B + 300 + 100 * d ≤ k → laws_FnTeamCounts.l0 k X L r s (i : Int) = some true := by
 induction d with
 | zero =>
  intro k i s hi _ _ hk
  obtain ⟨k, rfl⟩ : ∃ m, k = m + 1 := ⟨k - 1, by omega⟩
  have : i = r.length := by omega
  subst this
  exact hF k s (by omega)
 | succ d ih =>
  intro k i s hi hn hs hk
  have hil : i < r.length := by omega
  have hxr := List.getElem_mem hil
  have hx10 := hxl r[i] hxr
  obtain ⟨k, rfl⟩ : ∃ m, k = (m + r[i].length + 1) + 1 + 1 := ⟨k - r[i].length - 3, by omega⟩
  have c1 : (i : Int) < (r.length : Int) := by omega
  have c2 : 0 ≤ (i : Int) := by omega
  have ew : wrap64 ((i : Int) + 1) = ((i + 1 : Nat) : Int) := (w64 (by omega) (by omega)).trans (by omega)
  have er : rd_L5 r (i : Int) = r[i] := by simp [rd_L5, hil]
  rw [List.drop_eq_getElem_cons hil, List.flatten_cons, ← List.append_assoc] at hn
  have hl1 := l1_loop X L r i hil r[i] er hx10 r[i].length k 0 s (by omega) (by rw [List.drop_zero]; exact (List.nodup_append.mp hn).1) (by omega) (by omega)
  have hl1' : laws_FnTeamCounts.l1 (k + r[i].length + 1) X L r s (i : Int) 0 = _ := hl1
  simp only [laws_FnTeamCounts.l0, if_pos c1, if_pos c2, er, hT r[i] hxr _ (show B ≤ k + r[i].length + 1 + 1 by omega), Option.bind_some, if_true, Bool.not_true, laws_FnTeamCounts.j2, Bool.false_eq_true, if_false]
  rw [hl1', List.drop_zero, ew]
  exact ih k (i + 1) (s ++ r[i]) (by omega) hn (by rw [List.length_append]; omega) (by omega)
theorem j5_ok {l : List Int} (hw : ∀ y ∈ l, (Lit.int .u8 y).wf = true) (K : Nat) (hK : 4199000 ≤ K) (k : Nat) (hk : K ≤ k) : laws_FnTeamCounts.j5 (k + 1) l false = some true := by
 obtain ⟨L, p1, q1, e1, a1, a2, a3, a4⟩ := people_ok hw 0 0 (by omega) (by omega) (k := k) (by omega)
 obtain ⟨t, p2, q2, e2, b1, b2, b3⟩ := team_ok hw L a1 L.length k 0 [] p1 q1 a3 (by omega) (by omega) (by simp) (by omega)
 have e2' : spec_l1Cur_team.f k l p1 q1 L = some (t, p2, q2) := e2
 have hd : spec_DrawSkillsOf.f k l = some (L, t) := by
  unfold spec_DrawSkillsOf.f spec_DrawIsTeam.f spec_DrawIsTeam_in.f
  simp only [e1, Option.bind_some, e2']
 obtain ⟨r, hr⟩ := skillsOf_eq L t (by omega) (by omega) (fun x hx => by have := a2 x hx; omega)
 have hsq : L.length * (L.length + 3) ≤ 11 * 14 := Nat.mul_le_mul a1 (by omega)
 have hsq2 : t.length * (t.length + 2) ≤ 12 * 14 := Nat.mul_le_mul b1 (by omega)
 obtain ⟨h1, h2⟩ := hr k (by omega)
 simp only [laws_FnTeamCounts.j5, Bool.false_eq_true, if_false, hd, Option.bind_some, h1, h2, if_true, beq_self_eq_true]
theorem j4_ok {l : List Int} (hw : ∀ y ∈ l, (Lit.int .u8 y).wf = true) (K : Nat) (hK : 4199000 ≤ K) (k : Nat) (hk : K ≤ k) : laws_FnTeamCounts.j4 (k + 1 + 1) l false = some true := by
 obtain ⟨L, p1, q1, e1, a1, a2, a3, a4⟩ := people_ok hw 0 0 (by omega) (by omega) (k := k + 1) (by omega)
 obtain ⟨v, p2, q2, e2, b2, b3⟩ := skills_ok hw p1 q1 a3 (by omega)
 have hd : spec_DrawWithSkills.f (k + 1) l = some (L, v) := by
  unfold spec_DrawWithSkills.f spec_DrawWithSkills_in.f
  simp only [e1, Option.bind_some, e2]
 obtain ⟨r, b, hr, hrl⟩ := with_eq L v (by omega) (fun x hx => by have := a2 x hx; omega)
 have hsq : L.length * (L.length + 3) ≤ 11 * 14 := Nat.mul_le_mul a1 (by omega)
 obtain ⟨h1, h2⟩ := hr (k + 1) (by omega)
 simp only [laws_FnTeamCounts.j4, Bool.false_eq_true, if_false, hd, Option.bind_some, h1, h2, bne_self_eq_false, rInts_eq r (by omega) (show r.length < k + 1 by omega), Bool.not_true]
 exact j5_ok hw K hK k hk
theorem FnTeamCounts : Asked := by
 intro l hl hw
 obtain ⟨K, hK⟩ : ∃ K, K = 4200000 := ⟨_, rfl⟩
 refine ⟨K + 1000 + 1, ?_⟩
 unfold laws_FnTeamCounts.f laws_rBig.f
 simp only [Option.bind_some]
 by_cases c : (l.length : Int) > 65536
 ·simp [c]
 ·obtain ⟨L, p1, q1, e1, a1, a2, a3, a4⟩ := people_ok hw 0 0 (by omega) (by omega) (k := K + 1000 + 1) (by omega)
  have hd : spec_DrawSplitTeams.f (K + 1000 + 1) l = some L := by
   unfold spec_DrawSplitTeams.f spec_DrawArePeople.f spec_DrawArePeople_in.f
   simp only [e1, Option.bind_some]
  obtain ⟨r, b, hsp, hr3, hr10, hteam, hnd, n, a, q, hct, han, hq⟩ := split_law L a1 a2
  obtain ⟨s1, s2⟩ := hsp (K + 1000 + 1) (by omega)
  have hdec : ¬ (r.length : Int) > 3 := by omega
  simp only [decide_eq_true_eq, if_neg c, hd, Option.bind_some, s1, s2, bne_self_eq_false, Bool.false_eq_true, if_false, rTable_eq r hr3 hr10 (show 100 < K + 1000 + 1 by omega), if_true, if_neg hdec, laws_FnTeamCounts.j0]
  refine l0_loop l L r hr3 hr10 K (fun x hx k hk => hteam x hx k (by omega)) (fun k s hk => ?_) r.length (K + 1000) 0 [] (by omega) (by simpa using hnd) (by simp; omega) (by omega)
  have c1 : ¬ (r.length : Int) < (r.length : Int) := by omega
  obtain ⟨k, rfl⟩ : ∃ m, k = m + 1 + 1 := ⟨k - 2, by omega⟩
  obtain ⟨t1, t2⟩ := hct (k + 1 + 1) (by omega)
  have d1 : ¬ (a : Int) > (n : Int) := by omega
  simp only [laws_FnTeamCounts.l0, if_neg c1, t1, t2, Option.bind_some, if_true, bne_self_eq_false, Bool.false_eq_true, if_false, if_neg d1]
  cases q with
  | false =>
   rw [if_neg (by simp)]
   exact j4_ok hw (K - 2) (by omega) k (by omega)
  | true =>
   have hq := hq rfl
   have he : ((n : Int) == 0) = ((r.length : Int) == 0) := by
    rw [Bool.eq_iff_iff, beq_iff_eq, beq_iff_eq]
    omega
   rw [if_pos rfl, he, bne_self_eq_false]
   exact j4_ok hw (K - 2) (by omega) k (by omega)
end Go.Proofs.YtafdklajmklmkaaGreatDoor.Pure
