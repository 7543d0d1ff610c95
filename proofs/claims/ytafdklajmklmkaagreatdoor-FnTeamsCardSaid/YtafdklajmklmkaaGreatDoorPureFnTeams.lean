/- The pure statement of the law FnTeams: true for every string of bytes; no condition but the slice's reach. -/
import Derived.Test.YtafdklajmklmkaaGreatDoorAskFnTeams
namespace Go.Proofs.YtafdklajmklmkaaGreatDoor.Pure
open Go.RowKit Go.Proofs.YtafdklajmklmkaaGreatDoor.XFnTeams Go.Proofs.YtafdklajmklmkaaGreatDoor.AskFnTeams Go.Proofs.YtafdklajmklmkaaGreatDoorW.PrintWords Go.Proofs.YtafdklajmklmkaaGreatDoorW.PrintLast
set_option linter.unusedVariables false
set_option linter.unusedSimpArgs false

theorem w64 {x : Int} (h0 : -9223372036854775808 ≤ x) (h1 : x ≤ 9223372036854775807) : wrap64 x = x := by
 unfold wrap64
 omega
def sp (c : UInt8) (cur : List UInt8) : List UInt8 → List (List UInt8)
 | [] => [cur]
 | b :: l => if b = c then cur :: sp c [] l else sp c (cur ++ [b]) l
def mkB (l : List UInt8) : ByteArray := ⟨l.toArray⟩
theorem size_data (s : ByteArray) : s.data.toList.length = s.size := Array.length_toList
theorem bt_list (s : ByteArray) (i : Nat) (h : i < s.size) : bt s (i : Int) = ((s.data.toList[i]'(by rw [size_data]; exact h)).toNat : Int) := by
 unfold bt
 rw [dif_pos (show (i : Int).toNat < s.size by omega)]
 rfl
theorem l1In_eq (a b c : Int) : spec_l1In.f a b c = some (decide (b ≤ a ∧ a ≤ c)) := by
 unfold spec_l1In.f
 by_cases h : a ≥ b
 ·rw [if_pos h]
  have h' : b ≤ a := h
  simp [h']
 ·rw [if_neg h]
  have h' : ¬ b ≤ a := h
  simp [h']
theorem letters_has : ∀ b : Fin 256, ([97, 98, 99, 100, 101, 102, 103, 104, 105, 106, 107, 108, 109, 110, 111, 112, 113, 114, 115, 116, 117, 118, 119, 120, 121, 122] : List UInt8).contains (UInt8.ofNat b.val) = decide (97 ≤ b.val ∧ b.val ≤ 122) := by decide +kernel
theorem letters_at (b : UInt8) : ([97, 98, 99, 100, 101, 102, 103, 104, 105, 106, 107, 108, 109, 110, 111, 112, 113, 114, 115, 116, 117, 118, 119, 120, 121, 122] : List UInt8).contains b = decide (97 ≤ b.toNat ∧ b.toNat ≤ 122) := by
 have h := letters_has ⟨b.toNat, b.toNat_lt⟩
 simp only [UInt8.ofNat_toNat] at h
 exact h
theorem dropWhile_nil {α : Type} (p : α → Bool) : ∀ l : List α, l.dropWhile p = [] ↔ ∀ x ∈ l, p x = true
 | [] => by simp
 | x :: l => by
  rw [List.dropWhile_cons]
  cases h : p x with
  | true => simp only [if_true, dropWhile_nil p l, List.mem_cons, forall_eq_or_imp, h, true_and]
  | false => simp [h]
theorem takeWhile_all {α : Type} (p : α → Bool) : ∀ (l : List α) (x : α), x ∈ l.takeWhile p → p x = true
 | [], x, h => by simp at h
 | y :: l, x, h => by
  rw [List.takeWhile_cons] at h
  cases hy : p y with
  | false => rw [hy] at h; simp at h
  | true =>
   rw [hy] at h
   simp only [if_true, List.mem_cons] at h
   rcases h with rfl | h
   ·exact hy
   ·exact takeWhile_all p l x h
theorem trimS_nil (l cs : List UInt8) : Lib.trimS l cs = [] ↔ ∀ x ∈ l, cs.contains x = true := by
 unfold Lib.trimS Lib.trimLeftS Lib.trimRightS
 rw [dropWhile_nil]
 constructor
 ·intro h x hx
  have hs : l.reverse = l.reverse.takeWhile (cs.contains ·) ++ l.reverse.dropWhile (cs.contains ·) := (List.takeWhile_append_dropWhile).symm
  have hx' : x ∈ l.reverse := List.mem_reverse.mpr hx
  rw [hs] at hx'
  rcases List.mem_append.mp hx' with h1 | h1
  ·exact takeWhile_all _ _ _ h1
  ·exact h x (List.mem_reverse.mpr h1)
 ·intro h x hx
  have hx' := List.mem_reverse.mp hx
  exact h x (List.mem_reverse.mp (List.dropWhile_sublist _ |>.mem hx'))
def vWord (s : ByteArray) : Bool := decide ((1 ≤ s.size ∧ s.size ≤ 10) ∧ ∀ b ∈ s.data.toList, 97 ≤ b.toNat ∧ b.toNat ≤ 122)
theorem isWord_eq (s : ByteArray) : impl_isWord.f s = some (vWord s) := by
 unfold impl_isWord.f vWord
 by_cases c1 : (s.size : Int) ≥ 1
 ·by_cases c2 : (s.size : Int) ≤ 10
  ·rw [if_pos c1, if_pos c2]
   have ht : strings_Trim.f s (⟨#[97, 98, 99, 100, 101, 102, 103, 104, 105, 106, 107, 108, 109, 110, 111, 112, 113, 114, 115, 116, 117, 118, 119, 120, 121, 122]⟩ : ByteArray) = some (⟨(Lib.trimS s.data.toList [97, 98, 99, 100, 101, 102, 103, 104, 105, 106, 107, 108, 109, 110, 111, 112, 113, 114, 115, 116, 117, 118, 119, 120, 121, 122]).toArray⟩ : ByteArray) := by
    unfold strings_Trim.f
    rw [if_pos ⟨by omega, by decide, by decide⟩]
   rw [ht]
   simp only [Option.bind_some]
   refine congrArg some ?_
   rw [Lib.toList_data]
   have e : (Lib.trimS s.data.toList [97, 98, 99, 100, 101, 102, 103, 104, 105, 106, 107, 108, 109, 110, 111, 112, 113, 114, 115, 116, 117, 118, 119, 120, 121, 122] = []) = ((1 ≤ s.size ∧ s.size ≤ 10) ∧ ∀ b ∈ s.data.toList, 97 ≤ b.toNat ∧ b.toNat ≤ 122) := by
    apply propext
    rw [trimS_nil]
    constructor
    ·intro h
     refine ⟨by omega, fun b hb => ?_⟩
     have := h b hb
     rw [letters_at] at this
     exact of_decide_eq_true this
    ·intro h b hb
     rw [letters_at]
     exact decide_eq_true (h.2 b hb)
   rw [Bool.eq_iff_iff]
   simp only [beq_iff_eq, decide_eq_true_eq]
   rw [← e]
  ·rw [if_pos c1, if_neg c2]
   exact congrArg some (decide_eq_false (fun h => c2 (by omega))).symm
 ·rw [if_neg c1]
  exact congrArg some (decide_eq_false (fun h => c1 (by omega))).symm
theorem word_loop (s : ByteArray) (hs : s.size ≤ 140737488351232) (d : Nat) : ∀ (k i : Nat), i + d = s.size → d < k →
  spec_l2Word.l0 k s (i : Int) = some (decide ((1 ≤ s.size ∧ s.size ≤ 10) ∧ ∀ b ∈ s.data.toList.drop i, 97 ≤ b.toNat ∧ b.toNat ≤ 122)) := by
 induction d with
 | zero =>
  intro k i hi hk
  obtain ⟨k, rfl⟩ : ∃ m, k = m + 1 := ⟨k - 1, by omega⟩
  have c1 : ¬ (i : Int) < (s.size : Int) := by omega
  have hd : s.data.toList.drop i = [] := List.drop_of_length_le (by rw [size_data]; omega)
  simp only [spec_l2Word.l0, if_neg c1, l1In_eq, Option.bind_some, hd]
  refine congrArg some (decide_eq_decide.mpr ?_)
  simp only [List.not_mem_nil, false_implies, implies_true, and_true]
  omega
 | succ d ih =>
  intro k i hi hk
  obtain ⟨k, rfl⟩ : ∃ m, k = m + 1 := ⟨k - 1, by omega⟩
  have hlt : i < s.data.toList.length := by rw [size_data]; omega
  have c1 : (i : Int) < (s.size : Int) := by omega
  have c2 : 0 ≤ (i : Int) := by omega
  have hd := List.drop_eq_getElem_cons hlt
  have eb := bt_list s i (by omega)
  have ew : wrap64 ((i : Int) + 1) = ((i + 1 : Nat) : Int) := (w64 (by omega) (by omega)).trans (by omega)
  simp only [spec_l2Word.l0, if_pos c1, if_pos c2, eb, ew]
  rw [hd]
  generalize s.data.toList[i] = b
  by_cases h1 : (b.toNat : Int) < 97
  ·rw [if_pos h1]
   refine congrArg some (decide_eq_false (fun h => ?_)).symm
   have := h.2 b List.mem_cons_self
   omega
  ·by_cases h2 : (b.toNat : Int) > 122
   ·rw [if_neg h1, if_pos h2]
    refine congrArg some (decide_eq_false (fun h => ?_)).symm
    have := h.2 b List.mem_cons_self
    omega
   ·rw [if_neg h1, if_neg h2, ih k (i + 1) (by omega) (by omega)]
    refine congrArg some (decide_eq_decide.mpr ?_)
    simp only [List.mem_cons, forall_eq_or_imp]
    exact ⟨fun h => ⟨h.1, by omega, h.2⟩, fun h => ⟨h.1, h.2.2⟩⟩
theorem l2Word_eq (s : ByteArray) (hs : s.size ≤ 140737488351232) {k : Nat} (hk : s.size < k) : spec_l2Word.f k s = some (vWord s) := by
 unfold spec_l2Word.f vWord
 have h := word_loop s hs s.size k 0 (by omega) hk
 simpa using h
theorem within_eq (a b c : Int) : impl_within.f a b c = some (decide (b ≤ a ∧ a ≤ c)) := by
 unfold impl_within.f
 by_cases h : a ≥ b
 ·rw [if_pos h]
  have h' : b ≤ a := h
  simp [h']
 ·rw [if_neg h]
  have h' : ¬ b ≤ a := h
  simp [h']
def okAt (l : List S41) (i : Nat) : Prop := (1 ≤ (rd_T41 l (i : Int)).f0 ∧ (rd_T41 l (i : Int)).f0 ≤ 99) ∧ vWord (rd_T41 l (i : Int)).f1 = true ∧ (0 ≤ (rd_T41 l (i : Int)).f2 ∧ (rd_T41 l (i : Int)).f2 ≤ 15) ∧ (0 ≤ (rd_T41 l (i : Int)).f3 ∧ (rd_T41 l (i : Int)).f3 ≤ 500) ∧ (0 < i → (rd_T41 l ((i - 1 : Nat) : Int)).f0 < (rd_T41 l (i : Int)).f0) ∧ ∀ j, j < i → ¬ (rd_T41 l (j : Int)).f1.toList = (rd_T41 l (i : Int)).f1.toList
def goodFrom (l : List S41) (i : Nat) : Prop := (∀ m, i ≤ m → m < l.length → okAt l m) ∧ l.length ≤ 10
noncomputable def goodB (l : List S41) (i : Nat) : Bool := @decide (goodFrom l i) (Classical.propDecidable _)
theorem goodB_true (l : List S41) (i : Nat) : goodB l i = true ↔ goodFrom l i := by unfold goodB; simp
theorem goodB_step {l : List S41} {i : Nat} (h : okAt l i) : goodB l i = goodB l (i + 1) := by
 rw [Bool.eq_iff_iff, goodB_true, goodB_true]
 refine ⟨fun g => ⟨fun m h1 h2 => g.1 m (by omega) h2, g.2⟩, fun g => ⟨fun m h1 h2 => ?_, g.2⟩⟩
 rcases Nat.eq_or_lt_of_le h1 with rfl | hlt
 ·exact h
 ·exact g.1 m hlt h2
theorem goodB_not {l : List S41} {i : Nat} (hi : i < l.length) (h : ¬ okAt l i) : goodB l i = false := by
 rw [← Bool.not_eq_true, goodB_true]
 exact fun g => h (g.1 i (Nat.le_refl _) hi)
def sameP (l : List S41) (i j : Nat) : Prop := ∃ m, j ≤ m ∧ m < i ∧ (rd_T41 l (m : Int)).f1.toList = (rd_T41 l (i : Int)).f1.toList
noncomputable def sameB (l : List S41) (i j : Nat) : Bool := @decide (sameP l i j) (Classical.propDecidable _)
theorem sameB_true (l : List S41) (i j : Nat) : sameB l i j = true ↔ sameP l i j := by unfold sameB; simp
theorem sameB_end (l : List S41) (i j : Nat) (h : i ≤ j) : sameB l i j = false := by
 rw [← Bool.not_eq_true, sameB_true]
 rintro ⟨m, h1, h2, _⟩
 omega
theorem sameB_hit (l : List S41) (i j : Nat) (hj : j < i) (h : (rd_T41 l (j : Int)).f1.toList = (rd_T41 l (i : Int)).f1.toList) : sameB l i j = true := (sameB_true l i j).mpr ⟨j, Nat.le_refl _, hj, h⟩
theorem sameB_step (l : List S41) (i j : Nat) (h : ¬ (rd_T41 l (j : Int)).f1.toList = (rd_T41 l (i : Int)).f1.toList) : sameB l i (j + 1) = sameB l i j := by
 rw [Bool.eq_iff_iff, sameB_true, sameB_true]
 constructor
 ·rintro ⟨m, h1, h2, h3⟩
  exact ⟨m, by omega, h2, h3⟩
 ·rintro ⟨m, h1, h2, h3⟩
  rcases Nat.eq_or_lt_of_le h1 with rfl | q
  ·exact absurd h3 h
  ·exact ⟨m, q, h2, h3⟩
theorem specNames (l : List S41) (i : Nat) (hi : i < l.length) (hl : l.length ≤ 140737488351232) (a : Int) (c d : Int) (e : Nat) : ∀ (k j : Nat), j + e = i → e < k →
  spec_l5Good.l1 k l (i : Int) (j : Int) a (rd_T41 l (i : Int)).f1 c d = if sameB l i j = true then some false else spec_l5Good.l0 (k - e - 1) l ((i + 1 : Nat) : Int) := by
 induction e with
 | zero =>
  intro k j hj hk
  obtain ⟨k, rfl⟩ : ∃ m, k = m + 1 := ⟨k - 1, by omega⟩
  have c1 : ¬ (j : Int) < (i : Int) := by omega
  have ew : wrap64 ((i : Int) + 1) = ((i + 1 : Nat) : Int) := (w64 (by omega) (by omega)).trans (by omega)
  simp only [spec_l5Good.l1, if_neg c1, ew]
  rw [sameB_end l i j (by omega), if_neg (by simp)]
  rfl
 | succ e ih =>
  intro k j hj hk
  obtain ⟨k, rfl⟩ : ∃ m, k = m + 1 := ⟨k - 1, by omega⟩
  have c1 : (j : Int) < (i : Int) := by omega
  have c2 : 0 ≤ (j : Int) := by omega
  have c3 : (j : Int) < (l.length : Int) := by omega
  have ew : wrap64 ((j : Int) + 1) = ((j + 1 : Nat) : Int) := (w64 (by omega) (by omega)).trans (by omega)
  simp only [spec_l5Good.l1, if_pos c1, if_pos c2, if_pos c3, ew]
  by_cases h : (rd_T41 l (j : Int)).f1.toList = (rd_T41 l (i : Int)).f1.toList
  ·rw [if_pos h, sameB_hit l i j (by omega) h, if_pos rfl]
  ·have e2 : k + 1 - (e + 1) - 1 = k - e - 1 := by omega
   rw [if_neg h, ih k (j + 1) (by omega) (by omega), e2, sameB_step l i j h]
theorem rd_take (l : List S41) (i j : Nat) (h : j < i) : rd_T41 (l.take i) (j : Int) = rd_T41 l (j : Int) := by
 unfold rd_T41
 rw [Int.toNat_natCast, List.getD_eq_getElem?_getD, List.getD_eq_getElem?_getD, List.getElem?_take, if_pos h]
theorem implNames (l : List S41) (i : Nat) (hi : i < l.length) (hl : l.length ≤ 140737488351232) (a : Int) (c d : Int) (e : Nat) : ∀ (k j : Nat), j + e = i → e < k →
  impl_ArePeople.l1 k l l (l.length : Int) (i : Int) (l.take i) ((l.take i).length : Int) (j : Int) a (rd_T41 l (i : Int)).f1 c d = if sameB l i j = true then some false else impl_ArePeople.l0 (k - e - 1) l l (l.length : Int) ((i + 1 : Nat) : Int) := by
 have ht : (l.take i).length = i := by rw [List.length_take]; omega
 induction e with
 | zero =>
  intro k j hj hk
  obtain ⟨k, rfl⟩ : ∃ m, k = m + 1 := ⟨k - 1, by omega⟩
  have c1 : ¬ (j : Int) < ((l.take i).length : Int) := by omega
  have ew : wrap64 ((i : Int) + 1) = ((i + 1 : Nat) : Int) := (w64 (by omega) (by omega)).trans (by omega)
  simp only [impl_ArePeople.l1, if_neg c1, ew]
  rw [sameB_end l i j (by omega), if_neg (by simp)]
  rfl
 | succ e ih =>
  intro k j hj hk
  obtain ⟨k, rfl⟩ : ∃ m, k = m + 1 := ⟨k - 1, by omega⟩
  have c1 : (j : Int) < ((l.take i).length : Int) := by omega
  have c2 : 0 ≤ (j : Int) := by omega
  have ew : wrap64 ((j : Int) + 1) = ((j + 1 : Nat) : Int) := (w64 (by omega) (by omega)).trans (by omega)
  simp only [impl_ArePeople.l1, if_pos c1, if_pos c2, ew, rd_take l i j (by omega)]
  by_cases h : (rd_T41 l (j : Int)).f1.toList = (rd_T41 l (i : Int)).f1.toList
  ·rw [if_pos h, sameB_hit l i j (by omega) h, if_pos rfl]
  ·have e2 : k + 1 - (e + 1) - 1 = k - e - 1 := by omega
   rw [if_neg h, ih k (j + 1) (by omega) (by omega), e2, sameB_step l i j h]
theorem skills_eq (x : Int) : spec_l5Skills.f x = some (decide (0 ≤ x ∧ x ≤ 15)) := by unfold spec_l5Skills.f; rw [l1In_eq]; rfl
theorem areSkills_eq (x : Int) : impl_areSkills.f x = some (decide (0 ≤ x ∧ x ≤ 15)) := by unfold impl_areSkills.f; rw [within_eq]; rfl
theorem isId_eq (x : Int) : impl_isId.f x = some (decide (1 ≤ x ∧ x ≤ 99)) := by unfold impl_isId.f; rw [within_eq]; rfl
theorem specGood_loop (l : List S41) (hl : l.length ≤ 140737488351232) (M : Nat) (hM : ∀ x ∈ l, x.f1.size < M ∧ x.f1.size ≤ 140737488351232) (d : Nat) : ∀ (k i : Nat), i + d = l.length → d * (l.length + 3) + M < k →
  spec_l5Good.l0 k l (i : Int) = some (goodB l i) := by
 induction d with
 | zero =>
  intro k i hd hk
  obtain ⟨k, rfl⟩ : ∃ m, k = m + 1 := ⟨k - 1, by omega⟩
  have c1 : ¬ (i : Int) < (l.length : Int) := by omega
  simp only [spec_l5Good.l0, if_neg c1]
  refine congrArg some ?_
  rw [Bool.eq_iff_iff, goodB_true, decide_eq_true_eq]
  exact ⟨fun h => ⟨fun m h1 h2 => by omega, by omega⟩, fun h => by have := h.2; omega⟩
 | succ d ih =>
  intro k i hd hk
  rw [Nat.succ_mul] at hk
  obtain ⟨k, rfl⟩ : ∃ m, k = m + 2 := ⟨k - 2, by omega⟩
  have hi : i < l.length := by omega
  have c1 : (i : Int) < (l.length : Int) := by omega
  have c2 : 0 ≤ (i : Int) := by omega
  have hmem : rd_T41 l (i : Int) ∈ l := by
   have : rd_T41 l (i : Int) = l[i] := by simp [rd_T41, hi]
   rw [this]
   exact List.getElem_mem hi
  have hw := hM _ hmem
  simp only [spec_l5Good.l0, if_pos c1, if_pos c2, l1In_eq, l2Word_eq _ hw.2 (show (rd_T41 l (i : Int)).f1.size < k + 1 by omega), skills_eq, Option.bind_some]
  have hbad : ∀ a c e, spec_l5Good.j1 (k + 1) l (i : Int) true a (rd_T41 l (i : Int)).f1 c e = some false := fun a c e => by simp [spec_l5Good.j1]
  by_cases h1 : 1 ≤ (rd_T41 l (i : Int)).f0 ∧ (rd_T41 l (i : Int)).f0 ≤ 99
  case neg =>
   rw [decide_eq_false h1, if_neg (by simp), hbad, goodB_not hi (fun z => h1 z.1)]
  rw [decide_eq_true h1, if_pos rfl]
  by_cases h2 : vWord (rd_T41 l (i : Int)).f1 = true
  case neg =>
   rw [if_neg h2, hbad, goodB_not hi (fun z => h2 z.2.1)]
  rw [if_pos h2]
  by_cases h3 : 0 ≤ (rd_T41 l (i : Int)).f2 ∧ (rd_T41 l (i : Int)).f2 ≤ 15
  case neg =>
   rw [decide_eq_false h3, if_neg (by simp), hbad, goodB_not hi (fun z => h3 z.2.2.1)]
  rw [decide_eq_true h3, if_pos rfl]
  by_cases h4 : 0 ≤ (rd_T41 l (i : Int)).f3 ∧ (rd_T41 l (i : Int)).f3 ≤ 500
  case neg =>
   rw [decide_eq_false h4, if_neg (by simp), hbad, goodB_not hi (fun z => h4 z.2.2.2.1)]
  rw [decide_eq_true h4, if_pos rfl]
  have last : ∀ a c e, (0 < i → (rd_T41 l ((i - 1 : Nat) : Int)).f0 < (rd_T41 l (i : Int)).f0) → spec_l5Good.j1 (k + 1) l (i : Int) false a (rd_T41 l (i : Int)).f1 c e = some (goodB l i) := by
   intro a c e h5
   simp only [spec_l5Good.j1, Bool.false_eq_true, if_false]
   have hn := specNames l i hi hl a c e i k 0 (by omega) (by omega)
   have hn' : spec_l5Good.l1 k l (i : Int) 0 a (rd_T41 l (i : Int)).f1 c e = _ := hn
   rw [hn']
   by_cases q : sameB l i 0 = true
   ·rw [if_pos q, goodB_not hi (fun z => by obtain ⟨m, _, h6, h7⟩ := (sameB_true l i 0).mp q; exact z.2.2.2.2.2 m h6 h7)]
   ·rw [if_neg q, ih (k - i - 1) (i + 1) (by omega) (by omega), goodB_step (i := i) ⟨h1, h2, h3, h4, h5, fun j hj z => q ((sameB_true l i 0).mpr ⟨j, Nat.zero_le _, hj, z⟩)⟩]
  by_cases h0 : (i : Int) > 0
  ·have ew' : wrap64 ((i : Int) - 1) = ((i - 1 : Nat) : Int) := (w64 (by omega) (by omega)).trans (by omega)
   have c3 : 0 ≤ ((i - 1 : Nat) : Int) := by omega
   have c4 : ((i - 1 : Nat) : Int) < (l.length : Int) := by omega
   rw [if_pos h0, ew', if_pos c3, if_pos c4]
   by_cases h5 : (rd_T41 l ((i - 1 : Nat) : Int)).f0 ≥ (rd_T41 l (i : Int)).f0
   ·rw [decide_eq_true h5, hbad, goodB_not hi (fun z => by have := z.2.2.2.2.1 (by omega); omega)]
   ·rw [decide_eq_false h5]
    exact last _ _ _ (fun _ => by omega)
  ·rw [if_neg h0]
   exact last _ _ _ (fun z => by omega)
theorem implGood_loop (l : List S41) (hl : l.length ≤ 140737488351232) (d : Nat) : ∀ (k i : Nat), i + d = l.length → d * (l.length + 3) < k →
  impl_ArePeople.l0 k l l (l.length : Int) (i : Int) = some (goodB l i) := by
 induction d with
 | zero =>
  intro k i hd hk
  obtain ⟨k, rfl⟩ : ∃ m, k = m + 1 := ⟨k - 1, by omega⟩
  have c1 : ¬ (i : Int) < (l.length : Int) := by omega
  simp only [impl_ArePeople.l0, if_neg c1]
  refine congrArg some ?_
  rw [Bool.eq_iff_iff, goodB_true, decide_eq_true_eq]
  exact ⟨fun h => ⟨fun m h1 h2 => by omega, by omega⟩, fun h => by have := h.2; omega⟩
 | succ d ih =>
  intro k i hd hk
  rw [Nat.succ_mul] at hk
  obtain ⟨k, rfl⟩ : ∃ m, k = m + 2 := ⟨k - 2, by omega⟩
  have hi : i < l.length := by omega
  have c1 : (i : Int) < (l.length : Int) := by omega
  have c2 : 0 ≤ (i : Int) := by omega
  simp only [impl_ArePeople.l0, if_pos c1, if_pos c2, within_eq, isId_eq, isWord_eq, areSkills_eq, Option.bind_some]
  have hbad : ∀ a c e, impl_ArePeople.j1 (k + 1) l (i : Int) l (l.length : Int) (i : Int) true a (rd_T41 l (i : Int)).f1 c e = some false := fun a c e => by simp [impl_ArePeople.j1]
  by_cases h1 : 1 ≤ (rd_T41 l (i : Int)).f0 ∧ (rd_T41 l (i : Int)).f0 ≤ 99
  case neg =>
   rw [decide_eq_false h1, if_neg (by simp), hbad, goodB_not hi (fun z => h1 z.1)]
  rw [decide_eq_true h1, if_pos rfl]
  by_cases h2 : vWord (rd_T41 l (i : Int)).f1 = true
  case neg =>
   rw [if_neg h2, hbad, goodB_not hi (fun z => h2 z.2.1)]
  rw [if_pos h2]
  by_cases h3 : 0 ≤ (rd_T41 l (i : Int)).f2 ∧ (rd_T41 l (i : Int)).f2 ≤ 15
  case neg =>
   rw [decide_eq_false h3, if_neg (by simp), hbad, goodB_not hi (fun z => h3 z.2.2.1)]
  rw [decide_eq_true h3, if_pos rfl]
  by_cases h4 : 0 ≤ (rd_T41 l (i : Int)).f3 ∧ (rd_T41 l (i : Int)).f3 ≤ 500
  case neg =>
   rw [decide_eq_false h4, if_neg (by simp), hbad, goodB_not hi (fun z => h4 z.2.2.2.1)]
  rw [decide_eq_true h4, if_pos rfl]
  have last : ∀ a c e, (0 < i → (rd_T41 l ((i - 1 : Nat) : Int)).f0 < (rd_T41 l (i : Int)).f0) → impl_ArePeople.j1 (k + 1) l (i : Int) l (l.length : Int) (i : Int) false a (rd_T41 l (i : Int)).f1 c e = some (goodB l i) := by
   intro a c e h5
   have c5 : (i : Int) ≤ (l.length : Int) := by omega
   simp only [impl_ArePeople.j1, Bool.false_eq_true, if_false, if_pos c2, if_pos c5, Option.bind_some, Int.toNat_natCast]
   have hn := implNames l i hi hl a c e i k 0 (by omega) (by omega)
   have hn' : impl_ArePeople.l1 k l l (l.length : Int) (i : Int) (l.take i) ((l.take i).length : Int) 0 a (rd_T41 l (i : Int)).f1 c e = _ := hn
   rw [hn']
   by_cases q : sameB l i 0 = true
   ·rw [if_pos q, goodB_not hi (fun z => by obtain ⟨m, _, h6, h7⟩ := (sameB_true l i 0).mp q; exact z.2.2.2.2.2 m h6 h7)]
   ·rw [if_neg q, ih (k - i - 1) (i + 1) (by omega) (by omega), goodB_step (i := i) ⟨h1, h2, h3, h4, h5, fun j hj z => q ((sameB_true l i 0).mpr ⟨j, Nat.zero_le _, hj, z⟩)⟩]
  by_cases h0 : (i : Int) > 0
  ·have ew' : wrap64 ((i : Int) - 1) = ((i - 1 : Nat) : Int) := (w64 (by omega) (by omega)).trans (by omega)
   have c3 : 0 ≤ ((i - 1 : Nat) : Int) := by omega
   have c4 : ((i - 1 : Nat) : Int) < (l.length : Int) := by omega
   rw [if_pos h0, ew', if_pos c3, if_pos c4]
   by_cases h5 : (rd_T41 l ((i - 1 : Nat) : Int)).f0 ≥ (rd_T41 l (i : Int)).f0
   ·rw [decide_eq_true h5, hbad, goodB_not hi (fun z => by have := z.2.2.2.2.1 (by omega); omega)]
   ·rw [decide_eq_false h5]
    exact last _ _ _ (fun _ => by omega)
  ·rw [if_neg h0]
   exact last _ _ _ (fun z => by omega)
noncomputable def goodP (l : List S41) : Bool := goodB l 0
theorem specGood_eq (l : List S41) (hl : l.length ≤ 1048576) (M : Nat) (hM : ∀ x ∈ l, x.f1.size < M ∧ x.f1.size ≤ 140737488351232) {k : Nat} (hk : l.length * (l.length + 3) + M < k) : spec_l5Good.f k l = some (goodP l) :=
 specGood_loop l (by omega) M hM l.length k 0 (by omega) hk
theorem implGood_eq (l : List S41) (hl : l.length ≤ 1048576) {k : Nat} (hk : l.length * (l.length + 3) < k) : impl_ArePeople.f k l = some (goodP l) :=
 implGood_loop l (by omega) l.length k 0 (by omega) hk
theorem ixFrom_le (id : Int) : ∀ (l : List S41) (i : Nat), ixFrom id l i < (i : Int) + l.length := by
 intro l
 induction l with
 | nil => intro i; simp only [ixFrom, List.length_nil]; omega
 | cons y r ih =>
  intro i
  simp only [ixFrom, List.length_cons]
  split
  ·omega
  ·have := ih (i + 1); omega
theorem ixFrom_f0 (id : Int) : ∀ (l : List S41) (i : Nat), 0 ≤ ixFrom id l i → (i : Int) ≤ ixFrom id l i ∧ (rd_T41 l (ixFrom id l i - i)).f0 = id := by
 intro l
 induction l with
 | nil => intro i h; simp only [ixFrom] at h; omega
 | cons y r ih =>
  intro i h
  simp only [ixFrom] at h ⊢
  split
  ·rename_i hy
   refine ⟨Int.le_refl _, ?_⟩
   rw [Int.sub_self]
   exact hy
  ·rename_i hy
   rw [if_neg hy] at h
   obtain ⟨h1, h2⟩ := ih (i + 1) h
   refine ⟨by omega, ?_⟩
   have e : (ixFrom id r (i + 1) - (i : Int)).toNat = (ixFrom id r (i + 1) - ((i + 1 : Nat) : Int)).toNat + 1 := by omega
   unfold rd_T41 at h2 ⊢
   rw [e, List.getD_cons_succ]
   exact h2
theorem find_loop (l : List S41) (id : Int) (hl : l.length ≤ 140737488351232) (d : Nat) : ∀ (k i : Nat), i + d = l.length → d < k → spec_l5Find.l0 k l id (i : Int) = some (ixFrom id (l.drop i) i) := by
 induction d with
 | zero =>
  intro k i hd hk
  obtain ⟨k, rfl⟩ : ∃ m, k = m + 1 := ⟨k - 1, by omega⟩
  have c1 : ¬ (i : Int) < (l.length : Int) := by omega
  simp only [spec_l5Find.l0, if_neg c1]
  rw [List.drop_of_length_le (by omega)]
  rfl
 | succ d ih =>
  intro k i hd hk
  obtain ⟨k, rfl⟩ : ∃ m, k = m + 1 := ⟨k - 1, by omega⟩
  have ew : wrap64 ((i : Int) + 1) = ((i + 1 : Nat) : Int) := (w64 (by omega) (by omega)).trans (by omega)
  have c1 : (i : Int) < (l.length : Int) := by omega
  have c2 : 0 ≤ (i : Int) := by omega
  simp only [spec_l5Find.l0, if_pos c1, if_pos c2, ew]
  rw [rd_T41_drop l i (by omega)]
  simp only [ixFrom]
  by_cases h : (rd_T41 l (i : Int)).f0 = id
  ·rw [if_pos h, if_pos h]
  ·rw [if_neg h, if_neg h]
   exact ih k (i + 1) (by omega) (by omega)
theorem find_eq (l : List S41) (id : Int) (hl : l.length ≤ 140737488351232) {k : Nat} (hk : l.length < k) : spec_l5Find.f k l id = some (ixFrom id l 0) := by
 have h := find_loop l id hl l.length k 0 (by omega) hk
 simpa [spec_l5Find.f] using h
theorem rising_loop (l : List Int) (hl : l.length ≤ 140737488351232) (d : Nat) : ∀ (i : Nat), i + d = l.length → ∃ b : Bool, (∀ k, d < k → spec_l1Rising.l0 k l 1 99 (i : Int) = some b ∧ impl_strictly.l0 k l 1 99 l (l.length : Int) (i : Int) = some b) ∧
   (b = true → ∀ j, i ≤ j → j < l.length → 0 < j → rd l ((j - 1 : Nat) : Int) < rd l (j : Int)) := by
 induction d with
 | zero =>
  intro i hd
  refine ⟨true, fun k hk => ?_, fun _ j h1 h2 => by omega⟩
  obtain ⟨k, rfl⟩ : ∃ m, k = m + 1 := ⟨k - 1, by omega⟩
  have c1 : ¬ (i : Int) < (l.length : Int) := by omega
  simp only [spec_l1Rising.l0, impl_strictly.l0, if_neg c1]
  exact ⟨trivial, trivial⟩
 | succ d ih =>
  intro i hd
  have ew : wrap64 ((i : Int) + 1) = ((i + 1 : Nat) : Int) := (w64 (by omega) (by omega)).trans (by omega)
  have c1 : (i : Int) < (l.length : Int) := by omega
  have c2 : 0 ≤ (i : Int) := by omega
  obtain ⟨b, hb, hb2⟩ := ih (i + 1) (by omega)
  by_cases h1 : 1 ≤ rd l (i : Int) ∧ rd l (i : Int) ≤ 99
  case neg =>
   refine ⟨false, fun k hk => ?_, fun z => by cases z⟩
   obtain ⟨k, rfl⟩ : ∃ m, k = m + 1 := ⟨k - 1, by omega⟩
   simp only [spec_l1Rising.l0, impl_strictly.l0, if_pos c1, if_pos c2, l1In_eq, within_eq, Option.bind_some, decide_eq_false h1, Bool.false_eq_true, if_false]
   exact ⟨trivial, trivial⟩
  by_cases h0 : (i : Int) > 0
  ·have ew' : wrap64 ((i : Int) - 1) = ((i - 1 : Nat) : Int) := (w64 (by omega) (by omega)).trans (by omega)
   have c3 : 0 ≤ ((i - 1 : Nat) : Int) := by omega
   have c4 : ((i - 1 : Nat) : Int) < (l.length : Int) := by omega
   by_cases h5 : rd l ((i - 1 : Nat) : Int) ≥ rd l (i : Int)
   ·refine ⟨false, fun k hk => ?_, fun z => by cases z⟩
    obtain ⟨k, rfl⟩ : ∃ m, k = m + 1 := ⟨k - 1, by omega⟩
    simp only [spec_l1Rising.l0, impl_strictly.l0, if_pos c1, if_pos c2, l1In_eq, within_eq, Option.bind_some, decide_eq_true h1, if_true, if_pos h0, ew', if_pos c3, if_pos c4, if_pos h5]
    exact ⟨trivial, trivial⟩
   ·refine ⟨b, fun k hk => ?_, fun z j q1 q2 q3 => ?_⟩
    ·obtain ⟨k, rfl⟩ : ∃ m, k = m + 1 := ⟨k - 1, by omega⟩
     simp only [spec_l1Rising.l0, impl_strictly.l0, if_pos c1, if_pos c2, l1In_eq, within_eq, Option.bind_some, decide_eq_true h1, if_true, if_pos h0, ew', if_pos c3, if_pos c4, if_neg h5, ew]
     exact hb k (by omega)
    ·rcases Nat.eq_or_lt_of_le q1 with rfl | q
     ·omega
     ·exact hb2 z j q q2 q3
  ·refine ⟨b, fun k hk => ?_, fun z j q1 q2 q3 => ?_⟩
   ·obtain ⟨k, rfl⟩ : ∃ m, k = m + 1 := ⟨k - 1, by omega⟩
    simp only [spec_l1Rising.l0, impl_strictly.l0, if_pos c1, if_pos c2, l1In_eq, within_eq, Option.bind_some, decide_eq_true h1, if_true, if_neg h0, ew]
    exact hb k (by omega)
   ·exact hb2 z j (by omega) q2 q3
theorem rising_lt (l : List Int) (h : ∀ j, 0 ≤ j → j < l.length → 0 < j → rd l ((j - 1 : Nat) : Int) < rd l (j : Int)) : ∀ d i, i + d + 1 < l.length → rd l (i : Int) < rd l ((i + d + 1 : Nat) : Int)
 | 0, i, hi => by
  have := h (i + 1) (by omega) (by omega) (by omega)
  simpa using this
 | d + 1, i, hi => by
  have h1 := rising_lt l h d i (by omega)
  have h2 := h (i + (d + 1) + 1) (by omega) hi (by omega)
  have e : i + (d + 1) + 1 - 1 = i + d + 1 := by omega
  rw [e] at h2
  omega
theorem rising_eq (l : List Int) (hl : l.length ≤ 140737488351232) : ∃ b : Bool, (∀ k, l.length < k → spec_l1Rising.f k l 1 99 = some b ∧ impl_strictly.f k l 1 99 = some b) ∧ (b = true → l.Pairwise (fun x y => x ≠ y)) := by
 obtain ⟨b, hb, hb2⟩ := rising_loop l hl l.length 0 (by omega)
 refine ⟨b, fun k hk => hb k hk, fun z => ?_⟩
 rw [List.pairwise_iff_getElem]
 intro i j hi hj hij
 have h := rising_lt l (fun m q1 q2 q3 => hb2 z m q1 q2 q3) (j - i - 1) i (by omega)
 have e : i + (j - i - 1) + 1 = j := by omega
 rw [e] at h
 have e1 : rd l (i : Int) = l[i] := by simp [rd, hi]
 have e2 : rd l (j : Int) = l[j] := by simp [rd, hj]
 rw [e1, e2] at h
 omega
def allIn (l : List S41) (ids : List Int) : Bool := ids.all fun id => decide (0 ≤ ixFrom id l 0)
def mem (l : List S41) (id : Int) : S41 := rd_T41 l (ixFrom id l 0)
theorem memLoop_eq (l : List S41) : ∀ (ids : List Int) (acc : List S41), acc.length + ids.length ≤ 2000000 → memLoop l ids acc = some (if allIn l ids = true then (acc ++ ids.map (mem l), true) else ([], false)) := by
 intro ids
 induction ids with
 | nil => intro acc h; simp [memLoop, allIn]
 | cons id r ih =>
  intro acc h
  simp only [List.length_cons] at h
  have hle := ixFrom_le id l 0
  simp only [memLoop]
  by_cases c : ixFrom id l 0 < 0
  ·rw [if_pos c]
   have : allIn l (id :: r) = false := by simp [allIn]; intro q; omega
   rw [this]
   rfl
  ·have e : allIn l (id :: r) = allIn l r := by simp only [allIn, List.all_cons, decide_eq_true (show 0 ≤ ixFrom id l 0 by omega), Bool.true_and]
   rw [if_neg c, if_pos (by omega), if_pos (by omega), ih _ (by simp; omega), e]
   simp [mem]
theorem membersOf_eq (l : List S41) (ids : List Int) (hi : ids.length ≤ 1048576) {b : Bool} {k : Nat} (hk : impl_strictly.f k ids 1 99 = some b) : impl_membersOf.f k l ids = some (if b = true ∧ allIn l ids = true then (ids.map (mem l), true) else ([], false)) := by
 unfold impl_membersOf.f
 rw [hk]
 simp only [Option.bind_some]
 cases b
 ·simp
 ·rw [if_pos rfl, memLoop_eq l ids [] (by simp; omega)]
  simp
theorem asked_loop (l : List S41) (ids : List Int) (g b : Bool) (K : Nat) (hl : l.length ≤ 1048576) (hi : ids.length ≤ 1048576) (hg : ∀ k, K < k → spec_l5Good.f k l = some g) (hb : ∀ k, K < k → spec_l1Rising.f k ids 1 99 = some b) (hK : l.length ≤ K) (d : Nat) : ∀ (k i : Nat), i + d = ids.length → d + K + 1 < k → spec_l5Asked.l0 k l ids (i : Int) = some (allIn l (ids.drop i) && g && b) := by
 induction d with
 | zero =>
  intro k i hd hk
  obtain ⟨k, rfl⟩ : ∃ m, k = m + 1 := ⟨k - 1, by omega⟩
  have c1 : ¬ (i : Int) < (ids.length : Int) := by omega
  simp only [spec_l5Asked.l0, if_neg c1, hg k (by omega), hb k (by omega), Option.bind_some]
  rw [List.drop_of_length_le (by omega)]
  cases g <;> simp [allIn]
 | succ d ih =>
  intro k i hd hk
  obtain ⟨k, rfl⟩ : ∃ m, k = m + 1 := ⟨k - 1, by omega⟩
  have ew : wrap64 ((i : Int) + 1) = ((i + 1 : Nat) : Int) := (w64 (by omega) (by omega)).trans (by omega)
  have c1 : (i : Int) < (ids.length : Int) := by omega
  have c2 : 0 ≤ (i : Int) := by omega
  have hd2 := ids_drop ids i (by omega)
  simp only [spec_l5Asked.l0, if_pos c1, if_pos c2, ew, find_eq l _ (show l.length ≤ 140737488351232 by omega) (show l.length < k by omega), Option.bind_some]
  rw [hd2]
  by_cases c : ixFrom (rd ids (i : Int)) l 0 < 0
  ·have : allIn l (rd ids (i : Int) :: ids.drop (i + 1)) = false := by simp [allIn]; intro q; omega
   rw [if_pos c, this]
   simp
  ·have e : allIn l (rd ids (i : Int) :: ids.drop (i + 1)) = allIn l (ids.drop (i + 1)) := by simp only [allIn, List.all_cons, decide_eq_true (show 0 ≤ ixFrom (rd ids (i : Int)) l 0 by omega), Bool.true_and]
   rw [if_neg c, e]
   exact ih k (i + 1) (by omega) (by omega)
theorem asked_eq (l : List S41) (ids : List Int) (g b : Bool) (K : Nat) (hl : l.length ≤ 1048576) (hi : ids.length ≤ 1048576) (hg : ∀ k, K < k → spec_l5Good.f k l = some g) (hb : ∀ k, K < k → spec_l1Rising.f k ids 1 99 = some b) (hK : l.length ≤ K) {k : Nat} (hk : ids.length + K + 1 < k) : spec_l5Asked.f k l ids = some (allIn l ids && g && b) := by
 have h := asked_loop l ids g b K hl hi hg hb hK ids.length k 0 (by omega) hk
 simpa [spec_l5Asked.f] using h
theorem bit1 (s : Int) (h0 : 0 ≤ s) (h1 : s ≤ 15) : Go.bits .and .i64 s 1 = s % 2 := by
 have : ∀ n : Fin 16, Go.bits .and .i64 (n.val : Int) 1 = (n.val : Int) % 2 := by decide +kernel
 have h := this ⟨s.toNat, by omega⟩
 simp only [Int.toNat_of_nonneg h0] at h
 exact h
theorem bit2 (s : Int) (h0 : 0 ≤ s) (h1 : s ≤ 15) : Go.bits .and .i64 s 2 = s / 2 % 2 * 2 := by
 have : ∀ n : Fin 16, Go.bits .and .i64 (n.val : Int) 2 = (n.val : Int) / 2 % 2 * 2 := by decide +kernel
 have h := this ⟨s.toNat, by omega⟩
 simp only [Int.toNat_of_nonneg h0] at h
 exact h
theorem bit3 (s : Int) (h0 : 0 ≤ s) (h1 : s ≤ 15) : Go.bits .and .i64 s 3 = s % 4 := by
 have : ∀ n : Fin 16, Go.bits .and .i64 (n.val : Int) 3 = (n.val : Int) % 4 := by decide +kernel
 have h := this ⟨s.toNat, by omega⟩
 simp only [Int.toNat_of_nonneg h0] at h
 exact h
theorem bitOr (s t : Int) (h0 : 0 ≤ s) (h1 : s ≤ 15) (g0 : 0 ≤ t) (g1 : t ≤ 15) : 0 ≤ Go.bits .or .i64 s t ∧ Go.bits .or .i64 s t ≤ 15 ∧ (Go.bits .or .i64 s t % 2 = 0 ↔ s % 2 = 0 ∧ t % 2 = 0) ∧ (Go.bits .or .i64 s t / 2 % 2 = 0 ↔ s / 2 % 2 = 0 ∧ t / 2 % 2 = 0) := by
 have : ∀ n m : Fin 16, 0 ≤ Go.bits .or .i64 (n.val : Int) (m.val : Int) ∧ Go.bits .or .i64 (n.val : Int) (m.val : Int) ≤ 15 ∧ (Go.bits .or .i64 (n.val : Int) (m.val : Int) % 2 = 0 ↔ (n.val : Int) % 2 = 0 ∧ (m.val : Int) % 2 = 0) ∧ (Go.bits .or .i64 (n.val : Int) (m.val : Int) / 2 % 2 = 0 ↔ (n.val : Int) / 2 % 2 = 0 ∧ (m.val : Int) / 2 % 2 = 0) := by decide +kernel
 have h := this ⟨s.toNat, by omega⟩ ⟨t.toNat, by omega⟩
 simp only [Int.toNat_of_nonneg h0, Int.toNat_of_nonneg g0] at h
 exact h
def orAll : List S41 → Int → Int
 | [], s => s
 | x :: r, s => orAll r (Go.bits .or .i64 s x.f2)
def tripsAll : List S41 → Int → Int
 | [], s => s
 | x :: r, s => tripsAll r (wrap64 (s + x.f3))
def able (M : List S41) : List S41 := M.filter fun x => decide (¬ Go.bits .and .i64 x.f2 3 = 0)
theorem all_loop (l : List S41) (ids : List Int) (hl : l.length ≤ 1048576) (hi : ids.length ≤ 1048576) (ha : allIn l ids = true) (d : Nat) : ∀ (k i : Nat) (s t : Int), i + d = ids.length → d + l.length + 1 < k → spec_l5All.l0 k l ids s t (i : Int) = some (orAll ((ids.drop i).map (mem l)) s, tripsAll ((ids.drop i).map (mem l)) t) := by
 induction d with
 | zero =>
  intro k i s t hd hk
  obtain ⟨k, rfl⟩ : ∃ m, k = m + 1 := ⟨k - 1, by omega⟩
  have c1 : ¬ (i : Int) < (ids.length : Int) := by omega
  simp only [spec_l5All.l0, if_neg c1]
  rw [List.drop_of_length_le (by omega)]
  rfl
 | succ d ih =>
  intro k i s t hd hk
  obtain ⟨k, rfl⟩ : ∃ m, k = m + 1 := ⟨k - 1, by omega⟩
  have ew : wrap64 ((i : Int) + 1) = ((i + 1 : Nat) : Int) := (w64 (by omega) (by omega)).trans (by omega)
  have c1 : (i : Int) < (ids.length : Int) := by omega
  have c2 : 0 ≤ (i : Int) := by omega
  have hd2 := ids_drop ids i (by omega)
  have hle := ixFrom_le (rd ids (i : Int)) l 0
  have h0 : 0 ≤ ixFrom (rd ids (i : Int)) l 0 := by
   have hm : rd ids (i : Int) ∈ ids := by
    have e : rd ids (i : Int) = ids[i] := by simp [rd, show i < ids.length by omega]
    rw [e]; exact List.getElem_mem _
   simpa using List.all_eq_true.mp ha _ hm
  have h1 : ixFrom (rd ids (i : Int)) l 0 < (l.length : Int) := by omega
  simp only [spec_l5All.l0, if_pos c1, if_pos c2, ew, find_eq l _ (show l.length ≤ 140737488351232 by omega) (show l.length < k by omega), Option.bind_some, if_pos h0, if_pos h1]
  rw [hd2, ih k (i + 1) _ _ (by omega) (by omega)]
  rfl
theorem all_eq (l : List S41) (ids : List Int) (hl : l.length ≤ 1048576) (hi : ids.length ≤ 1048576) (ha : allIn l ids = true) {k : Nat} (hk : ids.length + l.length + 1 < k) : spec_l5All.f k l ids = some (orAll (ids.map (mem l)) 0, tripsAll (ids.map (mem l)) 0) := by
 have h := all_loop l ids hl hi ha ids.length k 0 0 0 (by omega) hk
 simpa [spec_l5All.f] using h
theorem team_loop (l : List S41) (ids : List Int) (s : Int) (hl : l.length ≤ 1048576) (hi : ids.length ≤ 1048576) (ha : allIn l ids = true) (d : Nat) : ∀ (k i c : Nat), i + d = ids.length → c ≤ i → d + l.length + 1 < k → spec_l5Team.l0 k l ids s (c : Int) (i : Int) = some (decide (2 ≤ ids.length ∧ ids.length ≤ 5 ∧ Go.bits .and .i64 s 3 = 3 ∧ 2 ≤ c + (able ((ids.drop i).map (mem l))).length)) := by
 induction d with
 | zero =>
  intro k i c hd hc hk
  obtain ⟨k, rfl⟩ : ∃ m, k = m + 1 := ⟨k - 1, by omega⟩
  have c1 : ¬ (i : Int) < (ids.length : Int) := by omega
  simp only [spec_l5Team.l0, if_neg c1, l1In_eq, Option.bind_some]
  rw [List.drop_of_length_le (by omega)]
  have e0 : (able (List.map (mem l) [])).length = 0 := rfl
  rw [e0]
  by_cases h1 : (2 : Int) ≤ (ids.length : Int) ∧ (ids.length : Int) ≤ 5
  ·rw [decide_eq_true h1, if_pos rfl]
   by_cases h2 : Go.bits .and .i64 s 3 = 3
   ·rw [if_pos h2]
    refine congrArg some (decide_eq_decide.mpr ⟨fun z => ⟨by omega, by omega, h2, by omega⟩, fun z => by have := z.2.2.2; omega⟩)
   ·rw [if_neg h2]
    exact congrArg some (decide_eq_false (fun z => h2 z.2.2.1)).symm
  ·rw [decide_eq_false h1, if_neg (by simp)]
   exact congrArg some (decide_eq_false (fun z => h1 ⟨by have := z.1; omega, by have := z.2.1; omega⟩)).symm
 | succ d ih =>
  intro k i c hd hc hk
  obtain ⟨k, rfl⟩ : ∃ m, k = m + 1 := ⟨k - 1, by omega⟩
  have ew : wrap64 ((i : Int) + 1) = ((i + 1 : Nat) : Int) := (w64 (by omega) (by omega)).trans (by omega)
  have ewc : wrap64 ((c : Int) + 1) = ((c + 1 : Nat) : Int) := (w64 (by omega) (by omega)).trans (by omega)
  have c1 : (i : Int) < (ids.length : Int) := by omega
  have c2 : 0 ≤ (i : Int) := by omega
  have hd2 := ids_drop ids i (by omega)
  have hle := ixFrom_le (rd ids (i : Int)) l 0
  have h0 : 0 ≤ ixFrom (rd ids (i : Int)) l 0 := by
   have hm : rd ids (i : Int) ∈ ids := by
    have e : rd ids (i : Int) = ids[i] := by simp [rd, show i < ids.length by omega]
    rw [e]; exact List.getElem_mem _
   simpa using List.all_eq_true.mp ha _ hm
  have h1 : ixFrom (rd ids (i : Int)) l 0 < (l.length : Int) := by omega
  simp only [spec_l5Team.l0, if_pos c1, if_pos c2, ew, ewc, find_eq l _ (show l.length ≤ 140737488351232 by omega) (show l.length < k by omega), Option.bind_some, if_pos h0, if_pos h1]
  rw [hd2, List.map_cons]
  by_cases h : Go.bits .and .i64 (mem l (rd ids (i : Int))).f2 3 = 0
  ·have e : able (mem l (rd ids (i : Int)) :: (ids.drop (i + 1)).map (mem l)) = able ((ids.drop (i + 1)).map (mem l)) := by
    unfold able; rw [List.filter_cons_of_neg (by simpa using h)]
   rw [e]
   have h' : Go.bits .and .i64 (rd_T41 l (ixFrom (rd ids (i : Int)) l 0)).f2 3 = 0 := h
   rw [if_pos h']
   exact ih k (i + 1) c (by omega) (by omega) (by omega)
  ·have e : able (mem l (rd ids (i : Int)) :: (ids.drop (i + 1)).map (mem l)) = mem l (rd ids (i : Int)) :: able ((ids.drop (i + 1)).map (mem l)) := by
    unfold able; rw [List.filter_cons_of_pos (by simpa using h)]
   rw [e, List.length_cons]
   have h' : ¬ Go.bits .and .i64 (rd_T41 l (ixFrom (rd ids (i : Int)) l 0)).f2 3 = 0 := h
   rw [if_neg h', ih k (i + 1) (c + 1) (by omega) (by omega) (by omega)]
   refine congrArg some (decide_eq_decide.mpr ?_)
   have : c + 1 + (able ((ids.drop (i + 1)).map (mem l))).length = c + ((able ((ids.drop (i + 1)).map (mem l))).length + 1) := by omega
   rw [this]
def teamP (M : List S41) : Bool := decide (2 ≤ M.length ∧ M.length ≤ 5 ∧ Go.bits .and .i64 (orAll M 0) 3 = 3 ∧ 2 ≤ (able M).length)
theorem team_eq (l : List S41) (ids : List Int) (hl : l.length ≤ 1048576) (hi : ids.length ≤ 1048576) (ha : allIn l ids = true) {k : Nat} (hk : ids.length + l.length + 1 < k) : spec_l5Team.f k l ids = some (teamP (ids.map (mem l))) := by
 unfold spec_l5Team.f
 rw [all_eq l ids hl hi ha hk]
 simp only [Option.bind_some]
 have h := team_loop l ids (orAll (ids.map (mem l)) 0) hl hi ha ids.length k 0 0 (by omega) (by omega) hk
 rw [List.drop_zero] at h
 refine Eq.trans h ?_
 unfold teamP
 rw [List.length_map, Nat.zero_add]
def pairOf (x y : S41) : Prop := x.f0 ≠ y.f0 ∧ ¬ Go.bits .and .i64 x.f2 1 = 0 ∧ ¬ Go.bits .and .i64 y.f2 2 = 0
instance (x y : S41) : Decidable (pairOf x y) := by unfold pairOf; infer_instance
theorem mate_loop (M : List S41) (hM : M.length ≤ 1048576) (i : Nat) (hi : i < M.length) (d : Nat) : ∀ (k j : Nat), j + d = M.length → d < k →
  ((∃ y ∈ M.drop j, pairOf (rd_T41 M (i : Int)) y) → impl_areTeam.l1 k M M (M.length : Int) (i : Int) M (M.length : Int) (j : Int) (rd_T41 M (i : Int)).f0 (rd_T41 M (i : Int)).f1 (rd_T41 M (i : Int)).f2 (rd_T41 M (i : Int)).f3 = some true) ∧
  (¬ (∃ y ∈ M.drop j, pairOf (rd_T41 M (i : Int)) y) → impl_areTeam.l1 k M M (M.length : Int) (i : Int) M (M.length : Int) (j : Int) (rd_T41 M (i : Int)).f0 (rd_T41 M (i : Int)).f1 (rd_T41 M (i : Int)).f2 (rd_T41 M (i : Int)).f3 = impl_areTeam.l0 (k - d - 1) M M (M.length : Int) ((i + 1 : Nat) : Int)) := by
 induction d with
 | zero =>
  intro k j hj hk
  obtain ⟨k, rfl⟩ : ∃ m, k = m + 1 := ⟨k - 1, by omega⟩
  have c1 : ¬ (j : Int) < (M.length : Int) := by omega
  have ew : wrap64 ((i : Int) + 1) = ((i + 1 : Nat) : Int) := (w64 (by omega) (by omega)).trans (by omega)
  rw [List.drop_of_length_le (by omega)]
  refine ⟨fun ⟨y, hy, _⟩ => by simp at hy, fun _ => ?_⟩
  simp only [impl_areTeam.l1, if_neg c1, ew]
  rfl
 | succ d ih =>
  intro k j hj hk
  obtain ⟨k, rfl⟩ : ∃ m, k = m + 1 := ⟨k - 1, by omega⟩
  have c1 : (j : Int) < (M.length : Int) := by omega
  have c2 : 0 ≤ (j : Int) := by omega
  have ew : wrap64 ((j : Int) + 1) = ((j + 1 : Nat) : Int) := (w64 (by omega) (by omega)).trans (by omega)
  have e2 : k + 1 - (d + 1) - 1 = k - d - 1 := by omega
  rw [e2]
  have ih := ih k (j + 1) (by omega) (by omega)
  have hex : (∃ y ∈ M.drop j, pairOf (rd_T41 M (i : Int)) y) ↔ (pairOf (rd_T41 M (i : Int)) (rd_T41 M (j : Int)) ∨ ∃ y ∈ M.drop (j + 1), pairOf (rd_T41 M (i : Int)) y) := by
   rw [rd_T41_drop M j (by omega)]
   simp only [List.mem_cons, exists_eq_or_imp]
  simp only [impl_areTeam.l1, if_pos c1, if_pos c2, ew]
  rw [hex]
  by_cases h1 : (rd_T41 M (i : Int)).f0 = (rd_T41 M (j : Int)).f0
  ·have hn : ¬ pairOf (rd_T41 M (i : Int)) (rd_T41 M (j : Int)) := fun z => z.1 h1
   simp only [if_pos h1, hn, false_or]
   exact ih
  simp only [if_neg h1]
  by_cases h2 : Go.bits .and .i64 (rd_T41 M (i : Int)).f2 1 = 0
  ·have hn : ¬ pairOf (rd_T41 M (i : Int)) (rd_T41 M (j : Int)) := fun z => z.2.1 h2
   simp only [if_pos h2, hn, false_or]
   exact ih
  simp only [if_neg h2]
  by_cases h3 : Go.bits .and .i64 (rd_T41 M (j : Int)).f2 2 = 0
  ·have hn : ¬ pairOf (rd_T41 M (i : Int)) (rd_T41 M (j : Int)) := fun z => z.2.2 h3
   simp only [if_pos h3, hn, false_or]
   exact ih
  simp only [if_neg h3]
  have hp : pairOf (rd_T41 M (i : Int)) (rd_T41 M (j : Int)) := ⟨h1, h2, h3⟩
  exact ⟨fun _ => trivial, fun z => absurd (Or.inl hp) z⟩
theorem mates_loop (M : List S41) (hM : M.length ≤ 1048576) (d : Nat) : ∀ (k i : Nat), i + d = M.length → d * (M.length + 2) < k →
  ((∃ x ∈ M.drop i, ∃ y ∈ M, pairOf x y) → impl_areTeam.l0 k M M (M.length : Int) (i : Int) = some true) ∧ (¬ (∃ x ∈ M.drop i, ∃ y ∈ M, pairOf x y) → impl_areTeam.l0 k M M (M.length : Int) (i : Int) = some false) := by
 induction d with
 | zero =>
  intro k i hj hk
  obtain ⟨k, rfl⟩ : ∃ m, k = m + 1 := ⟨k - 1, by omega⟩
  have c1 : ¬ (i : Int) < (M.length : Int) := by omega
  rw [List.drop_of_length_le (by omega)]
  refine ⟨fun ⟨y, hy, _⟩ => by simp at hy, fun _ => ?_⟩
  simp only [impl_areTeam.l0, if_neg c1]
 | succ d ih =>
  intro k i hj hk
  rw [Nat.succ_mul] at hk
  obtain ⟨k, rfl⟩ : ∃ m, k = m + 1 := ⟨k - 1, by omega⟩
  have c1 : (i : Int) < (M.length : Int) := by omega
  have c2 : 0 ≤ (i : Int) := by omega
  have hex : (∃ x ∈ M.drop i, ∃ y ∈ M, pairOf x y) ↔ ((∃ y ∈ M, pairOf (rd_T41 M (i : Int)) y) ∨ ∃ x ∈ M.drop (i + 1), ∃ y ∈ M, pairOf x y) := by
   rw [rd_T41_drop M i (by omega)]
   simp only [List.mem_cons, exists_eq_or_imp]
  obtain ⟨q1, q2⟩ := mate_loop M hM i (by omega) M.length k 0 (by omega) (by omega)
  rw [List.drop_zero] at q1 q2
  simp only [impl_areTeam.l0, if_pos c1, if_pos c2]
  rw [hex]
  by_cases h : ∃ y ∈ M, pairOf (rd_T41 M (i : Int)) y
  ·refine ⟨fun _ => q1 h, fun z => absurd (Or.inl h) z⟩
  ·have h2 := q2 h
   have h2' : impl_areTeam.l1 k M M (M.length : Int) (i : Int) M (M.length : Int) 0 (rd_T41 M (i : Int)).f0 (rd_T41 M (i : Int)).f1 (rd_T41 M (i : Int)).f2 (rd_T41 M (i : Int)).f3 = impl_areTeam.l0 (k - M.length - 1) M M (M.length : Int) ((i + 1 : Nat) : Int) := h2
   rw [h2']
   obtain ⟨r1, r2⟩ := ih (k - M.length - 1) (i + 1) (by omega) (by omega)
   exact ⟨fun z => r1 (z.resolve_left h), fun z => r2 (fun w => z (Or.inr w))⟩
theorem areTeam_eq (M : List S41) (hM : M.length ≤ 1048576) {k : Nat} (hk : M.length * (M.length + 2) < k) : impl_areTeam.f k M = some (decide ((2 ≤ M.length ∧ M.length ≤ 5) ∧ ∃ x ∈ M, ∃ y ∈ M, pairOf x y)) := by
 unfold impl_areTeam.f
 rw [within_eq]
 simp only [Option.bind_some]
 by_cases h : (2 : Int) ≤ (M.length : Int) ∧ (M.length : Int) ≤ 5
 ·rw [decide_eq_true h, if_pos rfl]
  obtain ⟨r1, r2⟩ := mates_loop M hM M.length k 0 (by omega) hk
  rw [List.drop_zero] at r1 r2
  by_cases q : ∃ x ∈ M, ∃ y ∈ M, pairOf x y
  ·refine Eq.trans (r1 q) (congrArg some (decide_eq_true ⟨⟨by omega, by omega⟩, q⟩).symm)
  ·refine Eq.trans (r2 q) (congrArg some (decide_eq_false (fun z => q z.2)).symm)
 ·rw [decide_eq_false h, if_neg (by simp)]
  exact congrArg some (decide_eq_false (fun z => h ⟨by omega, by omega⟩)).symm
def skillsOk (M : List S41) : Prop := ∀ x ∈ M, 0 ≤ x.f2 ∧ x.f2 ≤ 15
theorem orAll_ok : ∀ (M : List S41) (s : Int), skillsOk M → 0 ≤ s → s ≤ 15 → 0 ≤ orAll M s ∧ orAll M s ≤ 15 ∧ (orAll M s % 2 = 0 ↔ s % 2 = 0 ∧ ∀ x ∈ M, x.f2 % 2 = 0) ∧ (orAll M s / 2 % 2 = 0 ↔ s / 2 % 2 = 0 ∧ ∀ x ∈ M, x.f2 / 2 % 2 = 0) := by
 intro M
 induction M with
 | nil => intro s h h0 h1; simp [orAll, h0, h1]
 | cons x r ih =>
  intro s h h0 h1
  have hx := h x (List.mem_cons_self ..)
  obtain ⟨b0, b1, b2, b3⟩ := bitOr s x.f2 h0 h1 hx.1 hx.2
  obtain ⟨i0, i1, i2, i3⟩ := ih (Go.bits .or .i64 s x.f2) (fun y hy => h y (List.mem_cons_of_mem _ hy)) b0 b1
  simp only [orAll, List.mem_cons, forall_eq_or_imp]
  refine ⟨i0, i1, i2.trans ?_, i3.trans ?_⟩
  ·rw [b2, and_assoc]
  ·rw [b3, and_assoc]
theorem team_iff (M : List S41) (hs : skillsOk M) (hp : M.Pairwise (fun x y => x.f0 ≠ y.f0)) (hu : ∀ x ∈ M, ∀ y ∈ M, x.f0 = y.f0 → x = y) : (Go.bits .and .i64 (orAll M 0) 3 = 3 ∧ 2 ≤ (able M).length) ↔ ∃ x ∈ M, ∃ y ∈ M, pairOf x y := by
 obtain ⟨o0, o1, o2, o3⟩ := orAll_ok M 0 hs (by omega) (by omega)
 rw [bit3 _ o0 o1]
 have hab : ∀ x, x ∈ able M ↔ x ∈ M ∧ ¬ x.f2 % 4 = 0 := by
  intro x
  unfold able
  rw [List.mem_filter]
  refine and_congr_right fun hx => ?_
  rw [decide_eq_true_eq, bit3 _ (hs x hx).1 (hs x hx).2]
 have hpa : (able M).Pairwise (fun x y => x.f0 ≠ y.f0) := hp.filter _
 constructor
 ·rintro ⟨h3, h2⟩
  have n1 : ¬ orAll M 0 % 2 = 0 := by omega
  have n2 : ¬ orAll M 0 / 2 % 2 = 0 := by omega
  rw [o2] at n1
  rw [o3] at n2
  have n1 : ∃ x ∈ M, ¬ x.f2 % 2 = 0 := by
   refine Classical.byContradiction fun z => n1 ⟨rfl, fun x hx => Classical.byContradiction fun q => z ⟨x, hx, q⟩⟩
  have n2 : ∃ x ∈ M, ¬ x.f2 / 2 % 2 = 0 := by
   refine Classical.byContradiction fun z => n2 ⟨rfl, fun x hx => Classical.byContradiction fun q => z ⟨x, hx, q⟩⟩
  obtain ⟨x, hx, bx⟩ := n1
  obtain ⟨y, hy, ty⟩ := n2
  have mk : ∀ a b, a ∈ M → b ∈ M → a.f0 ≠ b.f0 → ¬ a.f2 % 2 = 0 → ¬ b.f2 / 2 % 2 = 0 → ∃ x ∈ M, ∃ y ∈ M, pairOf x y := by
   intro a b ha hb hne h1 h2
   refine ⟨a, ha, b, hb, hne, ?_, ?_⟩
   ·rw [bit1 _ (hs a ha).1 (hs a ha).2]; exact h1
   ·rw [bit2 _ (hs b hb).1 (hs b hb).2]; omega
  by_cases hxy : x.f0 = y.f0
  ·have e := hu x hx y hy hxy
   subst e
   obtain ⟨z, hz, hzx⟩ : ∃ z ∈ able M, z.f0 ≠ x.f0 := by
    match hE : able M with
    | [] => rw [hE] at h2; simp at h2
    | [a] => rw [hE] at h2; simp at h2
    | a :: b :: r =>
     rw [hE] at hpa
     have hne : a.f0 ≠ b.f0 := (List.pairwise_cons.mp hpa).1 b (List.mem_cons_self ..)
     by_cases q : a.f0 = x.f0
     ·exact ⟨b, List.mem_cons_of_mem _ (List.mem_cons_self ..), fun w => hne (by omega)⟩
     ·exact ⟨a, List.mem_cons_self .., q⟩
   obtain ⟨hzM, hz4⟩ := (hab z).mp hz
   by_cases hb : z.f2 % 2 = 0
   ·exact mk x z hx hzM (fun w => hzx w.symm) bx (by omega)
   ·exact mk z x hzM hx hzx hb ty
  ·exact mk x y hx hy hxy bx ty
 ·rintro ⟨x, hx, y, hy, hne, h1, h2⟩
  rw [bit1 _ (hs x hx).1 (hs x hx).2] at h1
  rw [bit2 _ (hs y hy).1 (hs y hy).2] at h2
  have n1 : ¬ orAll M 0 % 2 = 0 := fun z => h1 ((o2.mp z).2 x hx)
  have n2 : ¬ orAll M 0 / 2 % 2 = 0 := fun z => by have := (o3.mp z).2 y hy; omega
  refine ⟨by omega, ?_⟩
  have ax := (hab x).mpr ⟨hx, by omega⟩
  have ay := (hab y).mpr ⟨hy, by omega⟩
  match hE : able M with
  | [] => rw [hE] at ax; cases ax
  | [a] =>
   rw [hE] at ax ay
   rw [List.mem_singleton] at ax ay
   rw [ax, ay] at hne
   exact absurd rfl hne
  | a :: b :: r => simp
theorem mem_in (l : List S41) (id : Int) (h : 0 ≤ ixFrom id l 0) : mem l id ∈ l ∧ (mem l id).f0 = id := by
 have hle := ixFrom_le id l 0
 have hlt : (ixFrom id l 0).toNat < l.length := by omega
 have e : mem l id = l[(ixFrom id l 0).toNat] := by simp [mem, rd_T41, hlt]
 obtain ⟨_, h2⟩ := ixFrom_f0 id l 0 h
 refine ⟨by rw [e]; exact List.getElem_mem _, ?_⟩
 rw [show ixFrom id l 0 - ((0 : Nat) : Int) = ixFrom id l 0 by omega] at h2
 exact h2
theorem good_skills (l : List S41) (h : goodP l = true) : skillsOk l := by
 intro x hx
 obtain ⟨i, hi, rfl⟩ := List.getElem_of_mem hx
 have := ((goodB_true l 0).mp h).1 i (Nat.zero_le _) hi
 have e : rd_T41 l (i : Int) = l[i] := by simp [rd_T41, hi]
 have h3 := this.2.2.1
 rw [e] at h3
 exact h3
theorem ask_all (l : List S41) (ids : List Int) (hl : l.length ≤ 1048576) (hi : ids.length ≤ 1048576) (hM : ∀ x ∈ l, x.f1.size ≤ 1048576) : ∃ b : Bool, (∀ k, l.length * (l.length + 3) + ids.length * (ids.length + 2) + 3145800 < k → spec_l5Asked.f k l ids = some (allIn l ids && goodP l && b) ∧ impl_membersOf.f k l ids = some (if b = true ∧ allIn l ids = true then (ids.map (mem l), true) else ([], false)) ∧ impl_ArePeople.f k l = some (goodP l)) ∧
  ((allIn l ids && goodP l && b) = true → (b = true ∧ allIn l ids = true) ∧ goodP l = true ∧ ∀ k, l.length * (l.length + 3) + ids.length * (ids.length + 2) + 3145800 < k → spec_l5Team.f k l ids = some (teamP (ids.map (mem l))) ∧ impl_areTeam.f k (ids.map (mem l)) = some (teamP (ids.map (mem l)))) := by
 have hM' : ∀ x ∈ l, x.f1.size < 1048577 ∧ x.f1.size ≤ 140737488351232 := fun x hx => by have := hM x hx; omega
 obtain ⟨b, hb, hp⟩ := rising_eq ids (by omega)
 refine ⟨b, fun k hk => ⟨?_, ?_, ?_⟩, fun h => ?_⟩
 ·obtain ⟨K, hK⟩ : ∃ K, K = l.length * (l.length + 3) + 2097153 := ⟨_, rfl⟩
  exact asked_eq l ids (goodP l) b K hl hi (fun k hk => specGood_eq l hl 1048577 hM' (by omega)) (fun k hk => (hb k (by omega)).1) (by omega) (by omega)
 ·exact membersOf_eq l ids hi (hb k (by omega)).2
 ·exact implGood_eq l hl (by omega)
 ·simp only [Bool.and_eq_true] at h
  obtain ⟨⟨ha, hg⟩, hbt⟩ := h
  refine ⟨⟨hbt, ha⟩, hg, fun k hk => ?_⟩
  have hin : ∀ id ∈ ids, mem l id ∈ l ∧ (mem l id).f0 = id := fun id hid => mem_in l id (by simpa using List.all_eq_true.mp ha id hid)
  refine ⟨team_eq l ids hl hi ha (by omega), ?_⟩
  rw [areTeam_eq (ids.map (mem l)) (by rw [List.length_map]; exact hi) (by rw [List.length_map]; omega)]
  have hsk : skillsOk (ids.map (mem l)) := by
   intro x hx
   obtain ⟨id, hid, rfl⟩ := List.mem_map.mp hx
   exact good_skills l hg _ (hin id hid).1
  have hu : ∀ x ∈ ids.map (mem l), ∀ y ∈ ids.map (mem l), x.f0 = y.f0 → x = y := by
   intro x hx y hy hxy
   obtain ⟨i, hii, rfl⟩ := List.mem_map.mp hx
   obtain ⟨j, hij, rfl⟩ := List.mem_map.mp hy
   rw [(hin i hii).2, (hin j hij).2] at hxy
   rw [hxy]
  have hpw : (ids.map (mem l)).Pairwise (fun x y => x.f0 ≠ y.f0) := by
   rw [List.pairwise_map]
   refine (hp hbt).imp_of_mem ?_
   intro i j hii hij hne
   rw [(hin i hii).2, (hin j hij).2]
   exact hne
  have hiff := team_iff _ hsk hpw hu
  unfold teamP
  refine congrArg some (decide_eq_decide.mpr ⟨fun z => ⟨z.1.1, z.1.2, (hiff.mpr z.2).1, (hiff.mpr z.2).2⟩, fun z => ⟨⟨z.1, z.2.1⟩, hiff.mp z.2.2⟩⟩)
namespace Sp
variable {α : Type}
def subAt : List α → Nat → List α
 | [], _ => []
 | x :: xs, s => if s % 2 = 1 then x :: subAt xs (s / 2) else subAt xs (s / 2)
theorem subAt_sub : ∀ (l : List α) (s : Nat), (subAt l s).Sublist l
 | [], _ => List.Sublist.refl _
 | x :: xs, s => by
  simp only [subAt]
  split
  ·exact (subAt_sub xs (s / 2)).cons_cons x
  ·exact (subAt_sub xs (s / 2)).cons x
theorem subAt_inj : ∀ (l : List α) (s t : Nat), l.Nodup → s < 2 ^ l.length → t < 2 ^ l.length → subAt l s = subAt l t → s = t
 | [], s, t, _, h, g, _ => by simp at h g; omega
 | x :: xs, s, t, hn, h, g, e => by
  have hn' := List.nodup_cons.mp hn
  rw [List.length_cons, Nat.pow_succ] at h g
  have no : ∀ q, x ∉ subAt xs q := fun q hq => hn'.1 ((subAt_sub xs q).subset hq)
  simp only [subAt] at e
  by_cases a : s % 2 = 1 <;> by_cases b : t % 2 = 1
  ·rw [if_pos a, if_pos b] at e
   have := subAt_inj xs (s / 2) (t / 2) hn'.2 (by omega) (by omega) (List.cons.inj e).2
   omega
  ·rw [if_pos a, if_neg b] at e
   exact absurd (e ▸ List.mem_cons_self ..) (no (t / 2))
  ·rw [if_neg a, if_pos b] at e
   exact absurd (e.symm ▸ List.mem_cons_self ..) (no (s / 2))
  ·rw [if_neg a, if_neg b] at e
   have := subAt_inj xs (s / 2) (t / 2) hn'.2 (by omega) (by omega) e
   omega
end Sp
theorem rdP (l : List S41) (i : Nat) (h : i < l.length) : rd_T41 l (i : Int) = l[i] := by simp [rd_T41, h]
theorem good_ok (l : List S41) (h : goodP l = true) : goodFrom l 0 := (goodB_true l 0).mp h
theorem good_lt (l : List S41) (h : goodP l = true) : ∀ (d i : Nat) (hd : i + d + 1 < l.length), (l[i]'(by omega)).f0 < (l[i + d + 1]'hd).f0
 | 0, i, hd => by
  obtain ⟨_, _, _, _, h5, _⟩ := (good_ok l h).1 (i + 1) (Nat.zero_le _) hd
  have h5 := h5 (by omega)
  rw [show i + 1 - 1 = i by omega, rdP l i (by omega), rdP l (i + 1) hd] at h5
  exact h5
 | d + 1, i, hd => by
  have a := good_lt l h d i (by omega)
  obtain ⟨_, _, _, _, h5, _⟩ := (good_ok l h).1 (i + d + 2) (Nat.zero_le _) hd
  have h5 := h5 (by omega)
  rw [show i + d + 2 - 1 = i + d + 1 by omega, rdP l (i + d + 1) (by omega), rdP l (i + d + 2) hd] at h5
  have e : l[i + (d + 1) + 1]'hd = l[i + d + 2]'hd := rfl
  rw [e]
  omega
theorem good_len (l : List S41) (h : goodP l = true) : l.length ≤ 10 := (good_ok l h).2
theorem good_ids (l : List S41) (h : goodP l = true) : (idsL l).Nodup := by
 unfold idsL List.Nodup
 rw [List.pairwise_map, List.pairwise_iff_getElem]
 intro i j hi hj hij
 have := good_lt l h (j - i - 1) i (by omega)
 have e : i + (j - i - 1) + 1 = j := by omega
 simp only [e] at this
 omega
theorem ids_inj (l : List S41) (h : (idsL l).Nodup) (x y : S41) (hx : x ∈ l) (hy : y ∈ l) (e : x.f0 = y.f0) : x = y := by
 obtain ⟨i, hi, rfl⟩ := List.getElem_of_mem hx
 obtain ⟨j, hj, rfl⟩ := List.getElem_of_mem hy
 have i1 := h.idxOf_getElem i (by unfold idsL; simpa using hi)
 have i2 := h.idxOf_getElem j (by unfold idsL; simpa using hj)
 have e2 : (idsL l)[i]'(by unfold idsL; simpa using hi) = (idsL l)[j]'(by unfold idsL; simpa using hj) := by unfold idsL; simpa using e
 rw [e2] at i1
 have : i = j := i1.symm.trans i2
 subst this; rfl
theorem ix_mem (id : Int) : ∀ (l : List S41) (i : Nat), (∃ x ∈ l, x.f0 = id) → 0 ≤ ixFrom id l i
 | [], i, h => by obtain ⟨x, hx, _⟩ := h; cases hx
 | y :: r, i, h => by
  simp only [ixFrom]
  by_cases c : y.f0 = id
  ·rw [if_pos c]; omega
  ·rw [if_neg c]
   refine ix_mem id r (i + 1) ?_
   obtain ⟨x, hx, e⟩ := h
   rcases List.mem_cons.mp hx with hx | hx
   ·exact absurd (hx ▸ e) c
   ·exact ⟨x, hx, e⟩
theorem mem_self (l : List S41) (h : (idsL l).Nodup) (x : S41) (hx : x ∈ l) : mem l x.f0 = x := by
 obtain ⟨a, b⟩ := mem_in l x.f0 (ix_mem x.f0 l 0 ⟨x, hx, rfl⟩)
 exact ids_inj l h _ _ a hx b
theorem ids_back (l M : List S41) (h : (idsL l).Nodup) (hM : M.Sublist l) : (idsL M).map (mem l) = M ∧ allIn l (idsL M) = true := by
 have hs := hM.subset
 constructor
 ·unfold idsL
  rw [List.map_map]
  conv => rhs; rw [← List.map_id M]
  refine List.map_congr_left ?_
  intro x hx
  exact mem_self l h x (hs hx)
 ·unfold allIn idsL
  rw [List.all_map, List.all_eq_true]
  intro x hx
  exact decide_eq_true (ix_mem x.f0 l 0 ⟨x, hs hx, rfl⟩)
theorem subAt_ids : ∀ (l : List S41) (s : Nat), idsL (Sp.subAt l s) = Sp.subAt (idsL l) s
 | [], _ => rfl
 | x :: xs, s => by
  show (Sp.subAt (x :: xs) s).map (·.f0) = Sp.subAt (x.f0 :: xs.map (·.f0)) s
  have ih : (Sp.subAt xs (s / 2)).map (·.f0) = Sp.subAt (xs.map (·.f0)) (s / 2) := subAt_ids xs (s / 2)
  simp only [Sp.subAt]
  split
  ·rw [List.map_cons, ih]
  ·exact ih
theorem sub_len (l : List S41) (s : Nat) : (Sp.subAt l s).length ≤ l.length := (Sp.subAt_sub l s).length_le
theorem and_one (x : Nat) (h : x < 1024) : Go.bits .and .i64 (x : Int) 1 = ((x % 2 : Nat) : Int) := by
 have : ∀ n : Fin 1024, Go.bits .and .i64 (n.val : Int) 1 = ((n.val % 2 : Nat) : Int) := by decide +kernel
 exact this ⟨x, h⟩
theorem bit_at (s i : Nat) (hs : s < 1024) (hi : i ≤ 64) : ((Go.bits .and .i64 (shr .i64 (s : Int) (i : Int)) 1) = 1) = (s / 2 ^ i % 2 = 1) := by
 have h1 : shr .i64 (s : Int) (i : Int) = ((s / 2 ^ i : Nat) : Int) := by
  have := (shr_small (k := .i64) (x := (s : Int)) (y := (i : Int)) rfl (by show (i : Int) ≤ ((64 : Nat) : Int); omega)).symm
  rw [this, Int.toNat_natCast]
  simp
 have h2 : s / 2 ^ i < 1024 := Nat.lt_of_le_of_lt (Nat.div_le_self _ _) hs
 rw [h1, and_one _ h2, eq_iff_iff]
 omega
theorem pow_at (n : Nat) (h : n ≤ 10) : shl .i64 1 (n : Int) = ((2 ^ n : Nat) : Int) := by
 have : ∀ m : Fin 11, shl .i64 1 ((m.val : Nat) : Int) = ((2 ^ m.val : Nat) : Int) := by decide +kernel
 exact this ⟨n, by omega⟩
theorem u64_at (n : Nat) (h : n ≤ 1000) : IntKind.u64.wrap (n : Int) = (n : Int) := by simp [IntKind.wrap, IntKind.bits, IntKind.signed]; omega
theorem pow_le {n : Nat} (h : n ≤ 10) : 2 ^ n ≤ 1024 := Nat.pow_le_pow_right (by decide) h
theorem div_pow (s i : Nat) : s / 2 ^ i / 2 = s / 2 ^ (i + 1) := by rw [Nat.div_div_eq_div_mul, Nat.pow_succ]
def teamB (M : List S41) : Bool := decide ((2 ≤ M.length ∧ M.length ≤ 5) ∧ ∃ x ∈ M, ∃ y ∈ M, pairOf x y)
theorem teamP_B (l M : List S41) (h : goodP l = true) (hM : M.Sublist l) : teamP M = teamB M := by
 have hs := hM.subset
 have hn := good_ids l h
 have hk := good_skills l h
 have hsk : skillsOk M := fun x hx => hk x (hs hx)
 have hu : ∀ x ∈ M, ∀ y ∈ M, x.f0 = y.f0 → x = y := fun x hx y hy e => ids_inj l hn x y (hs hx) (hs hy) e
 have hpw : M.Pairwise (fun x y => x.f0 ≠ y.f0) := by
  have : l.Pairwise (fun x y => x.f0 ≠ y.f0) := by
   unfold idsL List.Nodup at hn
   rw [List.pairwise_map] at hn
   exact hn
  exact this.sublist hM
 have hiff := team_iff _ hsk hpw hu
 unfold teamP teamB
 exact decide_eq_decide.mpr ⟨fun z => ⟨⟨z.1, z.2.1⟩, hiff.mp z.2.2⟩, fun z => ⟨z.1.1, z.1.2, (hiff.mpr z.2).1, (hiff.mpr z.2).2⟩⟩
theorem members_loop (l : List S41) (hl : l.length ≤ 10) (s : Nat) (hs : s < 1024) (d : Nat) : ∀ (k i : Nat) (acc : List Int), i + d = l.length → d < k → acc.length ≤ i → spec_l5Members.l0 k l (s : Int) acc (i : Int) = some (acc ++ idsL (Sp.subAt (l.drop i) (s / 2 ^ i))) := by
 induction d with
 | zero =>
  intro k i acc hi hk _
  obtain ⟨k, rfl⟩ : ∃ m, k = m + 1 := ⟨k - 1, by omega⟩
  have c1 : ¬ (i : Int) < (l.length : Int) := by omega
  simp only [spec_l5Members.l0, if_neg c1]
  rw [List.drop_of_length_le (by omega)]
  simp [Sp.subAt, idsL]
 | succ d ih =>
  intro k i acc hi hk ha
  obtain ⟨k, rfl⟩ : ∃ m, k = m + 1 := ⟨k - 1, by omega⟩
  have hil : i < l.length := by omega
  have c1 : (i : Int) < (l.length : Int) := by omega
  have c2 : 0 ≤ (i : Int) := by omega
  have c3 : acc.length < 17592186044416 := by omega
  have ew : wrap64 ((i : Int) + 1) = ((i + 1 : Nat) : Int) := (w64 (by omega) (by omega)).trans (by omega)
  rw [List.drop_eq_getElem_cons hil]
  simp only [spec_l5Members.l0, if_pos c1, u64_at i (by omega), if_pos c2, bit_at s i hs (by omega), if_pos c3, ew, rdP l i hil, Sp.subAt, div_pow]
  by_cases h : s / 2 ^ i % 2 = 1
  ·rw [if_pos h, if_pos h, ih k (i + 1) _ (by omega) (by omega) (by simp; omega)]
   simp [idsL]
  ·rw [if_neg h, if_neg h, ih k (i + 1) _ (by omega) (by omega) (by omega)]
theorem members_eq (l : List S41) (hl : l.length ≤ 10) (s : Nat) (hs : s < 1024) {k : Nat} (hk : l.length < k) : spec_l5Members.f k l (s : Int) = some (idsL (Sp.subAt l s)) := by
 have := members_loop l hl s hs l.length k 0 [] (by omega) hk (by simp)
 unfold spec_l5Members.f
 simpa using this
theorem in_loop (l : List S41) (hl : l.length ≤ 10) (s : Nat) (hs : s < 1024) (T : List (List S41)) (N : Int) (d : Nat) : ∀ (k i : Nat) (acc : List S41), i + d = l.length → acc.length ≤ i →
  impl_teams_in.l1 (k + d + 1) l T (s : Int) acc N (s : Int) l (l.length : Int) (i : Int) = (impl_areTeam.f k (acc ++ Sp.subAt (l.drop i) (s / 2 ^ i))).bind fun t => if t = true then (if T.length < 5864062014805 then impl_teams_in.l0 k l (T ++ [acc ++ Sp.subAt (l.drop i) (s / 2 ^ i)]) N (wrap64 ((s : Int) + 1)) else none) else impl_teams_in.l0 k l T N (wrap64 ((s : Int) + 1)) := by
 induction d with
 | zero =>
  intro k i acc hi _
  have c1 : ¬ (i : Int) < (l.length : Int) := by omega
  simp only [Nat.add_zero, impl_teams_in.l1, if_neg c1]
  rw [List.drop_of_length_le (by omega)]
  simp [Sp.subAt]
 | succ d ih =>
  intro k i acc hi ha
  have hil : i < l.length := by omega
  have c1 : (i : Int) < (l.length : Int) := by omega
  have c2 : 0 ≤ (i : Int) := by omega
  have c3 : acc.length < 3518437208883 := by omega
  have ew : wrap64 ((i : Int) + 1) = ((i + 1 : Nat) : Int) := (w64 (by omega) (by omega)).trans (by omega)
  have ih1 := ih k (i + 1)
  rw [List.drop_eq_getElem_cons hil, show k + (d + 1) + 1 = (k + d + 1) + 1 by omega]
  generalize k + d + 1 = K at ih1
  simp only [impl_teams_in.l1, if_pos c1, if_pos c2, bit_at s i hs (by omega), if_pos c3, ew, rdP l i hil, Sp.subAt, div_pow]
  by_cases h : s / 2 ^ i % 2 = 1
  ·simp only [if_pos h]
   rw [ih1 _ (by omega) (by simp; omega)]
   simp
  ·simp only [if_neg h]
   rw [ih1 _ (by omega) (by omega)]
def subsFrom (l : List S41) (s d : Nat) : List (List S41) := (List.range' s d).map (Sp.subAt l)
theorem subsFrom_succ (l : List S41) (s d : Nat) : subsFrom l s (d + 1) = Sp.subAt l s :: subsFrom l (s + 1) d := by unfold subsFrom; rw [List.range'_succ, List.map_cons]
theorem teamsIn_loop (l : List S41) (hl : l.length ≤ 10) (d : Nat) : ∀ (k s : Nat) (acc : List (List S41)), s + d = 2 ^ l.length → d * (l.length + 2) + 200 ≤ k → acc.length ≤ s → impl_teams_in.l0 k l acc ((2 ^ l.length : Nat) : Int) (s : Int) = some (acc ++ (subsFrom l s d).filter teamB) := by
 have hp := pow_le hl
 induction d with
 | zero =>
  intro k s acc hs hk _
  obtain ⟨k, rfl⟩ : ∃ m, k = m + 1 := ⟨k - 1, by omega⟩
  have c1 : ¬ (s : Int) < ((2 ^ l.length : Nat) : Int) := by omega
  simp only [impl_teams_in.l0, if_neg c1]
  simp [subsFrom]
 | succ d ih =>
  intro k s acc hs hk ha
  rw [Nat.succ_mul] at hk
  obtain ⟨k, rfl⟩ : ∃ m, k = (m + l.length + 1) + 1 := ⟨k - (l.length + 2), by omega⟩
  have c1 : (s : Int) < ((2 ^ l.length : Nat) : Int) := by omega
  have c3 : acc.length < 5864062014805 := by omega
  have ew : wrap64 ((s : Int) + 1) = ((s + 1 : Nat) : Int) := (w64 (by omega) (by omega)).trans (by omega)
  have hM := sub_len l s
  have ht : impl_areTeam.f k (Sp.subAt l s) = some (teamB (Sp.subAt l s)) := areTeam_eq _ (by omega) (by
   have : (Sp.subAt l s).length * ((Sp.subAt l s).length + 2) ≤ 10 * 12 := Nat.mul_le_mul (by omega) (by omega)
   omega)
  have e := in_loop l hl s (by omega) acc ((2 ^ l.length : Nat) : Int) l.length k 0 [] (by omega) (by simp)
  simp only [List.drop_zero, List.nil_append, Nat.pow_zero, Nat.div_one, ht, Option.bind_some, ew] at e
  have e' : impl_teams_in.l1 (k + l.length + 1) l acc (s : Int) [] ((2 ^ l.length : Nat) : Int) (s : Int) l (l.length : Int) 0 = _ := e
  simp only [impl_teams_in.l0, if_pos c1]
  rw [e', subsFrom_succ]
  by_cases h : teamB (Sp.subAt l s) = true
  ·rw [if_pos h, if_pos c3, ih k (s + 1) _ (by omega) (by omega) (by simp; omega), List.filter_cons_of_pos h, List.append_assoc, List.singleton_append]
  ·rw [if_neg h, ih k (s + 1) _ (by omega) (by omega) (by omega), List.filter_cons_of_neg h]
def teamsOf (l : List S41) : List (List S41) := (subsFrom l 0 (2 ^ l.length)).filter teamB
theorem teamsIn_eq (l : List S41) (hl : l.length ≤ 10) {k : Nat} (hk : 20000 ≤ k) : impl_teams_in.f k l = some (teamsOf l) := by
 have hp := pow_le hl
 have : 2 ^ l.length * (l.length + 2) ≤ 1024 * 12 := Nat.mul_le_mul hp (by omega)
 have e := teamsIn_loop l hl (2 ^ l.length) k 0 [] (by omega) (by omega) (by simp)
 unfold impl_teams_in.f
 rw [pow_at l.length hl]
 exact e
theorem subs_nodup (l : List S41) (hn : (idsL l).Nodup) : ((subsFrom l 0 (2 ^ l.length)).map idsL).Nodup := by
 unfold subsFrom List.Nodup
 rw [List.map_map, List.pairwise_map, List.pairwise_iff_getElem]
 intro i j hi hj hij
 have hi' : i < 2 ^ l.length := by simpa using hi
 have hj' : j < 2 ^ l.length := by simpa using hj
 simp only [Function.comp, List.getElem_range', Nat.zero_add, Nat.one_mul]
 rw [subAt_ids, subAt_ids]
 intro e
 have hz : (idsL l).length = l.length := by simp [idsL]
 have := Sp.subAt_inj (idsL l) i j hn (by rw [hz]; exact hi') (by rw [hz]; exact hj') e
 omega
theorem teams_sub (l M : List S41) (h : M ∈ teamsOf l) : M.Sublist l ∧ teamB M = true := by
 unfold teamsOf subsFrom at h
 obtain ⟨h1, h2⟩ := List.mem_filter.mp h
 obtain ⟨s, _, rfl⟩ := List.mem_map.mp h1
 exact ⟨Sp.subAt_sub l s, h2⟩
theorem teams_cond (l : List S41) (hl : l.length ≤ 10) (hn : (idsL l).Nodup) : ((teamsOf l).map idsL).Nodup ∧ (∀ M ∈ teamsOf l, M.length ≤ 1000000) ∧ (teamsOf l).length ≤ 1000000 := by
 have hp := pow_le hl
 refine ⟨?_, ?_, ?_⟩
 ·exact (subs_nodup l hn).sublist ((List.filter_sublist).map idsL)
 ·intro M hM
  have := (teams_sub l M hM).1.length_le
  omega
 ·unfold teamsOf
  refine Nat.le_trans (List.length_filter_le _ _) ?_
  unfold subsFrom
  simp; omega
theorem teams_eq (l : List S41) (hl : l.length ≤ 10) (hn : (idsL l).Nodup) {k : Nat} (hk : 20000 ≤ k) : impl_teams.f k l = some (sortT (teamsOf l)) := by
 unfold impl_teams.f
 rw [teamsIn_eq l hl hk]
 simp only [Option.bind_some]
 rw [if_pos (teams_cond l hl hn)]
theorem sortT_perm (S : List (List S41)) : (sortT S).Perm S := List.mergeSort_perm S _
def ableB (M : List S41) : Bool := decide (tripsAll M 0 ≥ 20)
theorem teamOf_eq (l : List S41) (ids : List Int) (hl : l.length ≤ 1048576) (hi : ids.length ≤ 1048576) (hM : ∀ x ∈ l, x.f1.size ≤ 1048576) : ∃ r : Bool, ∀ k, l.length * (l.length + 3) + ids.length * (ids.length + 2) + 3145800 < k → (r = false → spec_l5Asked.f k l ids = some false ∨ spec_l5Asked.f k l ids = some true ∧ spec_l5Team.f k l ids = some false) ∧ (r = true → spec_l5Asked.f k l ids = some true ∧ spec_l5Team.f k l ids = some true) ∧ (∃ M, impl_teamOf.f k l ids = some (M, r) ∧ (r = true → M = ids.map (mem l))) ∧ (r = true → allIn l ids = true ∧ skillsOk (ids.map (mem l))) := by
 obtain ⟨b, h1, h2⟩ := ask_all l ids hl hi hM
 by_cases c : (allIn l ids && goodP l && b) = true
 ·obtain ⟨hba, hg, ht⟩ := h2 c
  refine ⟨teamP (ids.map (mem l)), fun k hk => ?_⟩
  obtain ⟨e1, e2, e3⟩ := h1 k hk
  obtain ⟨e4, e5⟩ := ht k hk
  unfold impl_teamOf.f
  rw [e1, e2, e3, c, if_pos hba, hg, e4]
  simp only [Option.bind_some, if_true, e5]
  refine ⟨fun z => Or.inr (by rw [z]; simp), fun z => (by rw [z]; simp), ⟨_, rfl, fun _ => rfl⟩, fun _ => ⟨hba.2, ?_⟩⟩
  intro x hx
  obtain ⟨id, hid, rfl⟩ := List.mem_map.mp hx
  exact good_skills l hg _ (mem_in l id (by simpa using List.all_eq_true.mp hba.2 id hid)).1
 ·refine ⟨false, fun k hk => ?_⟩
  obtain ⟨e1, e2, e3⟩ := h1 k hk
  unfold impl_teamOf.f
  rw [e1, e2, e3]
  have c' : (allIn l ids && goodP l && b) = false := by revert c; cases (allIn l ids && goodP l && b) <;> simp
  refine ⟨fun _ => Or.inl (congrArg some c'), (fun z => by cases z), ?_, (fun z => by cases z)⟩
  by_cases q : goodP l = true
  ·simp only [q, Option.bind_some, if_true]
   by_cases c2 : b = true ∧ allIn l ids = true
   ·exact absurd (by rw [c2.1, c2.2, q]; rfl) c
   ·simp only [if_neg c2, Bool.false_eq_true, if_false]
    exact ⟨_, rfl, fun z => by cases z⟩
  ·simp only [q, Option.bind_some, Bool.false_eq_true, if_false]
   exact ⟨_, rfl, fun z => by cases z⟩
theorem skills_loop (M : List S41) (hM : M.length ≤ 1048576) (d : Nat) : ∀ (k i : Nat) (s t : Int), i + d = M.length → d < k → impl_skills.l0 k s t M (M.length : Int) (i : Int) = some (orAll (M.drop i) s, tripsAll (M.drop i) t) := by
 induction d with
 | zero =>
  intro k i s t hd hk
  obtain ⟨k, rfl⟩ : ∃ m, k = m + 1 := ⟨k - 1, by omega⟩
  have c1 : ¬ (i : Int) < (M.length : Int) := by omega
  simp only [impl_skills.l0, if_neg c1]
  rw [List.drop_of_length_le (by omega)]
  rfl
 | succ d ih =>
  intro k i s t hd hk
  obtain ⟨k, rfl⟩ : ∃ m, k = m + 1 := ⟨k - 1, by omega⟩
  have ew : wrap64 ((i : Int) + 1) = ((i + 1 : Nat) : Int) := (w64 (by omega) (by omega)).trans (by omega)
  have c1 : (i : Int) < (M.length : Int) := by omega
  have c2 : 0 ≤ (i : Int) := by omega
  simp only [impl_skills.l0, if_pos c1, if_pos c2, ew]
  rw [rd_T41_drop M i (by omega), ih k (i + 1) _ _ (by omega) (by omega)]
  rfl
theorem skills_sum (M : List S41) (hM : M.length ≤ 1048576) {k : Nat} (hk : M.length < k) : impl_skills.f k M = some (orAll M 0, tripsAll M 0) :=
 skills_loop M hM M.length k 0 0 0 (by omega) hk
namespace Sp
def lx : List Int → List Int → Bool
 | [], [] => false
 | [], _ :: _ => true
 | _ :: _, [] => false
 | a :: ar, b :: bs => if a = b then lx ar bs else decide (a < b)
theorem lx_irr : ∀ a, lx a a = false
 | [] => rfl
 | a :: ar => by simp [lx, lx_irr ar]
theorem lx_trans : ∀ a b c, lx a b = true → lx b c = true → lx a c = true
 | [], [], _, h, _ => by simp [lx] at h
 | [], _ :: _, [], _, h => by simp [lx] at h
 | [], _ :: _, _ :: _, _, _ => rfl
 | _ :: _, [], _, h, _ => by simp [lx] at h
 | _ :: _, _ :: _, [], _, h => by simp [lx] at h
 | a :: ar, b :: bs, c :: cs, h, g => by
  simp only [lx] at h g ⊢
  by_cases e1 : a = b
  ·by_cases e2 : b = c
   ·rw [if_pos e1] at h; rw [if_pos e2] at g; rw [if_pos (e1.trans e2)]; exact lx_trans ar bs cs h g
   ·rw [if_neg e2] at g; rw [if_neg (by rw [e1]; exact e2), e1]; exact g
  ·by_cases e2 : b = c
   ·rw [if_neg e1] at h; rw [← e2, if_neg e1]; exact h
   ·rw [if_neg e1] at h; rw [if_neg e2] at g
    have h := of_decide_eq_true h; have g := of_decide_eq_true g
    rw [if_neg (by omega)]; exact decide_eq_true (by omega)
theorem lx_asym (a b) (h : lx a b = true) : lx b a = false := by
 cases e : lx b a with
 | false => rfl
 | true => have := lx_trans a b a h e; rw [lx_irr] at this; cases this
theorem lx_total : ∀ a b, lx a b = false → lx b a = false → a = b
 | [], [], _, _ => rfl
 | [], _ :: _, h, _ => by simp [lx] at h
 | _ :: _, [], _, h => by simp [lx] at h
 | a :: ar, b :: bs, h, g => by
  simp only [lx] at h g
  by_cases e : a = b
  ·rw [if_pos e] at h; rw [if_pos e.symm] at g; rw [e, lx_total ar bs h g]
  ·rw [if_neg e] at h; rw [if_neg (Ne.symm e)] at g
   have h := of_decide_eq_false h; have g := of_decide_eq_false g; omega
def ahead (a b : List Int) : Prop := a.length < b.length ∨ (a.length = b.length ∧ lx b a = false)
def stepS (best m : List Int) : List Int := if best.length = 0 ∨ m.length < best.length ∨ (m.length = best.length ∧ lx m best = true) then m else best
def stepF (best m : List Int) : List Int := if best.length = 0 ∨ m.length < best.length then m else best
def isFirst (S : List (List Int)) (r : List Int) : Prop := r ∈ S ∧ ∀ m ∈ S, ahead r m
theorem ahead_refl (a) : ahead a a := Or.inr ⟨rfl, lx_irr a⟩
theorem ahead_trans {a b c} (h : ahead a b) (g : ahead b c) : ahead a c := by
 unfold ahead at *
 rcases h with h | ⟨h, h'⟩ <;> rcases g with g | ⟨g, g'⟩
 ·exact Or.inl (by omega)
 ·exact Or.inl (by omega)
 ·exact Or.inl (by omega)
 ·refine Or.inr ⟨h.trans g, ?_⟩
  cases e : lx c a with
  | false => rfl
  | true =>
   cases e2 : lx b c with
   | true => have := lx_trans _ _ _ e2 e; rw [h'] at this; cases this
   | false => have := lx_total _ _ g' e2; subst this; rw [h'] at e; cases e
theorem isFirst_unique {S r s} (h : isFirst S r) (g : isFirst S s) : r = s := by
 have a := h.2 s g.1; have b := g.2 r h.1
 unfold ahead at a b
 rcases a with a | ⟨a, a'⟩ <;> rcases b with b | ⟨b, b'⟩
 ·omega
 ·omega
 ·omega
 ·exact lx_total r s b' a'
theorem stepS_ahead (best m : List Int) (hb : best.length ≠ 0) : (stepS best m = best ∨ stepS best m = m) ∧ ahead (stepS best m) best ∧ ahead (stepS best m) m := by
 unfold stepS
 by_cases c : best.length = 0 ∨ m.length < best.length ∨ (m.length = best.length ∧ lx m best = true)
 ·rw [if_pos c]
  refine ⟨Or.inr rfl, ?_, ahead_refl m⟩
  rcases c with c | c | ⟨c, c'⟩
  ·exact absurd c hb
  ·exact Or.inl c
  ·exact Or.inr ⟨c, lx_asym _ _ c'⟩
 ·rw [if_neg c]
  refine ⟨Or.inl rfl, ahead_refl _, ?_⟩
  by_cases e : best.length < m.length
  ·exact Or.inl e
  ·have e2 : m.length = best.length := by omega
   refine Or.inr ⟨e2.symm, ?_⟩
   cases q : lx m best with
   | false => rfl
   | true => exact absurd (Or.inr (Or.inr ⟨e2, q⟩)) c
theorem foldS_first : ∀ (S : List (List Int)) (best : List Int), best.length ≠ 0 → (∀ m ∈ S, m.length ≠ 0) → isFirst (best :: S) (S.foldl stepS best)
 | [], best, _, _ => ⟨by simp, fun m hm => by simp at hm; rw [hm]; exact ahead_refl _⟩
 | m :: S, best, hb, hS => by
  obtain ⟨h1, h2, h3⟩ := stepS_ahead best m hb
  have hm : m.length ≠ 0 := hS m (by simp)
  have hs : (stepS best m).length ≠ 0 := by rcases h1 with h | h <;> rw [h] <;> assumption
  have ih := foldS_first S (stepS best m) hs (fun x hx => hS x (by simp [hx]))
  rw [List.foldl_cons]
  refine ⟨?_, ?_⟩
  ·have := ih.1
   rcases List.mem_cons.mp this with h | h
   ·rw [h]; rcases h1 with h | h <;> rw [h] <;> simp
   ·simp [h]
  ·intro x hx
   have h0 := ih.2 (stepS best m) (by simp)
   rcases List.mem_cons.mp hx with rfl | hx
   ·exact ahead_trans h0 h2
   rcases List.mem_cons.mp hx with rfl | hx
   ·exact ahead_trans h0 h3
   ·exact ih.2 x (by simp [hx])
theorem foldS_nil (m : List Int) : stepS [] m = m := by simp [stepS]
theorem foldF_nil (m : List Int) : stepF [] m = m := by simp [stepF]
theorem foldF_first : ∀ (S : List (List Int)) (best : List Int), best.length ≠ 0 → (∀ m ∈ S, m.length ≠ 0) → (best :: S).Pairwise (fun a b => lx b a = false) → isFirst (best :: S) (S.foldl stepF best)
 | [], best, _, _, _ => ⟨by simp, fun m hm => by simp at hm; rw [hm]; exact ahead_refl _⟩
 | m :: S, best, hb, hS, hp => by
  have hm : m.length ≠ 0 := hS m (by simp)
  rw [List.foldl_cons]
  have hp1 := List.pairwise_cons.mp hp
  have hp2 := List.pairwise_cons.mp hp1.2
  by_cases c : m.length < best.length
  ·have e : stepF best m = m := by unfold stepF; rw [if_pos (Or.inr c)]
   rw [e]
   have ih := foldF_first S m hm (fun x hx => hS x (by simp [hx])) hp1.2
   refine ⟨List.mem_cons_of_mem _ ih.1, ?_⟩
   intro x hx
   rcases List.mem_cons.mp hx with rfl | hx
   ·exact ahead_trans (ih.2 m (by simp)) (Or.inl c)
   ·exact ih.2 x hx
  ·have e : stepF best m = best := by unfold stepF; rw [if_neg (by intro h; rcases h with h | h; exact hb h; exact c h)]
   rw [e]
   have ih := foldF_first S best hb (fun x hx => hS x (by simp [hx])) (List.pairwise_cons.mpr ⟨fun x hx => hp1.1 x (by simp [hx]), hp2.2⟩)
   have hbm : ahead best m := by
    by_cases q : best.length < m.length
    ·exact Or.inl q
    ·exact Or.inr ⟨by omega, hp1.1 m (by simp)⟩
   refine ⟨?_, ?_⟩
   ·rcases List.mem_cons.mp ih.1 with h | h
    ·rw [h]; simp
    ·simp [h]
   ·intro x hx
    rcases List.mem_cons.mp hx with rfl | hx
    ·exact ih.2 _ (by simp)
    rcases List.mem_cons.mp hx with rfl | hx
    ·exact ahead_trans (ih.2 best (by simp)) hbm
    ·exact ih.2 x (by simp [hx])
theorem first_eq (S T : List (List Int)) (hp : S.Perm T) (hS : ∀ m ∈ S, m.length ≠ 0) (hT : T.Pairwise (fun a b => lx b a = false)) : S.foldl stepS [] = T.foldl stepF [] := by
 cases S with
 | nil => have := hp.nil_eq; subst this; rfl
 | cons s S =>
  cases T with
  | nil => exact absurd hp.length_eq (by simp)
  | cons t T =>
   rw [List.foldl_cons, List.foldl_cons, foldS_nil, foldF_nil]
   have hT' : ∀ m ∈ t :: T, m.length ≠ 0 := fun m hm => hS m (hp.mem_iff.mpr hm)
   have a := foldS_first S s (hS s (by simp)) (fun m hm => hS m (by simp [hm]))
   have b := foldF_first T t (hT' t (by simp)) (fun m hm => hT' m (by simp [hm])) hT
   refine isFirst_unique a ⟨hp.mem_iff.mpr b.1, fun m hm => b.2 m (hp.mem_iff.mp hm)⟩
def stepL {β : Type} (key : β → List Int) (best : Option β) (m : β) : Option β := match best with
 | none => some m
 | some b => if lx (key m) (key b) = true then some m else some b
def isLeast {β : Type} (key : β → List Int) (S : List β) (r : β) : Prop := r ∈ S ∧ ∀ m ∈ S, lx (key m) (key r) = false
end Sp
theorem lx_lxL : ∀ a b, Sp.lx a b = lxL a b
 | [], [] => rfl
 | [], _ :: _ => rfl
 | _ :: _, [] => rfl
 | a :: r, b :: t => by simp only [Sp.lx, lxL, lx_lxL r t]
theorem sortT_sorted (S : List (List S41)) : (sortT S).Pairwise (fun a b => lxL (idsL b) (idsL a) = false) := by
 have h := List.pairwise_mergeSort (le := fun x y : List S41 => !lxL (idsL y) (idsL x)) ?_ ?_ S
 ·exact h.imp (fun {a b} h => by simpa using h)
 ·intro a b c h g
  simp only [Bool.not_eq_true', Bool.not_eq_eq_eq_not, Bool.not_true] at h g ⊢
  exact lxL_ntrans g h
 ·intro a b
  cases h : lxL (idsL b) (idsL a) with
  | false => simp
  | true =>
   have : lxL (idsL a) (idsL b) = false := by
    cases e : lxL (idsL a) (idsL b) with
    | false => rfl
    | true => have := lxL_trans _ _ _ e h; rw [lxL_irr] at this; cases this
   simp [this]
theorem less_loop (a b : List Int) (ha : a.length ≤ 1000000) (hb : b.length ≤ 1000000) (d : Nat) : ∀ (k i : Nat), i + d = a.length → 2 * d + 3 ≤ k → spec_l5Less.l0 k a b (i : Int) = some (lxL (a.drop i) (b.drop i)) := by
 induction d with
 | zero =>
  intro k i hi hk
  obtain ⟨k, rfl⟩ : ∃ m, k = m + 2 := ⟨k - 2, by omega⟩
  have c1 : ¬ (i : Int) < (a.length : Int) := by omega
  simp only [spec_l5Less.l0, if_neg c1, spec_l5Less.j1, Bool.false_eq_true, if_false]
  rw [List.drop_of_length_le (l := a) (by omega)]
  by_cases h : (a.length : Int) < (b.length : Int)
  ·rw [decide_eq_true h, List.drop_eq_getElem_cons (show i < b.length by omega)]
   rfl
  ·rw [decide_eq_false h, List.drop_of_length_le (l := b) (by omega)]
   rfl
 | succ d ih =>
  intro k i hi hk
  obtain ⟨k, rfl⟩ : ∃ m, k = m + 2 := ⟨k - 2, by omega⟩
  have hai : i < a.length := by omega
  have c1 : (i : Int) < (a.length : Int) := by omega
  have c2 : 0 ≤ (i : Int) := by omega
  have ew : wrap64 ((i : Int) + 1) = ((i + 1 : Nat) : Int) := (w64 (by omega) (by omega)).trans (by omega)
  have ea : rd a (i : Int) = a[i] := by simp [rd, hai]
  have ih := ih k (i + 1) (by omega) (by omega)
  rw [List.drop_eq_getElem_cons hai]
  simp only [spec_l5Less.l0, if_pos c1, spec_l5Less.j1]
  by_cases h : (i : Int) < (b.length : Int)
  ·have hbi : i < b.length := by omega
   have eb : rd b (i : Int) = b[i] := by simp [rd, hbi]
   rw [decide_eq_true h, if_pos rfl, if_pos c2, if_pos h, ea, eb, ew, ih, List.drop_eq_getElem_cons hbi]
   simp only [lxL]
   by_cases e : a[i] = b[i]
   ·rw [if_pos e, if_pos e]
   ·rw [if_neg e, if_neg e]
  ·have h2 : ¬ (a.length : Int) < (b.length : Int) := by omega
   rw [decide_eq_false h, if_neg (by simp), decide_eq_false h2, List.drop_of_length_le (l := b) (by omega)]
   rfl
theorem less_eq (a b : List Int) (ha : a.length ≤ 1000000) (hb : b.length ≤ 1000000) {k : Nat} (hk : 2 * a.length + 3 ≤ k) : spec_l5Less.f k a b = some (lxL a b) := by
 have := less_loop a b ha hb a.length k 0 (by omega) hk
 unfold spec_l5Less.f
 simpa using this
def servesB (need : Int) (M : List S41) : Bool := decide (Go.bits .and .i64 (orAll M 0) need = need) && ableB M
theorem implSmall_loop (need : Int) (k : Nat) (hk : 20 ≤ k) : ∀ (T : List (List S41)) (b : List Int), (∀ M ∈ T, M.length ≠ 0 ∧ M.length ≤ 10) → smallL k need T b = some (((T.filter (servesB need)).map idsL).foldl Sp.stepF b, !(((T.filter (servesB need)).map idsL).foldl Sp.stepF b).isEmpty)
 | [], b, _ => rfl
 | M :: T, b, h => by
  obtain ⟨h0, h1⟩ := h M (List.mem_cons_self ..)
  have ih := fun b => implSmall_loop need k hk T b (fun M hM => h M (List.mem_cons_of_mem _ hM))
  have hz : (idsL M).length = M.length := by simp [idsL]
  simp only [smallL, if_neg h0, skills_sum M (by omega) (show M.length < k by omega), Option.bind_some]
  by_cases c1 : Go.bits .and .i64 (orAll M 0) need = need
  ·rw [if_pos c1]
   by_cases c2 : 20 ≤ tripsAll M 0
   ·have hs : servesB need M = true := by unfold servesB ableB; rw [decide_eq_true c1, decide_eq_true c2]; rfl
    rw [if_pos c2, List.filter_cons_of_pos hs, List.map_cons, List.foldl_cons]
    by_cases c3 : b = [] ∨ M.length < b.length
    ·have hst : Sp.stepF b (idsL M) = idsL M := by
      unfold Sp.stepF
      rw [if_pos]
      rcases c3 with c3 | c3
      ·left; rw [c3]; rfl
      ·right; rw [hz]; exact c3
     rw [if_pos c3, if_pos (by omega), ih, hst]
    ·have hst : Sp.stepF b (idsL M) = b := by
      unfold Sp.stepF
      rw [if_neg]
      rintro (q | q)
      ·exact c3 (.inl (List.eq_nil_of_length_eq_zero q))
      ·rw [hz] at q; exact c3 (.inr q)
     rw [if_neg c3, ih, hst]
   ·have hs : ¬ servesB need M = true := by unfold servesB ableB; rw [show decide (tripsAll M 0 ≥ 20) = false from decide_eq_false c2]; simp
    rw [if_neg c2, List.filter_cons_of_neg hs, ih]
  ·have hs : ¬ servesB need M = true := by unfold servesB; rw [decide_eq_false c1]; simp
   rw [if_neg c1, List.filter_cons_of_neg hs, ih]
theorem specSmall_loop (l : List S41) (need : Int) (hg : goodP l = true) (d : Nat) : ∀ (k s : Nat) (b : List Int), s + d = 2 ^ l.length → 2 * d + 100 ≤ k → b.length ≤ 10 →
  spec_SmallestTeam.l0 k l need b (s : Int) = some ((((subsFrom l s d).filter (fun M => servesB need M && teamB M)).map idsL).foldl Sp.stepS b, decide (0 < ((((subsFrom l s d).filter (fun M => servesB need M && teamB M)).map idsL).foldl Sp.stepS b).length)) := by
 have hl := good_len l hg
 have hp := pow_le hl
 induction d with
 | zero =>
  intro k s b hs hk _
  obtain ⟨k, rfl⟩ : ∃ m, k = m + 1 := ⟨k - 1, by omega⟩
  have c0 : 0 ≤ (l.length : Int) := by omega
  have c1 : ¬ (s : Int) < ((2 ^ l.length : Nat) : Int) := by omega
  simp only [spec_SmallestTeam.l0, u64_at l.length (by omega), if_pos c0, pow_at l.length hl, if_neg c1]
  simp [subsFrom]
 | succ d ih =>
  intro k s b hs hk hb
  obtain ⟨K, rfl⟩ : ∃ m, k = m + 1 := ⟨k - 1, by omega⟩
  obtain ⟨k, hK⟩ : ∃ m, K = m + 1 := ⟨K - 1, by omega⟩
  have c0 : 0 ≤ (l.length : Int) := by omega
  have c1 : (s : Int) < ((2 ^ l.length : Nat) : Int) := by omega
  have ew : wrap64 ((s : Int) + 1) = ((s + 1 : Nat) : Int) := (w64 (by omega) (by omega)).trans (by omega)
  have hsub := Sp.subAt_sub l s
  have hlen := sub_len l s
  have hz : (idsL (Sp.subAt l s)).length = (Sp.subAt l s).length := by simp [idsL]
  obtain ⟨h1, h2⟩ := ids_back l _ (good_ids l hg) hsub
  have ht := team_eq l (idsL (Sp.subAt l s)) (by omega) (by omega) h2 (k := K) (by omega)
  have hal := all_eq l (idsL (Sp.subAt l s)) (by omega) (by omega) h2 (k := K) (by omega)
  rw [h1] at ht hal
  rw [teamP_B l _ hg hsub] at ht
  have ih1 := fun b hb => ih K (s + 1) b (by omega) (by omega) hb
  have ih2 := fun b hb => ih k (s + 1) b (by omega) (by omega) hb
  simp only [spec_SmallestTeam.l0, u64_at l.length (by omega), if_pos c0, pow_at l.length hl, if_pos c1, members_eq l hl s (by omega) (show l.length < K by omega), Option.bind_some, ht, hal]
  rw [subsFrom_succ]
  subst hK
  cases h : teamB (Sp.subAt l s) with
  | false =>
   rw [if_neg (by simp), List.filter_cons_of_neg (p := fun M => servesB need M && teamB M) (a := Sp.subAt l s) (by simp [h]), ew, ih1 b hb]
  | true =>
   rw [if_pos rfl]
   by_cases d1 : Go.bits .and .i64 (orAll (Sp.subAt l s) 0) need = need
   ·rw [if_pos d1]
    by_cases d2 : tripsAll (Sp.subAt l s) 0 < 20
    ·have hs' : ¬ (servesB need (Sp.subAt l s) && teamB (Sp.subAt l s)) = true := by unfold servesB ableB; rw [show decide (tripsAll (Sp.subAt l s) 0 ≥ 20) = false from decide_eq_false (by omega)]; simp
     rw [decide_eq_true d2]
     simp only [spec_SmallestTeam.j2, if_true, ew]
     rw [List.filter_cons_of_neg (p := fun M => servesB need M && teamB M) (a := Sp.subAt l s) hs', ih2 b hb]
    ·have hs' : (servesB need (Sp.subAt l s) && teamB (Sp.subAt l s)) = true := by unfold servesB ableB; rw [decide_eq_true d1, show decide (tripsAll (Sp.subAt l s) 0 ≥ 20) = true from decide_eq_true (by omega), h]; rfl
     rw [decide_eq_false d2, List.filter_cons_of_pos (p := fun M => servesB need M && teamB M) (a := Sp.subAt l s) hs', List.map_cons, List.foldl_cons]
     simp only [spec_SmallestTeam.j2, Bool.false_eq_true, if_false, ew]
     by_cases e1 : (b.length : Int) = 0
     ·have hst : Sp.stepS b (idsL (Sp.subAt l s)) = idsL (Sp.subAt l s) := by unfold Sp.stepS; rw [if_pos (.inl (by omega))]
      rw [if_pos e1, ih2 _ (by omega), hst]
     ·rw [if_neg e1]
      by_cases e2 : ((idsL (Sp.subAt l s)).length : Int) < (b.length : Int)
      ·have hst : Sp.stepS b (idsL (Sp.subAt l s)) = idsL (Sp.subAt l s) := by unfold Sp.stepS; rw [if_pos (.inr (.inl (by omega)))]
       rw [if_pos e2, ih2 _ (by omega), hst]
      ·rw [if_neg e2]
       by_cases e3 : ((idsL (Sp.subAt l s)).length : Int) = (b.length : Int)
       ·rw [if_pos e3, less_eq _ _ (by omega) (by omega) (show 2 * (idsL (Sp.subAt l s)).length + 3 ≤ k by omega)]
        simp only [Option.bind_some]
        cases e4 : lxL (idsL (Sp.subAt l s)) b with
        | true =>
         have hst : Sp.stepS b (idsL (Sp.subAt l s)) = idsL (Sp.subAt l s) := by unfold Sp.stepS; rw [if_pos (.inr (.inr ⟨by omega, by rw [lx_lxL]; exact e4⟩))]
         rw [if_pos rfl, ih2 _ (by omega), hst]
        | false =>
         have hst : Sp.stepS b (idsL (Sp.subAt l s)) = b := by
          unfold Sp.stepS
          rw [if_neg]
          rintro (q | q | ⟨_, q⟩)
          ·omega
          ·omega
          ·rw [lx_lxL, e4] at q; cases q
         rw [if_neg (by simp), ih2 _ hb, hst]
       ·have hst : Sp.stepS b (idsL (Sp.subAt l s)) = b := by
         unfold Sp.stepS
         rw [if_neg]
         rintro (q | q | ⟨q, _⟩) <;> omega
        rw [if_neg e3, ih2 _ hb, hst]
   ·have hs' : ¬ (servesB need (Sp.subAt l s) && teamB (Sp.subAt l s)) = true := by unfold servesB; rw [decide_eq_false d1]; simp
    rw [if_neg d1]
    simp only [spec_SmallestTeam.j2, if_true, ew]
    rw [List.filter_cons_of_neg (p := fun M => servesB need M && teamB M) (a := Sp.subAt l s) hs', ih2 b hb]
theorem stepS_len (n : Nat) : ∀ (S : List (List Int)) (b : List Int), b.length ≤ n → (∀ m ∈ S, m.length ≤ n) → (S.foldl Sp.stepS b).length ≤ n
 | [], b, h, _ => h
 | m :: S, b, h, hS => by
  rw [List.foldl_cons]
  refine stepS_len n S _ ?_ (fun x hx => hS x (List.mem_cons_of_mem _ hx))
  unfold Sp.stepS
  split
  ·exact hS m (List.mem_cons_self ..)
  ·exact h
theorem set_to {α : Type} (m r : List α) (i n : Nat) (hm : m.length = n) (hr : r.length = n) (hi : i < n) :
  (m.take i ++ r.drop i).set i (m[i]'(by omega)) = m.take (i + 1) ++ r.drop (i + 1) := by
 have e1 : r.drop i = r[i]'(by omega) :: r.drop (i + 1) := List.drop_eq_getElem_cons (by omega)
 have e2 : (m.take i).length = i := by simp; omega
 rw [List.set_append_right _ _ (by omega), e2, Nat.sub_self, e1, List.set_cons_zero, List.take_succ_eq_append_getElem (by omega), List.append_assoc]
 rfl
theorem has_loop (l : List Int) (id : Int) (hl : l.length ≤ 1048576) (d : Nat) : ∀ (k i : Nat), i + d = l.length → d < k → spec_l1Has.l0 k l id (i : Int) = some (decide (id ∈ l.drop i)) ∧ ∃ v, slices_Index_int_int.l0 k l id (l.length : Int) (i : Int) = some v ∧ (v ≥ 0 ↔ id ∈ l.drop i) := by
 induction d with
 | zero =>
  intro k i hd hk
  obtain ⟨k, rfl⟩ : ∃ m, k = m + 1 := ⟨k - 1, by omega⟩
  have c1 : ¬ (i : Int) < (l.length : Int) := by omega
  simp only [spec_l1Has.l0, slices_Index_int_int.l0, if_neg c1]
  rw [List.drop_of_length_le (by omega)]
  exact ⟨by simp, -1, rfl, by simp⟩
 | succ d ih =>
  intro k i hd hk
  obtain ⟨k, rfl⟩ : ∃ m, k = m + 1 := ⟨k - 1, by omega⟩
  have ew : wrap64 ((i : Int) + 1) = ((i + 1 : Nat) : Int) := (w64 (by omega) (by omega)).trans (by omega)
  have c1 : (i : Int) < (l.length : Int) := by omega
  have c2 : 0 ≤ (i : Int) := by omega
  have hd2 := ids_drop l i (by omega)
  have ih := ih k (i + 1) (by omega) (by omega)
  simp only [spec_l1Has.l0, slices_Index_int_int.l0, if_pos c1, if_pos c2, ew]
  rw [hd2]
  by_cases h : rd l (i : Int) = id
  ·rw [if_pos h, if_pos h.symm]
   exact ⟨by simp [h], _, rfl, by simp [h]⟩
  ·rw [if_neg h, if_neg (fun z => h z.symm)]
   have h' : ¬ id = rd l (i : Int) := fun z => h z.symm
   simp only [List.mem_cons, h', false_or]
   exact ih
theorem specHas_eq (l : List Int) (id : Int) (hl : l.length ≤ 1048576) {k : Nat} (hk : l.length < k) : spec_l1Has.f k l id = some (decide (id ∈ l)) := by
 have h := (has_loop l id hl l.length k 0 (by omega) hk).1
 exact h
theorem implHas_eq (l : List Int) (id : Int) (hl : l.length ≤ 1048576) {k : Nat} (hk : l.length < k) : impl_has.f k l id = some (decide (id ∈ l)) := by
 obtain ⟨v, h, hv⟩ := (has_loop l id hl l.length k 0 (by omega) hk).2
 rw [List.drop_zero] at hv
 unfold impl_has.f slices_Contains_int_int.f slices_Index_int_int.f
 have h' : slices_Index_int_int.l0 k l id (l.length : Int) 0 = some v := h
 rw [h']
 simp only [Option.bind_some]
 exact congrArg some (decide_eq_decide.mpr hv)
def bump (team : List Int) (p : S41) : S41 := if p.f0 ∈ team then ⟨p.f0, p.f1, p.f2, wrap64 (p.f3 + 1)⟩ else p
theorem trip_loop (l : List S41) (team : List Int) (g : Bool) (K : Nat) (hl : l.length ≤ 1048576) (ht : team.length ≤ 1048576) (hg : ∀ k, K < k → spec_l5Good.f k (l.map (bump team)) = some g ∧ impl_ArePeople.f k (l.map (bump team)) = some g) (hK : team.length ≤ K) (d : Nat) : ∀ (k i : Nat), i + d = l.length → d + K + 1 < k →
  spec_GoOnTrip.l0 k team ((l.map (bump team)).take i ++ l.drop i) (i : Int) = some (if g = true then (l.map (bump team), true) else ([], false)) ∧ impl_GoOnTrip.l0 k team ((l.map (bump team)).take i ++ l.drop i) (l.length : Int) (i : Int) = some (if g = true then (l.map (bump team), true) else ([], false)) := by
 have hB : (l.map (bump team)).length = l.length := by simp
 induction d with
 | zero =>
  intro k i hd hk
  obtain ⟨k, rfl⟩ : ∃ m, k = m + 1 := ⟨k - 1, by omega⟩
  have e : i = l.length := by omega
  have es : (l.map (bump team)).take i ++ l.drop i = l.map (bump team) := by
   rw [List.take_of_length_le (by omega), List.drop_of_length_le (by omega), List.append_nil]
  rw [es]
  have c1 : ¬ (i : Int) < ((l.map (bump team)).length : Int) := by omega
  have c2 : ¬ (i : Int) < (l.length : Int) := by omega
  obtain ⟨g1, g2⟩ := hg k (by omega)
  simp only [spec_GoOnTrip.l0, impl_GoOnTrip.l0, if_neg c1, if_neg c2, g1, g2, Option.bind_some]
  cases g
  ·exact ⟨rfl, rfl⟩
  ·exact ⟨rfl, rfl⟩
 | succ d ih =>
  intro k i hd hk
  obtain ⟨k, rfl⟩ : ∃ m, k = m + 1 := ⟨k - 1, by omega⟩
  have hi : i < l.length := by omega
  have hlen : ((l.map (bump team)).take i ++ l.drop i).length = l.length := by simp; omega
  have ew : wrap64 ((i : Int) + 1) = ((i + 1 : Nat) : Int) := (w64 (by omega) (by omega)).trans (by omega)
  have c1 : (i : Int) < (((l.map (bump team)).take i ++ l.drop i).length : Int) := by omega
  have c2 : 0 ≤ (i : Int) := by omega
  have c3 : (i : Int) < (l.length : Int) := by omega
  have es := set_to (l.map (bump team)) l i l.length hB rfl hi
  rw [List.getElem_map] at es
  have hg' : ((l.map (bump team)).take i ++ l.drop i)[i]'(by omega) = l[i] := by
   rw [List.getElem_append_right (by simp; omega)]
   simp [show i - min i l.length = 0 by omega]
  have er : rd_T41 ((l.map (bump team)).take i ++ l.drop i) (i : Int) = l[i] := by
   unfold rd_T41
   rw [Int.toNat_natCast, List.getD_eq_getElem?_getD, List.getElem?_eq_getElem (by omega), Option.getD_some, hg']
  have ih := ih k (i + 1) (by omega) (by omega)
  rw [← es] at ih
  simp only [spec_GoOnTrip.l0, impl_GoOnTrip.l0, if_pos c1, if_pos c2, if_pos c3, er, specHas_eq team _ ht (show team.length < k by omega), implHas_eq team _ ht (show team.length < k by omega), Option.bind_some, ew, Int.toNat_natCast]
  by_cases h : l[i].f0 ∈ team
  ·have eb : bump team l[i] = ⟨l[i].f0, l[i].f1, l[i].f2, wrap64 (l[i].f3 + 1)⟩ := by unfold bump; rw [if_pos h]
   rw [eb] at ih
   simp only [decide_eq_true h, if_true]
   exact ih
  ·have eb : bump team l[i] = l[i] := by unfold bump; rw [if_neg h]
   rw [eb] at ih
   simp only [decide_eq_false h, Bool.false_eq_true, if_false]
   refine ⟨ih.1, ?_⟩
   have e2 : ((l.map (bump team)).take i ++ l.drop i).set i l[i] = (l.map (bump team)).take i ++ l.drop i := by
    rw [← hg']
    exact List.set_getElem_self (by omega)
   have ih2 := ih.2
   rw [e2] at ih2
   exact ih2
theorem rInts_loop (l : List Int) (hl : l.length ≤ 140737488351232) (d : Nat) : ∀ (k i : Nat), i + d = l.length → d < k → laws_rInts.l0 k l l (i : Int) = some true := by
 induction d with
 | zero =>
  intro k i hd hk
  obtain ⟨k, rfl⟩ : ∃ m, k = m + 1 := ⟨k - 1, by omega⟩
  simp only [laws_rInts.l0]
  rw [if_neg (by omega)]
 | succ d ih =>
  intro k i hd hk
  obtain ⟨k, rfl⟩ : ∃ m, k = m + 1 := ⟨k - 1, by omega⟩
  have ew : wrap64 ((i : Int) + 1) = ((i + 1 : Nat) : Int) := (w64 (by omega) (by omega)).trans (by omega)
  have c1 : (i : Int) < (l.length : Int) := by omega
  have c2 : 0 ≤ (i : Int) := by omega
  simp only [laws_rInts.l0, if_pos c1, if_pos c2, if_true, ew]
  exact ih k (i + 1) (by omega) (by omega)
theorem rInts_eq (l : List Int) (hl : l.length ≤ 140737488351232) {k : Nat} (hk : l.length < k) : laws_rInts.f k l l = some true := by
 unfold laws_rInts.f
 rw [if_pos rfl]
 exact rInts_loop l hl l.length k 0 (by omega) hk
theorem rd_u8 {l : List Int} (hl : ∀ y ∈ l, (Lit.int .u8 y).wf = true) (i : Int) : 0 ≤ rd l i ∧ rd l i ≤ 255 := by
 unfold rd
 rw [List.getD_eq_getElem?_getD]
 cases e : l[i.toNat]? with
 | none => simp
 | some x =>
  have h := hl x (List.mem_of_getElem? e)
  simp only [Lit.wf, Bool.and_eq_true, decide_eq_true_eq] at h
  have h2 : 0 ≤ x ∧ x ≤ 255 := h
  simpa using h2
theorem and_255 (x : Int) (h0 : 0 ≤ x) (h1 : x < 18446744073709551616) : 0 ≤ Go.bits .and .u64 x 255 ∧ Go.bits .and .u64 x 255 ≤ 255 := by
 have h := bits_and_u64_nat x.toNat 255 (by omega) (by omega)
 have e : ((x.toNat : Nat) : Int) = x := Int.toNat_of_nonneg h0
 rw [e] at h
 have e2 : ((255 : Nat) : Int) = 255 := rfl
 rw [e2] at h
 rw [h]
 have := Nat.and_le_right (n := x.toNat) (m := 255)
 omega
def Pl (p : Int) : Prop := 0 ≤ p ∧ p ≤ 1000000
theorem u64_bound (x : Int) : 0 ≤ IntKind.u64.wrap x ∧ IntKind.u64.wrap x < 18446744073709551616 := by
 have e : IntKind.u64.wrap x = x % 18446744073709551616 := rfl
 rw [e]
 omega
theorem next_ok {l : List Int} (hl : ∀ y ∈ l, (Lit.int .u8 y).wf = true) (p q : Int) (h0 : 0 ≤ p) (h1 : p ≤ 1000000) : ∃ v p' q', spec_l1Cur_next.f l p q = some (v, p', q') ∧ 0 ≤ v ∧ v ≤ 255 ∧ 0 ≤ p' ∧ p' ≤ p + 1 := by
 have ep : wrap64 (p + 1) = p + 1 := w64 (by omega) (by omega)
 have hd : ∀ x : Int, 0 ≤ wrap64 (Go.bits .and .u64 (IntKind.u64.wrap x / 1099511627776) 255) ∧ wrap64 (Go.bits .and .u64 (IntKind.u64.wrap x / 1099511627776) 255) ≤ 255 := by
  intro x
  have hb := u64_bound x
  have h := and_255 (IntKind.u64.wrap x / 1099511627776) (by omega) (by omega)
  rw [w64 (by omega) (by omega)]
  exact h
 unfold spec_l1Cur_next.f
 rw [ep]
 have hr := rd_u8 hl p
 have er : wrap64 (rd l p) = rd l p := w64 (by omega) (by omega)
 by_cases c : p < (l.length : Int)
 ·have c2 : p + 1 ≤ (l.length : Int) := by omega
  simp only [if_pos c, if_pos h0, if_pos c2]
  exact ⟨_, _, _, rfl, by rw [er]; exact hr.1, by rw [er]; exact hr.2, by omega, by omega⟩
 ·have c2 : ¬ p + 1 ≤ (l.length : Int) := by omega
  simp only [if_neg c, if_neg c2]
  exact ⟨_, _, _, rfl, (hd _).1, (hd _).2, by omega, by omega⟩
theorem pick_ok {l : List Int} (hl : ∀ y ∈ l, (Lit.int .u8 y).wf = true) (p q n : Int) (h0 : 0 ≤ p) (h1 : p ≤ 900000) (hn : 1 ≤ n) (hn1 : n ≤ 1000000) : ∃ v p' q', spec_l1Cur_pick.f l p q n = some (v, p', q') ∧ 0 ≤ v ∧ v < n ∧ 0 ≤ p' ∧ p' ≤ p + 2 := by
 unfold spec_l1Cur_pick.f
 by_cases c : n ≤ 1
 ·rw [if_pos c]
  exact ⟨_, _, _, rfl, by omega, by omega, by omega, by omega⟩
 ·have cz : ¬ n = 0 := by omega
  obtain ⟨v, p1, q1, e1, a1, a2, a3, a4⟩ := next_ok hl p q h0 (by omega)
  rw [if_neg c, e1]
  simp only [Option.bind_some, if_neg cz]
  by_cases c2 : n > 200
  ·obtain ⟨v2, p2, q2, e2, b1, b2, b3, b4⟩ := next_ok hl p1 q1 a3 (by omega)
   rw [if_pos c2, e2]
   simp only [Option.bind_some]
   rw [w64 (x := v * 256) (by omega) (by omega), w64 (x := v * 256 + v2) (by omega) (by omega), Int.tmod_eq_emod_of_nonneg (by omega)]
   exact ⟨_, _, _, rfl, Int.emod_nonneg _ cz, Int.emod_lt_of_pos _ (by omega), by omega, by omega⟩
  ·rw [if_neg c2, Int.tmod_eq_emod_of_nonneg (by omega)]
   exact ⟨_, _, _, rfl, Int.emod_nonneg _ cz, Int.emod_lt_of_pos _ (by omega), by omega, by omega⟩
theorem among_ok {l : List Int} (hl : ∀ y ∈ l, (Lit.int .u8 y).wf = true) (p q : Int) (xs : List Int) (h0 : 0 ≤ p) (h1 : p ≤ 900000) (hx : 1 ≤ xs.length) (hx1 : xs.length ≤ 1000000) {P : Int → Prop} (hP : ∀ x ∈ xs, P x) : ∃ v p' q', spec_l1Cur_among.f l p q xs = some (v, p', q') ∧ P v ∧ 0 ≤ p' ∧ p' ≤ p + 2 := by
 obtain ⟨v, p1, q1, e1, a1, a2, a3, a4⟩ := pick_ok hl p q (xs.length : Int) h0 h1 (by omega) (by omega)
 unfold spec_l1Cur_among.f
 rw [e1]
 simp only [Option.bind_some]
 rw [if_pos a1, if_pos a2]
 refine ⟨_, _, _, rfl, ?_, a3, a4⟩
 have hv : v.toNat < xs.length := by omega
 have e : rd xs v = xs[v.toNat] := by unfold rd; rw [List.getD_eq_getElem?_getD, List.getElem?_eq_getElem hv]; rfl
 rw [e]
 exact hP _ (List.getElem_mem hv)
theorem one_ok {l : List Int} (hl : ∀ y ∈ l, (Lit.int .u8 y).wf = true) (p q n : Int) (h0 : 0 ≤ p) (h1 : p ≤ 900000) (hn : 1 ≤ n) (hn1 : n ≤ 1000000) : ∃ b p' q', spec_l1Cur_one.f l p q n = some (b, p', q') ∧ 0 ≤ p' ∧ p' ≤ p + 2 := by
 obtain ⟨v, p1, q1, e1, a1, a2, a3, a4⟩ := pick_ok hl p q n h0 h1 hn hn1
 unfold spec_l1Cur_one.f
 rw [e1]
 exact ⟨_, _, _, rfl, a3, a4⟩
theorem of_ok {l : List Int} (hl : ∀ y ∈ l, (Lit.int .u8 y).wf = true) (p q : Int) (xs : List ByteArray) (h0 : 0 ≤ p) (h1 : p ≤ 900000) (hx : 1 ≤ xs.length) (hx1 : xs.length ≤ 1000000) {P : ByteArray → Prop} (hP : ∀ x ∈ xs, P x) : ∃ s p' q', spec_l1Cur_of.f l p q xs = some (s, p', q') ∧ P s ∧ 0 ≤ p' ∧ p' ≤ p + 2 := by
 obtain ⟨v, p1, q1, e1, a1, a2, a3, a4⟩ := pick_ok hl p q (xs.length : Int) h0 h1 (by omega) (by omega)
 unfold spec_l1Cur_of.f
 rw [e1]
 simp only [Option.bind_some]
 rw [if_pos a1, if_pos a2]
 refine ⟨_, _, _, rfl, hP _ ?_, a3, a4⟩
 have hlt : v.toNat < xs.length := by omega
 have e : rdOf ByteArray.empty xs v = xs[v.toNat] := by simp [rdOf, hlt]
 rw [e]
 exact List.getElem_mem hlt
theorem strOfNums_one (n : Int) : (strOfNums [n]).size = 1 := by simp [strOfNums, ByteArray.size]
theorem skills_ok {l : List Int} (hw : ∀ y ∈ l, (Lit.int .u8 y).wf = true) (p q : Int) (h0 : 0 ≤ p) (h1 : p ≤ 850000) : ∃ v p' q', spec_l1Cur_skills.f l p q = some (v, p', q') ∧ 0 ≤ p' ∧ p' ≤ p + 4 := by
 unfold spec_l1Cur_skills.f
 obtain ⟨v, p1, q1, e1, a1, a2, a3, a4⟩ := pick_ok hw p q 24 h0 (by omega) (by omega) (by omega)
 rw [e1]
 simp only [Option.bind_some]
 rw [if_pos ⟨a1, a2⟩]
 have ht : Int.tdiv v 11 = v / 11 := Int.tdiv_eq_ediv_of_nonneg a1
 have hn : 7 ≤ (7 + Int.tdiv v 11).toNat := by rw [ht]; omega
 have hl2 : (([0, 1, 3, 4, 7, 8, 15, -1, 16] : List Int).take (7 + Int.tdiv v 11).toNat).length = min (7 + Int.tdiv v 11).toNat 9 := by rw [List.length_take]; rfl
 obtain ⟨v2, p2, q2, e2, b1, b2, b3⟩ := among_ok hw p1 q1 (([0, 1, 3, 4, 7, 8, 15, -1, 16] : List Int).take (7 + Int.tdiv v 11).toNat) a3 (by omega) (by rw [hl2]; omega) (by rw [hl2]; omega) (P := fun _ => True) (fun _ _ => trivial)
 exact ⟨v2, p2, q2, e2, b2, by omega⟩
def shortN (o : List S41) : Prop := ∀ x ∈ o, x.f1.size ≤ 11
theorem shortN_snoc {o : List S41} (h : shortN o) (x : S41) (hx : x.f1.size ≤ 11) : shortN (o ++ [x]) := by
 intro y hy
 rcases List.mem_append.mp hy with hy | hy
 ·exact h y hy
 ·rw [List.mem_singleton.mp hy]; exact hx
theorem shortN_set {o : List S41} (h : shortN o) (i : Nat) (x : S41) (hx : x.f1.size ≤ 11) : shortN (o.set i x) := by
 intro y hy
 rcases List.mem_or_eq_of_mem_set hy with hy | hy
 ·exact h y hy
 ·rw [hy]; exact hx
theorem rd_short {o : List S41} (h : shortN o) (i : Int) : (rd_T41 o i).f1.size ≤ 11 := by
 unfold rd_T41
 rw [List.getD_eq_getElem?_getD]
 cases e : o[i.toNat]? with
 | none => simp [z41, ByteArray.size]
 | some x => exact h x (List.mem_of_getElem? e)
theorem rdOf_short (o : List ByteArray) (h : ∀ x ∈ o, x.size ≤ 11) (i : Int) : (rdOf ByteArray.empty o i).size ≤ 11 := by
 unfold rdOf
 rw [List.getD_eq_getElem?_getD]
 cases e : o[i.toNat]? with
 | none => simp
 | some x => exact h x (List.mem_of_getElem? e)
theorem peo1_ok {l : List Int} (hw : ∀ y ∈ l, (Lit.int .u8 y).wf = true) (d : Nat) : ∀ (k i : Nat) (o : List S41) (p q : Int), 0 ≤ p → p + 2 * d ≤ 800000 → i + d = 11 → o.length = i → shortN o → d < k →
  ∃ r p' q', spec_l1Cur_people.l1 k o (i : Int) l p q = some (r, p', q') ∧ r.length ≤ 11 ∧ shortN r ∧ 0 ≤ p' ∧ p' ≤ p + 2 * d + 2 := by
 induction d with
 | zero =>
  intro k i o p q h0 h1 h2 h3 h4 hk
  obtain ⟨k, rfl⟩ : ∃ m, k = m + 1 := ⟨k - 1, by omega⟩
  obtain ⟨v, p1, q1, e1, a1, a2, a3, a4⟩ := pick_ok hw p q 2 h0 (by omega) (by omega) (by omega)
  simp only [spec_l1Cur_people.l1, e1, Option.bind_some]
  rw [w64 (x := 10 + v) (by omega) (by omega), if_neg (by omega)]
  exact ⟨_, _, _, rfl, by omega, h4, a3, by omega⟩
 | succ d ih =>
  intro k i o p q h0 h1 h2 h3 h4 hk
  obtain ⟨k, rfl⟩ : ∃ m, k = m + 1 := ⟨k - 1, by omega⟩
  obtain ⟨v, p1, q1, e1, a1, a2, a3, a4⟩ := pick_ok hw p q 2 h0 (by omega) (by omega) (by omega)
  simp only [spec_l1Cur_people.l1, e1, Option.bind_some]
  rw [w64 (x := 10 + v) (by omega) (by omega)]
  by_cases c : (i : Int) < 10 + v
  ·have ew : wrap64 ((i : Int) + 1) = ((i + 1 : Nat) : Int) := (w64 (by omega) (by omega)).trans (by omega)
   rw [if_pos c, if_pos (by omega), ew]
   obtain ⟨r, p2, q2, e2, b1, b2, b3, b4⟩ := ih k (i + 1) (o ++ [⟨((i + 1 : Nat) : Int), strOfNums (([(wrap64 (97 + (i : Int))) % 256] : List Int)), Int.tmod (i : Int) 4, wrap64 (3 * (i : Int))⟩]) p1 q1 a3 (by omega) (by omega) (by simp; omega) (shortN_snoc h4 _ (by rw [strOfNums_one]; decide)) (by omega)
   exact ⟨r, p2, q2, e2, b1, b2, b3, by omega⟩
  ·rw [if_neg c]
   exact ⟨_, _, _, rfl, by omega, h4, a3, by omega⟩
theorem peo0_ok {l : List Int} (hw : ∀ y ∈ l, (Lit.int .u8 y).wf = true) (names : List ByteArray) (hnl : names.length = 10) (hns : ∀ x ∈ names, x.size ≤ 11) (d : Nat) : ∀ (k : Nat) (o : List S41) (b p q : Int), 0 ≤ p → p + 8 * d ≤ 700000 → o.length + d ≤ 7 → shortN o → d + 20 < k →
  ∃ r p' q', spec_l1Cur_people.l0 k o names b (d : Int) l p q = some (r, p', q') ∧ r.length ≤ 11 ∧ shortN r ∧ 0 ≤ p' ∧ p' ≤ p + 8 * d + 100 := by
 induction d with
 | zero =>
  intro k o b p q h0 h1 h2 h4 hk
  obtain ⟨k, rfl⟩ : ∃ m, k = m + 1 := ⟨k - 1, by omega⟩
  have c0 : ¬ ((0 : Nat) : Int) > 0 := by omega
  simp only [spec_l1Cur_people.l0, if_neg c0]
  by_cases c1 : (o.length : Int) = 0
  ·rw [if_pos c1]
   exact ⟨_, _, _, rfl, by omega, h4, h0, by omega⟩
  ·rw [if_neg c1]
   obtain ⟨v, p1, q1, e1, a1, a2, a3, a4⟩ := pick_ok hw p q (o.length : Int) h0 (by omega) (by omega) (by omega)
   obtain ⟨v2, p2, q2, e2, b1, b2, b3, b4⟩ := pick_ok hw p1 q1 50 a3 (by omega) (by omega) (by omega)
   simp only [e1, Option.bind_some, if_pos a1, if_pos a2, e2]
   have hrs := rd_short h4 v
   split
   ·obtain ⟨v3, p3, q3, e3, _, f2, f3⟩ := among_ok hw p2 q2 [0, 99, 100] b3 (by omega) (by decide) (by decide) (P := fun _ => True) (fun _ _ => trivial)
    rw [e3]
    exact ⟨_, _, _, rfl, by rw [List.length_set]; omega, shortN_set h4 _ _ hrs, f2, show p3 ≤ _ by omega⟩
   ·split
    ·obtain ⟨v3, p3, q3, e3, f1, f2, f3⟩ := of_ok hw p2 q2 [(⟨#[]⟩ : ByteArray), (⟨#[65]⟩ : ByteArray), (⟨#[97, 110, 110]⟩ : ByteArray), (⟨#[97, 98, 99, 100, 101, 102, 103, 104, 105, 106, 107]⟩ : ByteArray)] b3 (by omega) (by decide) (by decide) (P := fun x => x.size ≤ 11) (by decide)
     rw [e3]
     exact ⟨_, _, _, rfl, by rw [List.length_set]; omega, shortN_set h4 _ _ f1, f2, show p3 ≤ _ by omega⟩
    ·split
     ·obtain ⟨v3, p3, q3, e3, _, f2, f3⟩ := among_ok hw p2 q2 [(-1), 16] b3 (by omega) (by decide) (by decide) (P := fun _ => True) (fun _ _ => trivial)
      rw [e3]
      exact ⟨_, _, _, rfl, by rw [List.length_set]; omega, shortN_set h4 _ _ hrs, f2, show p3 ≤ _ by omega⟩
     ·split
      ·obtain ⟨v3, p3, q3, e3, _, f2, f3⟩ := among_ok hw p2 q2 [(-1), 501] b3 (by omega) (by decide) (by decide) (P := fun _ => True) (fun _ _ => trivial)
       rw [e3]
       exact ⟨_, _, _, rfl, by rw [List.length_set]; omega, shortN_set h4 _ _ hrs, f2, show p3 ≤ _ by omega⟩
      ·split
       ·obtain ⟨r, p3, q3, e3, f1, f2, f3, f4⟩ := peo1_ok hw 11 k 0 [] p2 q2 b3 (by omega) (by omega) rfl (fun x hx => by cases hx) (by omega)
        exact ⟨r, p3, q3, e3, f1, f2, f3, by omega⟩
       ·exact ⟨_, _, _, rfl, by rw [List.length_set]; omega, shortN_set h4 _ _ hrs, b3, show p2 ≤ _ by omega⟩
 | succ d ih =>
  intro k o b p q h0 h1 h2 h4 hk
  obtain ⟨k, rfl⟩ : ∃ m, k = m + 1 := ⟨k - 1, by omega⟩
  obtain ⟨v, p1, q1, e1, a1, a2, a3, a4⟩ := pick_ok hw p q 3 h0 (by omega) (by omega) (by omega)
  obtain ⟨v2, p2, q2, e2, _, b2, b3⟩ := among_ok hw p1 q1 [0, 1, 1, 2, 2, 3, 5, 10, 15] a3 (by omega) (by decide) (by decide) (P := fun _ => True) (fun _ _ => trivial)
  obtain ⟨v3, p3, q3, e3, _, f2, f3⟩ := among_ok hw p2 q2 [0, 1, 5, 10, 20, 500] b2 (by omega) (by decide) (by decide) (P := fun _ => True) (fun _ _ => trivial)
  have c0 : ((d + 1 : Nat) : Int) > 0 := by omega
  have c1 : 0 ≤ (o.length : Int) := by omega
  have c2 : (o.length : Int) < (names.length : Int) := by omega
  have c3 : o.length < 3518437208883 := by omega
  have ew : wrap64 (((d + 1 : Nat) : Int) - 1) = (d : Int) := (w64 (by omega) (by omega)).trans (by omega)
  simp only [spec_l1Cur_people.l0, if_pos c0, e1, Option.bind_some, if_pos c1, if_pos c2, e2, e3, if_pos c3, ew]
  obtain ⟨r, p4, q4, e4, g1, g2, g3, g4⟩ := ih k (o ++ [⟨wrap64 ((wrap64 (b + 1)) + v), rdOf ByteArray.empty names (o.length : Int), v2, v3⟩]) (wrap64 ((wrap64 (b + 1)) + v)) p3 q3 f2 (by omega) (by simp; omega) (shortN_snoc h4 _ (rdOf_short names hns _)) (by omega)
  exact ⟨r, p4, q4, e4, g1, g2, g3, by omega⟩
theorem people_ok {l : List Int} (hw : ∀ y ∈ l, (Lit.int .u8 y).wf = true) (p q : Int) (h0 : 0 ≤ p) (h1 : p ≤ 600000) {k : Nat} (hk : 40 ≤ k) : ∃ r p' q', spec_l1Cur_people.f k l p q = some (r, p', q') ∧ r.length ≤ 11 ∧ shortN r ∧ 0 ≤ p' ∧ p' ≤ p + 200 := by
 unfold spec_l1Cur_people.f
 obtain ⟨v, p1, q1, e1, a1, a2, a3, a4⟩ := pick_ok hw p q 7 h0 (by omega) (by omega) (by omega)
 obtain ⟨n, rfl⟩ : ∃ n : Nat, v = (n : Int) := ⟨v.toNat, by omega⟩
 rw [e1]
 simp only [Option.bind_some]
 obtain ⟨r, p2, q2, e2, b1, b2, b3, b4⟩ := peo0_ok hw ([(⟨#[97, 110, 110]⟩ : ByteArray), (⟨#[98, 111]⟩ : ByteArray), (⟨#[99, 121]⟩ : ByteArray), (⟨#[100, 105]⟩ : ByteArray), (⟨#[101, 118, 101]⟩ : ByteArray), (⟨#[102, 97, 121]⟩ : ByteArray), (⟨#[103, 117, 115]⟩ : ByteArray), (⟨#[104, 97, 108]⟩ : ByteArray), (⟨#[105, 100, 97]⟩ : ByteArray), (⟨#[106, 111]⟩ : ByteArray)] : List ByteArray) rfl (by decide) n k [] 0 p1 q1 a3 (by omega) (by simp; omega) (fun x hx => by cases hx) (by omega)
 exact ⟨r, p2, q2, e2, b1, b2, b3, by omega⟩
theorem team_ok {l : List Int} (hw : ∀ y ∈ l, (Lit.int .u8 y).wf = true) (L : List S41) (hL : L.length ≤ 11) (d : Nat) : ∀ (k i : Nat) (o : List Int) (p q : Int), 0 ≤ p → p + 2 * d ≤ 700000 → i + d = L.length → o.length ≤ i → d < k →
  ∃ r p' q', spec_l1Cur_team.l0 k L o (i : Int) l p q = some (r, p', q') ∧ r.length ≤ 12 ∧ 0 ≤ p' ∧ p' ≤ p + 2 * d + 10 := by
 induction d with
 | zero =>
  intro k i o p q h0 h1 h2 h3 hk
  obtain ⟨k, rfl⟩ : ∃ m, k = m + 1 := ⟨k - 1, by omega⟩
  have c1 : ¬ (i : Int) < (L.length : Int) := by omega
  have c3 : o.length < 17592186044416 := by omega
  obtain ⟨v, p1, q1, e1, a1, a2, a3, a4⟩ := pick_ok hw p q 24 h0 (by omega) (by omega) (by omega)
  simp only [spec_l1Cur_team.l0, if_neg c1, e1, Option.bind_some]
  split
  ·obtain ⟨v3, p3, q3, e3, _, f2, f3⟩ := among_ok hw p1 q1 [0, 1, 98] a3 (by omega) (by decide) (by decide) (P := fun _ => True) (fun _ _ => trivial)
   rw [e3]
   simp only [Option.bind_some, if_pos c3]
   exact ⟨_, _, _, rfl, by simp; omega, f2, by omega⟩
  ·split
   ·split
    ·rename_i c5
     rw [if_pos (show (0 : Int) < (o.length : Int) by omega)]
     exact ⟨_, _, _, rfl, by rw [List.length_set]; omega, a3, by omega⟩
    ·exact ⟨_, _, _, rfl, by omega, a3, by omega⟩
   ·exact ⟨_, _, _, rfl, by omega, a3, by omega⟩
 | succ d ih =>
  intro k i o p q h0 h1 h2 h3 hk
  obtain ⟨k, rfl⟩ : ∃ m, k = m + 1 := ⟨k - 1, by omega⟩
  have c1 : (i : Int) < (L.length : Int) := by omega
  have c2 : 0 ≤ (i : Int) := by omega
  have c3 : o.length < 17592186044416 := by omega
  have ew : wrap64 ((i : Int) + 1) = ((i + 1 : Nat) : Int) := (w64 (by omega) (by omega)).trans (by omega)
  obtain ⟨b, p1, q1, e1, a3, a4⟩ := one_ok hw p q 2 h0 (by omega) (by omega) (by omega)
  simp only [spec_l1Cur_team.l0, if_pos c1, e1, Option.bind_some, if_pos c2, if_pos c3, ew]
  split
  ·obtain ⟨r, p4, q4, e4, g1, g3, g4⟩ := ih k (i + 1) (o ++ [(rd_T41 L (i : Int)).f0]) p1 q1 a3 (by omega) (by omega) (by simp; omega) (by omega)
   exact ⟨r, p4, q4, e4, g1, g3, by omega⟩
  ·obtain ⟨r, p4, q4, e4, g1, g3, g4⟩ := ih k (i + 1) o p1 q1 a3 (by omega) (by omega) (by omega) (by omega)
   exact ⟨r, p4, q4, e4, g1, g3, by omega⟩
theorem strict_true (ids : List Int) (hl : ids.length ≤ 1000) (h1 : ∀ x ∈ ids, 1 ≤ x ∧ x ≤ 99) (h2 : ids.Pairwise (fun x y => x < y)) (d : Nat) : ∀ (k i : Nat), i + d = ids.length → d < k → impl_strictly.l0 k ids 1 99 ids (ids.length : Int) (i : Int) = some true := by
 induction d with
 | zero =>
  intro k i hd hk
  obtain ⟨k, rfl⟩ : ∃ m, k = m + 1 := ⟨k - 1, by omega⟩
  have c1 : ¬ (i : Int) < (ids.length : Int) := by omega
  simp only [impl_strictly.l0, if_neg c1]
 | succ d ih =>
  intro k i hd hk
  obtain ⟨k, rfl⟩ : ∃ m, k = m + 1 := ⟨k - 1, by omega⟩
  have hil : i < ids.length := by omega
  have c1 : (i : Int) < (ids.length : Int) := by omega
  have c2 : 0 ≤ (i : Int) := by omega
  have ew : wrap64 ((i : Int) + 1) = ((i + 1 : Nat) : Int) := (w64 (by omega) (by omega)).trans (by omega)
  have er : rd ids (i : Int) = ids[i] := by simp [rd, hil]
  have hb := h1 ids[i] (List.getElem_mem hil)
  simp only [impl_strictly.l0, if_pos c1, if_pos c2, er, within_eq, Option.bind_some, ew]
  rw [decide_eq_true hb, if_pos rfl]
  by_cases c3 : (i : Int) > 0
  ·have hi1 : i - 1 < ids.length := by omega
   have em : wrap64 ((i : Int) - 1) = ((i - 1 : Nat) : Int) := (w64 (by omega) (by omega)).trans (by omega)
   have er2 : rd ids ((i - 1 : Nat) : Int) = ids[i - 1] := by simp [rd, hi1]
   have hlt : ids[i - 1] < ids[i] := List.pairwise_iff_getElem.mp h2 (i - 1) i hi1 hil (by omega)
   rw [if_pos c3, em, if_pos (by omega), if_pos (by omega), er2, if_neg (by omega)]
   exact ih k (i + 1) (by omega) (by omega)
  ·rw [if_neg c3]
   exact ih k (i + 1) (by omega) (by omega)
theorem good_pair (l : List S41) (h : goodP l = true) : (idsL l).Pairwise (fun x y => x < y) := by
 unfold idsL
 rw [List.pairwise_map, List.pairwise_iff_getElem]
 intro i j hi hj hij
 have := good_lt l h (j - i - 1) i (by omega)
 have e : i + (j - i - 1) + 1 = j := by omega
 simp only [e] at this
 exact this
theorem good_range (l : List S41) (h : goodP l = true) : ∀ x ∈ idsL l, 1 ≤ x ∧ x ≤ 99 := by
 intro x hx
 obtain ⟨y, hy, rfl⟩ := List.mem_map.mp hx
 obtain ⟨i, hi, rfl⟩ := List.getElem_of_mem hy
 obtain ⟨h1, _⟩ := (good_ok l h).1 i (Nat.zero_le _) hi
 rw [rdP l i hi] at h1
 exact h1
theorem isTeam_true (l M : List S41) (h : goodP l = true) (hs : M.Sublist l) (ht : teamB M = true) {k : Nat} (hk : 1048900 < k) : impl_IsTeam.f k l (idsL M) = some (true, true) := by
 have hl := good_len l h
 have hlen := hs.length_le
 have hz : (idsL M).length = M.length := by simp [idsL]
 obtain ⟨h1, h2⟩ := ids_back l M (good_ids l h) hs
 have hst : impl_strictly.f k (idsL M) 1 99 = some true := strict_true (idsL M) (by omega) (fun x hx => good_range l h x ((hs.map _).subset hx)) ((good_pair l h).sublist (hs.map _)) (idsL M).length k 0 (by omega) (by omega)
 have hm := membersOf_eq l (idsL M) (by omega) hst
 rw [if_pos ⟨rfl, h2⟩, h1] at hm
 have hsq : l.length * (l.length + 3) ≤ 10 * 13 := Nat.mul_le_mul hl (by omega)
 have hsq2 : M.length * (M.length + 2) ≤ 10 * 12 := Nat.mul_le_mul (by omega) (by omega)
 have ha : impl_areTeam.f k M = some (teamB M) := areTeam_eq M (by omega) (by omega)
 unfold impl_IsTeam.f
 rw [hm]
 simp only [Option.bind_some, if_true]
 rw [implGood_eq l (by omega) (by omega), h]
 simp only [Option.bind_some, if_true]
 rw [ha, ht]
 rfl
theorem teamOf_true (l M : List S41) (h : goodP l = true) (hs : M.Sublist l) (ht : teamB M = true) {k : Nat} (hk : 1048900 < k) : impl_teamOf.f k l (idsL M) = some (M, true) := by
 have hl := good_len l h
 have hlen := hs.length_le
 have hz : (idsL M).length = M.length := by simp [idsL]
 obtain ⟨h1, h2⟩ := ids_back l M (good_ids l h) hs
 have hst : impl_strictly.f k (idsL M) 1 99 = some true := strict_true (idsL M) (by omega) (fun x hx => good_range l h x ((hs.map _).subset hx)) ((good_pair l h).sublist (hs.map _)) (idsL M).length k 0 (by omega) (by omega)
 have hm := membersOf_eq l (idsL M) (by omega) hst
 rw [if_pos ⟨rfl, h2⟩, h1] at hm
 have hsq : l.length * (l.length + 3) ≤ 10 * 13 := Nat.mul_le_mul hl (by omega)
 have hsq2 : M.length * (M.length + 2) ≤ 10 * 12 := Nat.mul_le_mul (by omega) (by omega)
 have ha : impl_areTeam.f k M = some (teamB M) := areTeam_eq M (by omega) (by omega)
 unfold impl_teamOf.f
 rw [implGood_eq l (by omega) (by omega), h, hm]
 simp only [Option.bind_some, if_true]
 rw [ha, ht]
 rfl
theorem lacks0 (o a : Int) (h0 : 0 ≤ o) (h1 : o ≤ 15) (g0 : 0 ≤ a) (g1 : a ≤ 15) (h : Go.bits .and .i64 o a = a) : Go.bits .andNot .i64 a o = 0 := by
 have : ∀ n m : Fin 16, Go.bits .and .i64 (n.val : Int) (m.val : Int) = (m.val : Int) → Go.bits .andNot .i64 (m.val : Int) (n.val : Int) = 0 := by decide +kernel
 have h := this ⟨o.toNat, by omega⟩ ⟨a.toNat, by omega⟩
 simp only [Int.toNat_of_nonneg h0, Int.toNat_of_nonneg g0] at h
 apply h
 assumption
theorem stepS_mem : ∀ (S : List (List Int)) (b : List Int), S.foldl Sp.stepS b = b ∨ S.foldl Sp.stepS b ∈ S
 | [], b => .inl rfl
 | m :: S, b => by
  rw [List.foldl_cons]
  rcases stepS_mem S (Sp.stepS b m) with h | h
  ·rw [h]
   unfold Sp.stepS
   split
   ·exact .inr (List.mem_cons_self ..)
   ·exact .inl rfl
  ·exact .inr (List.mem_cons_of_mem _ h)
theorem small_law (l : List S41) (a : Int) (hl : l.length ≤ 11) (hM : shortN l) : ∃ r b, (∀ k, 1048900 < k → spec_SmallestTeam.f k l a = some (r, b) ∧ impl_SmallestTeam.f k l a = some (r, b)) ∧ r.length ≤ l.length ∧ (b = true → ∀ k, 1048900 < k → impl_IsTeam.f k l r = some (true, true) ∧ impl_MissingSkills.f k l r a = some (0, true)) := by
 have hM' : ∀ x ∈ l, x.f1.size < 1048577 ∧ x.f1.size ≤ 140737488351232 := fun x hx => by have := hM x hx; omega
 have hsq : l.length * (l.length + 3) ≤ 11 * 14 := Nat.mul_le_mul hl (by omega)
 by_cases h : goodP l = true ∧ (0 ≤ a ∧ a ≤ 15)
 ·have hg := h.1
  have h10 := good_len l hg
  have hn := good_ids l hg
  have hp := sortT_perm (teamsOf l)
  have hp2 := pow_le h10
  have hteam : ∀ M ∈ teamsOf l, M.length ≠ 0 ∧ M.length ≤ l.length := by
   intro M hM
   obtain ⟨h1, h2⟩ := teams_sub l M hM
   have h3 := (of_decide_eq_true h2).1
   have := h1.length_le
   omega
  have hfirst := Sp.first_eq (((teamsOf l).filter (servesB a)).map idsL) (((sortT (teamsOf l)).filter (servesB a)).map idsL) ((hp.symm.filter _).map _) (by
   intro m hm
   obtain ⟨M, h1, rfl⟩ := List.mem_map.mp hm
   have := (hteam M (List.mem_filter.mp h1).1).1
   unfold idsL; rwa [List.length_map]) (by
   rw [List.pairwise_map]
   refine ((sortT_sorted (teamsOf l)).filter _).imp ?_
   intro x y hxy
   rw [lx_lxL]; exact hxy)
  have hfl : ((subsFrom l 0 (2 ^ l.length)).filter (fun M => servesB a M && teamB M)) = (teamsOf l).filter (servesB a) := by unfold teamsOf; rw [List.filter_filter]
  obtain ⟨r, hr⟩ : ∃ r, (((teamsOf l).filter (servesB a)).map idsL).foldl Sp.stepS [] = r := ⟨_, rfl⟩
  have hrl : r.length ≤ l.length := by
   rw [← hr]
   refine stepS_len _ _ _ (by simp) ?_
   intro m hm
   obtain ⟨M, h1, rfl⟩ := List.mem_map.mp hm
   have := (hteam M (List.mem_filter.mp h1).1).2
   unfold idsL; rwa [List.length_map]
  refine ⟨r, decide (0 < r.length), fun k hk => ?_, hrl, fun hb k hk => ?_⟩
  ·obtain ⟨k, rfl⟩ : ∃ m, k = m + 1 := ⟨k - 1, by omega⟩
   have e1 := specSmall_loop l a hg (2 ^ l.length) k 0 [] (by omega) (by omega) (by simp)
   rw [hfl, hr] at e1
   have e2 := implSmall_loop a (k + 1) (by omega) (sortT (teamsOf l)) [] (fun M hM => by
    have := hteam M (hp.mem_iff.mp hM)
    omega)
   rw [← hfirst, hr] at e2
   have hb : (!r.isEmpty) = decide (0 < r.length) := by cases r <;> simp
   rw [hb] at e2
   unfold spec_SmallestTeam.f impl_SmallestTeam.f
   rw [specGood_eq l (by omega) 1048577 hM' (by omega), implGood_eq l (by omega) (by omega)]
   simp only [Option.bind_some, skills_eq, areSkills_eq, hg, if_true]
   rw [decide_eq_true h.2, teams_eq l h10 hn (by omega)]
   simp only [Bool.not_true, spec_SmallestTeam.j0, Bool.false_eq_true, if_false, Option.bind_some, if_true]
   exact ⟨e1, e2⟩
  ·have hpos := of_decide_eq_true hb
   have hmem : r ∈ ((teamsOf l).filter (servesB a)).map idsL := by
    rcases stepS_mem (((teamsOf l).filter (servesB a)).map idsL) [] with q | q
    ·rw [hr] at q
     subst q
     exact absurd hpos (by simp)
    ·rwa [hr] at q
   obtain ⟨M, h1, rfl⟩ := List.mem_map.mp hmem
   obtain ⟨hT, hs⟩ := List.mem_filter.mp h1
   obtain ⟨hsub, hB⟩ := teams_sub l M hT
   have hs1 : Go.bits .and .i64 (orAll M 0) a = a := by
    unfold servesB at hs
    rw [Bool.and_eq_true, decide_eq_true_eq] at hs
    exact hs.1
   have hml := hsub.length_le
   obtain ⟨o0, o1, _, _⟩ := orAll_ok M 0 (fun x hx => good_skills l hg x (hsub.subset hx)) (by omega) (by omega)
   refine ⟨isTeam_true l M hg hsub hB hk, ?_⟩
   unfold impl_MissingSkills.f
   rw [teamOf_true l M hg hsub hB hk, areSkills_eq, decide_eq_true h.2]
   simp only [Option.bind_some, if_true]
   rw [skills_sum M (by omega) (by omega)]
   simp only [Option.bind_some]
   rw [lacks0 _ a o0 o1 h.2.1 h.2.2 hs1]
 ·refine ⟨[], false, fun k hk => ?_, by simp, fun z => by cases z⟩
  obtain ⟨k, rfl⟩ : ∃ m, k = m + 1 := ⟨k - 1, by omega⟩
  unfold spec_SmallestTeam.f impl_SmallestTeam.f
  rw [specGood_eq l (by omega) 1048577 hM' (by omega), implGood_eq l (by omega) (by omega)]
  simp only [Option.bind_some, skills_eq, areSkills_eq]
  cases hg : goodP l with
  | false => simp [spec_SmallestTeam.j0]
  | true =>
   have hn : ¬ (0 ≤ a ∧ a ≤ 15) := fun z => h ⟨hg, z⟩
   rw [decide_eq_false hn]
   simp [spec_SmallestTeam.j0]
theorem isTeam_eq (l : List S41) (ids : List Int) (hl : l.length ≤ 1048576) (hi : ids.length ≤ 1048576) (hM : ∀ x ∈ l, x.f1.size ≤ 1048576) : ∃ r, ∀ k, l.length * (l.length + 3) + ids.length * (ids.length + 2) + 3145800 < k → spec_IsTeam.f k l ids = some r ∧ impl_IsTeam.f k l ids = some r := by
 obtain ⟨b, h1, h2⟩ := ask_all l ids hl hi hM
 by_cases c : (allIn l ids && goodP l && b) = true
 ·obtain ⟨hba, hg, ht⟩ := h2 c
  refine ⟨(teamP (ids.map (mem l)), true), fun k hk => ?_⟩
  obtain ⟨e1, e2, e3⟩ := h1 k hk
  obtain ⟨e4, e5⟩ := ht k hk
  unfold spec_IsTeam.f impl_IsTeam.f
  rw [e1, e2, e3, c, if_pos hba, hg]
  simp only [Option.bind_some, if_true, e4, e5]
  exact ⟨trivial, trivial⟩
 ·refine ⟨(false, false), fun k hk => ?_⟩
  obtain ⟨e1, e2, e3⟩ := h1 k hk
  unfold spec_IsTeam.f impl_IsTeam.f
  rw [e1, e2, e3]
  by_cases c2 : b = true ∧ allIn l ids = true
  ·have hg : goodP l = false := by
    by_cases q : goodP l = true
    ·exact absurd (by rw [c2.1, c2.2, q]; rfl) c
    ·simpa using q
   simp only [if_pos c2, hg, Option.bind_some, if_true, Bool.and_false, Bool.false_and, Bool.false_eq_true, if_false]
   exact ⟨trivial, trivial⟩
  ·simp only [if_neg c2, Option.bind_some, if_neg c, Bool.false_eq_true, if_false]
   exact ⟨trivial, trivial⟩
theorem trip_law (l : List S41) (ids : List Int) (hl : l.length ≤ 11) (hi : ids.length ≤ 12) (hN : shortN l) : ∃ (r : List S41) (b : Bool) (y z : Bool), (∀ k, 6292000 < k → spec_GoOnTrip.f k l ids = some (r, b) ∧ impl_GoOnTrip.f k l ids = some (r, b)) ∧ (∀ k, 6292000 < k → spec_IsTeam.f k l ids = some (y, z) ∧ impl_IsTeam.f k l ids = some (y, z)) ∧ (b = true → y = true) ∧ (r = l.map (bump ids) ∨ r = []) := by
 have hM : ∀ x ∈ l, x.f1.size ≤ 1048576 := fun x hx => by have := hN x hx; omega
 obtain ⟨r, h⟩ := teamOf_eq l ids (by omega) (by omega) hM
 obtain ⟨⟨y, z⟩, hy⟩ := isTeam_eq l ids (by omega) (by omega) hM
 have hsq : l.length * (l.length + 3) ≤ 11 * 14 := Nat.mul_le_mul hl (by omega)
 have hsq2 : ids.length * (ids.length + 2) ≤ 12 * 14 := Nat.mul_le_mul hi (by omega)
 cases r with
 | true =>
  have hM' : ∀ x ∈ l.map (bump ids), x.f1.size < 1048577 ∧ x.f1.size ≤ 140737488351232 := by
   intro x hx
   obtain ⟨y, hy, rfl⟩ := List.mem_map.mp hx
   have h0 := hM y hy
   have e : (bump ids y).f1 = y.f1 := by unfold bump; split <;> rfl
   rw [e]
   omega
  have hB : (l.map (bump ids)).length = l.length := by simp
  obtain ⟨K, hK⟩ : ∃ K, K = l.length * (l.length + 3) + 2097153 := ⟨_, rfl⟩
  refine ⟨if goodP (l.map (bump ids)) = true then l.map (bump ids) else [], goodP (l.map (bump ids)), y, z, fun k hk => ?_, fun k hk => hy k (by omega), fun _ => ?_, ?_⟩
  ·obtain ⟨_, h2, ⟨M, h3, h4⟩, _⟩ := h k (by omega)
   obtain ⟨e1, e2⟩ := h2 rfl
   obtain ⟨k, rfl⟩ : ∃ m, k = m + 1 := ⟨k - 1, by omega⟩
   have hg : ∀ k, K < k → spec_l5Good.f k (l.map (bump ids)) = some (goodP (l.map (bump ids))) ∧ impl_ArePeople.f k (l.map (bump ids)) = some (goodP (l.map (bump ids))) := by
    intro k hk
    exact ⟨specGood_eq _ (by omega) 1048577 hM' (by rw [hB]; omega), implGood_eq _ (by omega) (by rw [hB]; omega)⟩
   have q := fun k (hk : l.length + K + 1 < k) => trip_loop l ids _ K (by omega) (by omega) hg (by omega) l.length k 0 (by omega) hk
   simp only [List.take_zero, List.nil_append, List.drop_zero] at q
   have e : (if goodP (l.map (bump ids)) = true then (l.map (bump ids), true) else (([] : List S41), false)) = (if goodP (l.map (bump ids)) = true then l.map (bump ids) else [], goodP (l.map (bump ids))) := by
    cases goodP (l.map (bump ids)) <;> rfl
   rw [← e]
   generalize (if goodP (l.map (bump ids)) = true then (l.map (bump ids), true) else (([] : List S41), false)) = V at q ⊢
   unfold spec_GoOnTrip.f impl_GoOnTrip.f
   rw [e1, h3]
   simp only [Option.bind_some, if_true]
   rw [e2]
   simp only [Option.bind_some, Bool.not_true, spec_GoOnTrip.j0, Bool.false_eq_true, if_false, List.nil_append, List.length_nil]
   rw [if_pos (by omega)]
   unfold impl_Person.f
   rw [if_pos (by omega)]
   exact ⟨(q k (by omega)).1, (q (k + 1) (by omega)).2⟩
  ·obtain ⟨_, h2, _, _⟩ := h 6292001 (by omega)
   obtain ⟨e1, e2⟩ := h2 rfl
   have e3 := (hy 6292001 (by omega)).1
   unfold spec_IsTeam.f at e3
   rw [e1] at e3
   simp only [Option.bind_some, if_true] at e3
   rw [e2] at e3
   simp only [Option.bind_some, Option.some.injEq, Prod.mk.injEq] at e3
   exact e3.1.symm
  ·split
   ·exact .inl rfl
   ·exact .inr rfl
 | false =>
  refine ⟨[], false, y, z, fun k hk => ?_, fun k hk => hy k (by omega), (fun q => by cases q), .inr rfl⟩
  obtain ⟨h2, _, ⟨M, h3, _⟩, _⟩ := h k (by omega)
  obtain ⟨k, rfl⟩ : ∃ m, k = m + 1 := ⟨k - 1, by omega⟩
  unfold spec_GoOnTrip.f impl_GoOnTrip.f
  rw [h3]
  rcases h2 rfl with e | ⟨e, e'⟩
  ·rw [e]; simp [spec_GoOnTrip.j0]
  ·rw [e]
   simp only [Option.bind_some, if_true, e']
   simp [spec_GoOnTrip.j0]
theorem bump_in (ids : List Int) (x : S41) (h : x.f0 ∈ ids) : wrap64 ((bump ids x).f3 - x.f3) = 1 := by
 unfold bump
 rw [if_pos h]
 unfold wrap64
 simp only
 omega
theorem bump_out (ids : List Int) (x : S41) (h : ¬ x.f0 ∈ ids) : (bump ids x).f3 = x.f3 := by
 unfold bump
 rw [if_neg h]
theorem bitNot (s t : Int) (h0 : 0 ≤ s) (h1 : s ≤ 15) (g0 : 0 ≤ t) (g1 : t ≤ 15) : wrap64 (s - Go.bits .and .i64 s t) = Go.bits .andNot .i64 s t := by
 have : ∀ n m : Fin 16, wrap64 ((n.val : Int) - Go.bits .and .i64 (n.val : Int) (m.val : Int)) = Go.bits .andNot .i64 (n.val : Int) (m.val : Int) := by decide +kernel
 have h := this ⟨s.toNat, by omega⟩ ⟨t.toNat, by omega⟩
 simp only [Int.toNat_of_nonneg h0, Int.toNat_of_nonneg g0] at h
 exact h
theorem bitBack (s t : Int) (h0 : 0 ≤ s) (h1 : s ≤ 15) (g0 : 0 ≤ t) (g1 : t ≤ 15) : Go.bits .and .i64 (Go.bits .andNot .i64 s t) t = 0 ∧ Go.bits .or .i64 (Go.bits .andNot .i64 s t) (Go.bits .and .i64 t s) = s := by
 have : ∀ n m : Fin 16, Go.bits .and .i64 (Go.bits .andNot .i64 (n.val : Int) (m.val : Int)) (m.val : Int) = 0 ∧ Go.bits .or .i64 (Go.bits .andNot .i64 (n.val : Int) (m.val : Int)) (Go.bits .and .i64 (m.val : Int) (n.val : Int)) = (n.val : Int) := by decide +kernel
 have h := this ⟨s.toNat, by omega⟩ ⟨t.toNat, by omega⟩
 simp only [Int.toNat_of_nonneg h0, Int.toNat_of_nonneg g0] at h
 exact h
theorem missing_law (l : List S41) (ids : List Int) (a : Int) (hl : l.length ≤ 11) (hi : ids.length ≤ 12) (hN : shortN l) : ∃ (m : Int) (b : Bool), (∀ k, 3147000 < k → spec_MissingSkills.f k l ids a = some (m, b) ∧ impl_MissingSkills.f k l ids a = some (m, b)) ∧ (b = true → ∃ o, (∀ k, 3147000 < k → impl_SkillsOf.f k l ids = some (o, true)) ∧ Go.bits .and .i64 m o = 0 ∧ Go.bits .or .i64 m (Go.bits .and .i64 o a) = a) := by
 have hM : ∀ x ∈ l, x.f1.size ≤ 1048576 := fun x hx => by have := hN x hx; omega
 obtain ⟨r, h⟩ := teamOf_eq l ids (by omega) (by omega) hM
 have hsq : l.length * (l.length + 3) ≤ 11 * 14 := Nat.mul_le_mul hl (by omega)
 have hsq2 : ids.length * (ids.length + 2) ≤ 12 * 14 := Nat.mul_le_mul hi (by omega)
 cases r with
 | true =>
  by_cases ha : 0 ≤ a ∧ a ≤ 15
  ·obtain ⟨_, _, _, h5⟩ := h 3147000 (by omega)
   obtain ⟨h6, h7⟩ := h5 rfl
   obtain ⟨o0, o1, _, _⟩ := orAll_ok (ids.map (mem l)) 0 h7 (by omega) (by omega)
   obtain ⟨b1, b2⟩ := bitBack a (orAll (ids.map (mem l)) 0) ha.1 ha.2 o0 o1
   refine ⟨Go.bits .andNot .i64 a (orAll (ids.map (mem l)) 0), true, fun k hk => ?_, fun _ => ⟨orAll (ids.map (mem l)) 0, fun k hk => ?_, b1, b2⟩⟩
   ·obtain ⟨_, h2, ⟨M, h3, h4⟩, _⟩ := h k (by omega)
    obtain ⟨e1, e2⟩ := h2 rfl
    obtain rfl := h4 rfl
    unfold spec_MissingSkills.f impl_MissingSkills.f
    rw [e1, h3]
    simp only [Option.bind_some, if_true]
    rw [e2, skills_eq, areSkills_eq, decide_eq_true ha]
    simp only [Option.bind_some, if_true]
    rw [all_eq l ids (by omega) (by omega) h6 (by omega), skills_sum _ (by rw [List.length_map]; omega) (by rw [List.length_map]; omega)]
    simp only [Option.bind_some]
    rw [bitNot a _ ha.1 ha.2 o0 o1]
    constructor <;> trivial
   ·obtain ⟨_, _, ⟨M, h3, h4⟩, _⟩ := h k (by omega)
    obtain rfl := h4 rfl
    unfold impl_SkillsOf.f
    rw [h3]
    simp only [Option.bind_some, if_true]
    rw [skills_sum _ (by rw [List.length_map]; omega) (by rw [List.length_map]; omega)]
    rfl
  ·refine ⟨0, false, fun k hk => ?_, fun z => by cases z⟩
   obtain ⟨_, h2, ⟨M, h3, h4⟩, h5⟩ := h k (by omega)
   obtain ⟨e1, e2⟩ := h2 rfl
   unfold spec_MissingSkills.f impl_MissingSkills.f
   rw [e1, h3]
   simp only [Option.bind_some, if_true]
   rw [e2, skills_eq, areSkills_eq, decide_eq_false ha]
   simp
 | false =>
  refine ⟨0, false, fun k hk => ?_, fun z => by cases z⟩
  obtain ⟨h2, _, ⟨M, h3, _⟩, _⟩ := h k (by omega)
  unfold spec_MissingSkills.f impl_MissingSkills.f
  rw [h3]
  rcases h2 rfl with e | ⟨e, e'⟩
  ·rw [e]; simp
  ·rw [e]
   simp only [Option.bind_some, if_true, e']
   simp
theorem rHas_loop (s : List Int) (v : Int) (hl : s.length ≤ 1000) (d : Nat) : ∀ (k i : Nat), i + d = s.length → d < k → laws_rHas.l0 k s v (i : Int) = some (decide (v ∈ s.drop i)) := by
 induction d with
 | zero =>
  intro k i hd hk
  obtain ⟨k, rfl⟩ : ∃ m, k = m + 1 := ⟨k - 1, by omega⟩
  have c1 : ¬ (i : Int) < (s.length : Int) := by omega
  simp only [laws_rHas.l0, if_neg c1]
  rw [List.drop_of_length_le (by omega)]
  simp
 | succ d ih =>
  intro k i hd hk
  obtain ⟨k, rfl⟩ : ∃ m, k = m + 1 := ⟨k - 1, by omega⟩
  have hil : i < s.length := by omega
  have c1 : (i : Int) < (s.length : Int) := by omega
  have c2 : 0 ≤ (i : Int) := by omega
  have ew : wrap64 ((i : Int) + 1) = ((i + 1 : Nat) : Int) := (w64 (by omega) (by omega)).trans (by omega)
  have er : rd s (i : Int) = s[i] := by simp [rd, hil]
  simp only [laws_rHas.l0, if_pos c1, if_pos c2, er, ew]
  rw [List.drop_eq_getElem_cons hil]
  by_cases h : s[i] = v
  ·rw [if_pos h, decide_eq_true (by rw [h]; exact List.mem_cons_self ..)]
  ·rw [if_neg h, ih k (i + 1) (by omega) (by omega)]
   have h' : ¬ v = s[i] := fun e => h e.symm
   simp only [List.mem_cons, h', false_or]
theorem rHas_eq (s : List Int) (v : Int) (hl : s.length ≤ 1000) {k : Nat} (hk : s.length < k) : laws_rHas.f k s v = some (decide (v ∈ s)) := by
 have := rHas_loop s v hl s.length k 0 (by omega) hk
 unfold laws_rHas.f
 simpa using this
theorem rPeople_loop (l : List S41) (hl : l.length ≤ 1000) (d : Nat) : ∀ (k i : Nat), i + d = l.length → d < k → laws_rPeople.l0 k l l (i : Int) = some true := by
 induction d with
 | zero =>
  intro k i hd hk
  obtain ⟨k, rfl⟩ : ∃ m, k = m + 1 := ⟨k - 1, by omega⟩
  have c1 : ¬ (i : Int) < (l.length : Int) := by omega
  simp only [laws_rPeople.l0, if_neg c1]
 | succ d ih =>
  intro k i hd hk
  obtain ⟨k, rfl⟩ : ∃ m, k = m + 1 := ⟨k - 1, by omega⟩
  have c1 : (i : Int) < (l.length : Int) := by omega
  have c2 : 0 ≤ (i : Int) := by omega
  have ew : wrap64 ((i : Int) + 1) = ((i + 1 : Nat) : Int) := (w64 (by omega) (by omega)).trans (by omega)
  simp only [laws_rPeople.l0, if_pos c1, if_pos c2, beq_self_eq_true, Bool.not_true, Bool.or_false, Bool.false_eq_true, if_false, ew]
  exact ih k (i + 1) (by omega) (by omega)
theorem rPeople_eq (l : List S41) (hl : l.length ≤ 1000) {k : Nat} (hk : l.length < k) : laws_rPeople.f k l l = some true := by
 unfold laws_rPeople.f
 rw [if_pos rfl]
 exact rPeople_loop l hl l.length k 0 (by omega) hk
theorem j6_ok (L : List S41) (hl : L.length ≤ 11) (hN : shortN L) (k : Nat) (hk : 1048900 < k) : laws_FnTeams.j6 (k + 1) L false = some true ∧ ((impl_ArePeople.f k L).bind fun a => (spec_ArePeople.f k L).bind fun b => some (a == b)) = some true := by
 have hM' : ∀ x ∈ L, x.f1.size < 1048577 ∧ x.f1.size ≤ 140737488351232 := fun x hx => by have := hN x hx; omega
 have hsq : L.length * (L.length + 3) ≤ 11 * 14 := Nat.mul_le_mul hl (by omega)
 have e1 := implGood_eq L (by omega) (k := k) (by omega)
 have e2 := specGood_eq L (by omega) 1048577 hM' (k := k) (by omega)
 have e3 : spec_ArePeople.f k L = some (goodP L) := by
  unfold spec_ArePeople.f
  rw [e2]
  rfl
 constructor
 ·simp only [laws_FnTeams.j6, Bool.false_eq_true, if_false, e1, e3, Option.bind_some, beq_self_eq_true]
 ·simp only [e1, e3, Option.bind_some, beq_self_eq_true]
theorem j4_ok {l : List Int} (hw : ∀ y ∈ l, (Lit.int .u8 y).wf = true) (K : Nat) (hK : 6300000 ≤ K) (k : Nat) (hk : K ≤ k) : laws_FnTeams.j4 (k + 1 + 1 + 1) l false = some true := by
 obtain ⟨L, p1, q1, e1, a1, a2, a3, a4⟩ := people_ok hw 0 0 (by omega) (by omega) (k := k + 1 + 1) (by omega)
 obtain ⟨t, p2, q2, e2, b1, b2, b3⟩ := team_ok hw L a1 L.length (k + 1 + 1) 0 [] p1 q1 a3 (by omega) (by omega) (by simp) (by omega)
 have e2' : spec_l1Cur_team.f (k + 1 + 1) l p1 q1 L = some (t, p2, q2) := e2
 obtain ⟨v, p3, q3, e3, c2, c3⟩ := skills_ok hw p2 q2 b2 (by omega)
 have hd : spec_DrawMissingSkills.f (k + 1 + 1) l = some (L, t, v) := by
  unfold spec_DrawMissingSkills.f spec_DrawMissingSkills_in.f
  simp only [e1, Option.bind_some, e2', e3]
 obtain ⟨m, b, hm, hb⟩ := missing_law L t v a1 b1 a2
 obtain ⟨h1, h2⟩ := hm (k + 1 + 1) (by omega)
 simp only [laws_FnTeams.j4, Bool.false_eq_true, if_false, hd, Option.bind_some, h1, h2, if_true, bne_self_eq_false]
 cases b with
 | false =>
  simp only [laws_FnTeams.j5, Bool.false_eq_true, if_false]
  exact (j6_ok L a1 a2 (k + 1) (by omega)).2
 | true =>
  obtain ⟨o, ho, o1, o2⟩ := hb rfl
  simp only [laws_FnTeams.j5, Bool.false_eq_true, if_false, if_true, ho (k + 1) (by omega), Option.bind_some, o1, o2, bne_self_eq_false]
  exact (j6_ok L a1 a2 k (by omega)).1
theorem l0_ok {l : List Int} (hw : ∀ y ∈ l, (Lit.int .u8 y).wf = true) (L : List S41) (t : List Int) (r : List S41) (b y z : Bool) (hl : L.length ≤ 11) (ht : t.length ≤ 12) (hr : r = L.map (bump t) ∨ r = []) (hy : ∀ k, 6292000 < k → spec_IsTeam.f k L t = some (y, z) ∧ impl_IsTeam.f k L t = some (y, z)) (hb : b = true → y = true) (d : Nat) : ∀ (k i : Nat), i + d = r.length → 6300100 + d ≤ k → laws_FnTeams.l0 k l L t r b (i : Int) = some true := by
 have hrl : r.length ≤ L.length := by
  rcases hr with rfl | rfl <;> simp
 induction d with
 | zero =>
  intro k i hd hk
  obtain ⟨k, rfl⟩ : ∃ m, k = m + 1 + 1 + 1 + 1 := ⟨k - 4, by omega⟩
  have c1 : ¬ (i : Int) < (r.length : Int) := by omega
  obtain ⟨h1, h2⟩ := hy (k + 1 + 1 + 1) (by omega)
  have h4 := j4_ok hw 6300000 (Nat.le_refl _) k (by omega)
  simp only [laws_FnTeams.l0, if_neg c1, h1, h2, Option.bind_some, bne_self_eq_false, Bool.false_eq_true, if_false]
  cases b with
  | false => rw [if_neg (by simp)]; exact h4
  | true => rw [if_pos rfl, hb rfl]; exact h4
 | succ d ih =>
  intro k i hd hk
  obtain ⟨k, rfl⟩ : ∃ m, k = m + 1 := ⟨k - 1, by omega⟩
  have ih := ih k (i + 1) (by omega) (by omega)
  have hir : i < r.length := by omega
  have hil : i < L.length := by omega
  have c1 : (i : Int) < (r.length : Int) := by omega
  have c2 : 0 ≤ (i : Int) := by omega
  have c3 : (i : Int) < (L.length : Int) := by omega
  have ew : wrap64 ((i : Int) + 1) = ((i + 1 : Nat) : Int) := (w64 (by omega) (by omega)).trans (by omega)
  have er : rd_T41 L (i : Int) = L[i] := by simp [rd_T41, hil]
  have er2 : rd_T41 r (i : Int) = bump t L[i] := by
   rcases hr with rfl | rfl
   ·simp [rd_T41, hil]
   ·simp at hir
  have hh := rHas_eq t L[i].f0 (by omega) (k := k) (by omega)
  simp only [laws_FnTeams.l0, if_pos c1, if_pos c2, if_pos c3, er, er2, hh, Option.bind_some, ew]
  by_cases h : L[i].f0 ∈ t
  ·have e := bump_in t L[i] h
   have ne : ¬ (bump t L[i]).f3 = L[i].f3 := by
    intro q
    rw [q] at e
    simp [wrap64] at e
   rw [if_pos e, if_neg ne, if_pos (decide_eq_true h)]
   exact ih
  ·have e := bump_out t L[i] h
   have ne : ¬ wrap64 ((bump t L[i]).f3 - L[i].f3) = 1 := by
    rw [e]
    simp [wrap64]
   rw [if_neg ne, if_neg (by simp [h]), if_pos e]
   exact ih
theorem j1_ok {l : List Int} (hw : ∀ y ∈ l, (Lit.int .u8 y).wf = true) (k : Nat) (hk : 6300200 ≤ k) : laws_FnTeams.j1 (k + 1 + 1) l = some true := by
 obtain ⟨L, p1, q1, e1, a1, a2, a3, a4⟩ := people_ok hw 0 0 (by omega) (by omega) (k := k + 1) (by omega)
 obtain ⟨t, p2, q2, e2, b1, b2, b3⟩ := team_ok hw L a1 L.length (k + 1) 0 [] p1 q1 a3 (by omega) (by omega) (by simp) (by omega)
 have e2' : spec_l1Cur_team.f (k + 1) l p1 q1 L = some (t, p2, q2) := e2
 have hd : spec_DrawGoOnTrip.f (k + 1) l = some (L, t) := by
  unfold spec_DrawGoOnTrip.f spec_DrawIsTeam.f spec_DrawIsTeam_in.f
  simp only [e1, Option.bind_some, e2']
 obtain ⟨r, b, y, z, hr, hy, hb, hs⟩ := trip_law L t a1 b1 a2
 obtain ⟨h1, h2⟩ := hr (k + 1) (by omega)
 have hrl : r.length ≤ L.length := by
  rcases hs with rfl | rfl <;> simp
 simp only [laws_FnTeams.j1, hd, Option.bind_some, h1, h2, bne_self_eq_false, Bool.false_eq_true, if_false, rPeople_eq r (by omega) (show r.length < k + 1 by omega), Bool.not_true, laws_FnTeams.j2]
 exact l0_ok hw L t r b y z a1 b1 hs hy hb r.length k 0 (by omega) (by omega)
theorem FnTeams : Asked := by
 intro l hl hw
 obtain ⟨K, hK⟩ : ∃ K, K = 6301000 := ⟨_, rfl⟩
 refine ⟨K + 1 + 1 + 1, ?_⟩
 unfold laws_FnTeams.f laws_rBig.f
 simp only [Option.bind_some]
 by_cases c : (l.length : Int) > 65536
 ·simp [c]
 ·obtain ⟨L, p1, q1, e1, a1, a2, a3, a4⟩ := people_ok hw 0 0 (by omega) (by omega) (k := K + 1 + 1 + 1) (by omega)
  obtain ⟨v, p2, q2, e2, b2, b3⟩ := skills_ok hw p1 q1 a3 (by omega)
  have hd : spec_DrawSmallestTeam.f (K + 1 + 1 + 1) l = some (L, v) := by
   unfold spec_DrawSmallestTeam.f spec_DrawWithSkills.f spec_DrawWithSkills_in.f
   simp only [e1, Option.bind_some, e2]
  obtain ⟨r, b, hr, hrl, hb⟩ := small_law L v a1 a2
  obtain ⟨h1, h2⟩ := hr (K + 1 + 1 + 1) (by omega)
  have h3 := j1_ok hw K (by omega)
  simp only [decide_eq_true_eq, if_neg c, hd, Option.bind_some, h1, h2, bne_self_eq_false, Bool.false_eq_true, if_false, rInts_eq r (by omega) (show r.length < K + 1 + 1 + 1 by omega), Bool.not_true, laws_FnTeams.j0]
  cases b with
  | false => rw [if_neg (by simp)]; exact h3
  | true =>
   obtain ⟨g1, g2⟩ := hb rfl (K + 1 + 1) (by omega)
   simp only [if_true, g1, g2, Option.bind_some]
   exact h3
end Go.Proofs.YtafdklajmklmkaaGreatDoor.Pure
