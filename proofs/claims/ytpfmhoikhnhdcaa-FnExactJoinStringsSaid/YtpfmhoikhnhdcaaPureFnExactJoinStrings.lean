/- The pure statement of the law of JoinStrings: true for every list of strings and every string; no condition but their reach. -/
import Derived.Test.YtpfmhoikhnhdcaaAskFnExactJoinStrings
namespace Go.Proofs.Ytpfmhoikhnhdcaa.Pure
open Go.RowKit Go.Proofs.Ytpfmhoikhnhdcaa.XFnExactJoinStrings Go.Proofs.Ytpfmhoikhnhdcaa.AskFnExactJoinStrings Go.Proofs.YtpfmhoikhnhdcaaW.PrintWords Go.Proofs.YtpfmhoikhnhdcaaW.PrintLast
set_option linter.unusedVariables false
set_option linter.unusedSimpArgs false

theorem w64 {x : Int} (h0 : -9223372036854775808 ≤ x) (h1 : x ≤ 9223372036854775807) : wrap64 x = x := by
  unfold wrap64
  omega

/-- A text cut at a byte. -/
def sp (c : UInt8) (cur : List UInt8) : List UInt8 → List (List UInt8)
  | [] => [cur]
  | b :: l => if b = c then cur :: sp c [] l else sp c (cur ++ [b]) l
def mkB (l : List UInt8) : ByteArray := ⟨l.toArray⟩
theorem sp_length (c : UInt8) : ∀ (l cur : List UInt8), (sp c cur l).length ≤ l.length + 1
  | [], _ => Nat.le_refl _
  | b :: l, cur => by
    unfold sp
    split
    · have := sp_length c l []; simp only [List.length_cons]; omega
    · have := sp_length c l (cur ++ [b]); simp only [List.length_cons]; omega
theorem extract_mk (s : ByteArray) (i j : Nat) : s.extract i j = mkB ((s.data.toList.take j).drop i) := by
  apply ByteArray.ext
  rw [ByteArray.data_extract]
  apply Array.ext'
  simp [mkB, List.drop_take]
theorem size_data (s : ByteArray) : s.data.toList.length = s.size := Array.length_toList
theorem mk_data (s : ByteArray) : mkB s.data.toList = s := by simp [mkB]
theorem bt_list (s : ByteArray) (i : Nat) (h : i < s.size) : bt s (i : Int) = ((s.data.toList[i]'(by rw [size_data]; exact h)).toNat : Int) := by
  unfold bt
  rw [dif_pos (show (i : Int).toNat < s.size by omega)]
  rfl
theorem toNat_eq {x y : UInt8} : (x.toNat : Int) = (y.toNat : Int) ↔ x = y := by
  constructor
  · intro h
    exact UInt8.toNat_inj.mp (by omega)
  · intro h
    rw [h]
theorem idx_none (c : UInt8) : ∀ (l cur : List UInt8), Lib.indexByte l c < 0 → sp c cur l = [cur ++ l]
  | [], cur, _ => by simp [sp]
  | b :: l, cur, h => by
    unfold Lib.indexByte at h
    by_cases e : b = c
    · simp [e] at h
    · have hb : (b == c) = false := by simp [e]
      rw [hb] at h
      simp only [Bool.false_eq_true, if_false] at h
      have g := Lib.indexByte_ge l c
      have h2 : Lib.indexByte l c < 0 := by
        by_cases z : (Lib.indexByte l c == -1) = true
        · have := eq_of_beq z; omega
        · rw [if_neg z] at h; omega
      unfold sp
      rw [if_neg e, idx_none c l _ h2, List.append_assoc, List.singleton_append]
theorem idx_some (c : UInt8) : ∀ (l cur : List UInt8), 0 ≤ Lib.indexByte l c → (Lib.indexByte l c).toNat < l.length ∧ sp c cur l = (cur ++ l.take (Lib.indexByte l c).toNat) :: sp c [] (l.drop ((Lib.indexByte l c).toNat + 1))
  | [], cur, h => by simp [Lib.indexByte] at h
  | b :: l, cur, h => by
    unfold Lib.indexByte at h ⊢
    by_cases e : b = c
    · simp [e, sp]
    · have hb : (b == c) = false := by simp [e]
      rw [hb] at h ⊢
      simp only [Bool.false_eq_true, if_false] at h ⊢
      by_cases z : (Lib.indexByte l c == -1) = true
      · rw [if_pos z] at h; omega
      · rw [if_neg z] at h ⊢
        have g := Lib.indexByte_ge l c
        have h2 : 0 ≤ Lib.indexByte l c := by
          have : ¬ Lib.indexByte l c = -1 := fun q => z (by simp [q])
          omega
        obtain ⟨i1, i2⟩ := idx_some c l (cur ++ [b]) h2
        have et : (Lib.indexByte l c + 1).toNat = (Lib.indexByte l c).toNat + 1 := by omega
        rw [et]
        refine ⟨by simp only [List.length_cons]; omega, ?_⟩
        rw [show sp c cur (b :: l) = sp c (cur ++ [b]) l from if_neg e, i2, List.take_succ_cons, List.drop_succ_cons, List.append_assoc, List.singleton_append]
theorem u8_round (x : Int) (h0 : 0 ≤ x) (h1 : x ≤ 255) : ((x.toNat.toUInt8).toNat : Int) = x := by
  have e : (x.toNat.toUInt8).toNat = x.toNat % 256 := by simp [Nat.toUInt8]
  rw [e]; omega

def noC (c : UInt8) (s : ByteArray) : Bool := decide (Lib.indexByte s.data.toList c < 0)

theorem stands_loop (s : ByteArray) (c : UInt8) (hs : s.size ≤ 140737488351232) (d : Nat) : ∀ (k i : Nat), i + d = s.size → d < k →
    spec_l1Stands.l0 k s (c.toNat : Int) (i : Int) = some (!decide (Lib.indexByte (s.data.toList.drop i) c < 0)) := by
  induction d with
  | zero =>
    intro k i hi hk
    obtain ⟨k, rfl⟩ : ∃ m, k = m + 1 := ⟨k - 1, by omega⟩
    simp only [spec_l1Stands.l0]
    rw [if_neg (by omega), List.drop_of_length_le (by rw [size_data]; omega)]
    rfl
  | succ d ih =>
    intro k i hi hk
    obtain ⟨k, rfl⟩ : ∃ m, k = m + 1 := ⟨k - 1, by omega⟩
    have n1 : (i : Int) < (s.size : Int) := by omega
    have p0 : (0 : Int) ≤ (i : Int) := by omega
    have hL : i < s.data.toList.length := by rw [size_data]; omega
    have ew : wrap64 ((i : Int) + 1) = ((i + 1 : Nat) : Int) := (w64 (by omega) (by omega)).trans (by omega)
    have hd := List.drop_eq_getElem_cons hL
    have eb := bt_list s i (by omega)
    simp only [spec_l1Stands.l0, if_pos n1, if_pos p0, eb, toNat_eq, ew]
    rw [hd]
    unfold Lib.indexByte
    by_cases h : s.data.toList[i] = c
    · simp [h]
    · have hb : (s.data.toList[i] == c) = false := beq_eq_false_iff_ne.mpr h
      rw [if_neg h, ih k (i + 1) (by omega) (by omega), hb]
      simp only [Bool.false_eq_true, if_false]
      have g := Lib.indexByte_ge (s.data.toList.drop (i + 1)) c
      refine congrArg some (congrArg (!·) (decide_eq_decide.mpr ?_))
      by_cases z : (Lib.indexByte (s.data.toList.drop (i + 1)) c == -1) = true
      · have := eq_of_beq z
        rw [if_pos z]; omega
      · have : ¬ Lib.indexByte (s.data.toList.drop (i + 1)) c = -1 := fun q => z (by simp [q])
        rw [if_neg z]; omega
theorem stands_eq (s : ByteArray) (c : UInt8) (hs : s.size ≤ 140737488351232) {k : Nat} (hk : s.size < k) : spec_l1Stands.f k s (c.toNat : Int) = some (!noC c s) := by
  unfold spec_l1Stands.f noC
  have h := stands_loop s c hs s.size k 0 (by omega) hk
  simpa using h

def tot (l : List ByteArray) : Nat := (l.map (·.size)).sum
theorem tot_nil : tot [] = 0 := rfl
theorem tot_cons (x : ByteArray) (xs : List ByteArray) : tot (x :: xs) = x.size + tot xs := by simp [tot]
attribute [irreducible] tot
theorem sz_loop (l : List ByteArray) (hl : l.length ≤ 140737488351232) (hw : ∀ y ∈ l, y.size ≤ maxLen) : ∀ (xs : List ByteArray) (k i : Nat) (a : Int), l.drop i = xs → xs.length < k → 0 ≤ a → a ≤ 1048576 →
    ∃ t, (∀ k, xs.length < k → laws_szStringS.l0 k l a (i : Int) = some t) ∧ (t < 0 ∨ (tot xs : Int) ≤ a)
  | [], _, i, a, hx, _, h0, h1 => by
    have hn : l.length ≤ i := List.drop_eq_nil_iff.mp hx
    refine ⟨a, fun k hk => ?_, .inr (by rw [tot_nil]; simp; omega)⟩
    obtain ⟨k, rfl⟩ : ∃ m, k = m + 1 := ⟨k - 1, by omega⟩
    simp only [laws_szStringS.l0]
    rw [if_neg (by omega)]
  | x :: xs, k, i, a, hx, hk, h0, h1 => by
    have hn : i < l.length := by
      have := congrArg List.length hx
      simp at this
      omega
    have hd := List.drop_eq_getElem_cons hn
    rw [hx] at hd
    obtain ⟨g1, g2⟩ := List.cons.inj hd
    have ew : wrap64 ((i : Int) + 1) = ((i + 1 : Nat) : Int) := (w64 (by omega) (by omega)).trans (by omega)
    have er : rdOf ByteArray.empty l (i : Int) = x := by simp [rdOf, hn, g1]
    have hxs := hw x (by rw [g1]; exact List.getElem_mem hn)
    have hM : maxLen ≤ 9223372036854775807 := by decide
    have es : wrap64 (a - (x.size : Int)) = a - (x.size : Int) := w64 (by omega) (by omega)
    have c1 : (i : Int) < (l.length : Int) := by omega
    have c2 : 0 ≤ (i : Int) := by omega
    by_cases c : a - (x.size : Int) < 0
    · refine ⟨-1, fun k hk => ?_, .inl (by omega)⟩
      obtain ⟨k, rfl⟩ : ∃ m, k = m + 1 := ⟨k - 1, by omega⟩
      simp only [laws_szStringS.l0, if_pos c1, if_pos c2, er, es, if_pos c]
    · obtain ⟨t, e, ht⟩ := sz_loop l hl hw xs (xs.length + 1) (i + 1) (a - (x.size : Int)) g2.symm (by omega) (by omega) (by omega)
      refine ⟨t, fun k hk => ?_, ?_⟩
      · obtain ⟨k, rfl⟩ : ∃ m, k = m + 1 := ⟨k - 1, by omega⟩
        simp only [laws_szStringS.l0, if_pos c1, if_pos c2, er, es, if_neg c, ew]
        exact e k (by simp only [List.length_cons] at hk; omega)
      · rcases ht with ht | ht
        · exact .inl ht
        · refine .inr ?_
          have : tot (x :: xs) = x.size + tot xs := tot_cons x xs
          omega
theorem sz_eq (l : List ByteArray) (hl : l.length ≤ 140737488351232) (hw : ∀ y ∈ l, y.size ≤ maxLen) : ∃ t, (∀ k, l.length < k → laws_szStringS.f k l 1048576 = some t) ∧ (t < 0 ∨ (tot l : Int) + (l.length : Int) ≤ 1048576) := by
  unfold laws_szStringS.f
  have e : wrap64 (1048576 - (l.length : Int)) = 1048576 - (l.length : Int) := w64 (by omega) (by omega)
  rw [e]
  by_cases c : 1048576 - (l.length : Int) < 0
  · exact ⟨-1, fun k _ => by rw [if_pos c], .inl (by omega)⟩
  · obtain ⟨t, e, h⟩ := sz_loop l hl hw l (l.length + 1) 0 (1048576 - (l.length : Int)) rfl (by omega) (by omega) (by omega)
    refine ⟨t, fun k hk => by rw [if_neg c]; exact e k hk, ?_⟩
    rcases h with h | h
    · exact .inl h
    · exact .inr (by omega)

def jt (p : ByteArray) (xs : List ByteArray) : List UInt8 := Lib.joinTail p.data.toList (xs.map (·.data.toList))
theorem jt_cons (p x : ByteArray) (xs : List ByteArray) : jt p (x :: xs) = p.data.toList ++ x.data.toList ++ jt p xs := by simp [jt, Lib.joinTail]
theorem mkB_data (l : List UInt8) : (mkB l).data.toList = l := by simp [mkB]
theorem app_data (a b : ByteArray) : (a ++ b).data.toList = a.data.toList ++ b.data.toList := by simp [ByteArray.data_append]
theorem specJoin_loop (M : Nat) (l : List ByteArray) (hM : ∀ s ∈ l, s.size < M) (p : ByteArray) (hp : p.size = 1) (c : UInt8) (hc : bt p 0 = (c.toNat : Int)) (hl : l.length ≤ 1048576) : ∀ (xs : List ByteArray) (k i : Nat) (acc : ByteArray), l.drop i = xs → 0 < i → acc.size ≤ 4000 → tot xs ≤ 1048576 → xs.length + M < k →
    spec_JoinStrings.l0 k l p acc (i : Int) = some (if xs.all (noC c) = true ∧ acc.size + tot xs + xs.length ≤ 4000 then (mkB (acc.data.toList ++ jt p xs), true) else (⟨#[]⟩, false))
  | [], k, i, acc, hx, hi, ha, _, hk => by
    obtain ⟨k, rfl⟩ : ∃ m, k = m + 1 := ⟨k - 1, by omega⟩
    have hn : l.length ≤ i := List.drop_eq_nil_iff.mp hx
    simp only [spec_JoinStrings.l0]
    rw [if_neg (by omega), if_pos ⟨rfl, by rw [tot_nil]; simp; omega⟩]
    have : jt p [] = [] := rfl
    rw [this, List.append_nil, mk_data]
  | x :: xs, k, i, acc, hx, hi, ha, htx, hk => by
    obtain ⟨k, rfl⟩ : ∃ m, k = m + 1 := ⟨k - 1, by omega⟩
    have hn : i < l.length := by
      have := congrArg List.length hx
      simp at this
      omega
    have hd := List.drop_eq_getElem_cons hn
    rw [hx] at hd
    obtain ⟨g1, g2⟩ := List.cons.inj hd
    have ew : wrap64 ((i : Int) + 1) = ((i + 1 : Nat) : Int) := (w64 (by omega) (by omega)).trans (by omega)
    have hc' := hc
    have er : rdOf ByteArray.empty l (i : Int) = x := by simp [rdOf, hn, g1]
    have hxm : x ∈ l := by rw [g1]; exact List.getElem_mem hn
    have et : tot (x :: xs) = x.size + tot xs := tot_cons x xs
    have c1 : (i : Int) < (l.length : Int) := Int.ofNat_lt.mpr hn
    have c2 : 0 ≤ (i : Int) := Int.natCast_nonneg i
    have c3 : (i : Int) > 0 := Int.ofNat_lt.mpr hi
    have c4 : (0 : Int) < (p.size : Int) := by rw [hp]; decide
    have hxs : x.size ≤ 140737488351232 := by omega
    have hxk : x.size < k := by have := hM x hxm; simp only [List.length_cons] at hk; omega
    have s1 : acc.size + p.size ≤ 9223372036854775807 := by omega
    have s2 : (acc ++ p).size + x.size ≤ 9223372036854775807 := by rw [ByteArray.size_append]; omega
    have s3 : (acc ++ p ++ x).size = acc.size + 1 + x.size := by rw [ByteArray.size_append, ByteArray.size_append, hp]
    have dY : (acc ++ p ++ x).data.toList = acc.data.toList ++ p.data.toList ++ x.data.toList := by rw [app_data, app_data]
    simp only [spec_JoinStrings.l0, if_pos c1, if_pos c2, if_pos c3, if_pos c4, er, hc, stands_eq x c hxs hxk, Option.bind_some, if_pos s1, if_pos s2, s3, ew]
    clear s1 s2 c1 c2 c3 c4 er ew hc
    generalize acc ++ p ++ x = Y at *
    by_cases h : noC c x = true
    · simp only [h, Bool.not_true, Bool.false_eq_true, if_false, List.all_cons, Bool.true_and]
      by_cases h4 : ((acc.size + 1 + x.size : Nat) : Int) > 4000
      · have n4 : ¬ (acc.size + tot (x :: xs) + (x :: xs).length ≤ 4000) := by simp only [List.length_cons]; omega
        rw [if_pos h4, if_neg (fun z => n4 z.2)]
      · have q1 : Y.size ≤ 4000 := by omega
        have q2 : tot xs ≤ 1048576 := by omega
        have q3 : xs.length + M < k := by simp only [List.length_cons] at hk; omega
        rw [if_neg h4, specJoin_loop M l hM p hp c hc' hl xs k (i + 1) Y g2.symm (Nat.succ_pos i) q1 q2 q3, s3, dY, jt_cons]
        have e : acc.size + 1 + x.size + tot xs + xs.length = acc.size + tot (x :: xs) + (x :: xs).length := by
          simp only [List.length_cons]; omega
        rw [e]
        simp only [List.append_assoc]
    · simp only [h, Bool.not_false, if_true, List.all_cons, Bool.false_and, Bool.false_eq_true, false_and, if_false]
theorem implJoin_loop (l : List ByteArray) (p : ByteArray) (hp : p.size = 1) (c : UInt8) (hc : bt p 0 = (c.toNat : Int)) (hl : l.length ≤ 1048576) (J : ByteArray) (hJ : strings_Join.f l p = some J) : ∀ (xs : List ByteArray) (k i : Nat) (a : Int), l.drop i = xs → 0 ≤ a → a ≤ 4000000 → (a ≤ 4000 ∨ 0 < xs.length) → tot xs ≤ 1048576 → xs.length < k →
    impl_JoinStrings.l0 k l p a l (l.length : Int) (i : Int) = some (if xs.all (noC c) = true ∧ a + (tot xs : Int) ≤ 4000 then (J, true) else (⟨#[]⟩, false))
  | [], k, i, a, hx, h0, h1, hz, _, hk => by
    obtain ⟨k, rfl⟩ : ∃ m, k = m + 1 := ⟨k - 1, by omega⟩
    have hn : l.length ≤ i := List.drop_eq_nil_iff.mp hx
    have ha : a ≤ 4000 := hz.elim id (fun q => absurd q (by simp))
    simp only [impl_JoinStrings.l0]
    rw [if_neg (by omega), hJ, if_pos ⟨rfl, by rw [tot_nil]; simp; omega⟩]
    rfl
  | x :: xs, k, i, a, hx, h0, h1, hz, htx, hk => by
    obtain ⟨k, rfl⟩ : ∃ m, k = m + 1 := ⟨k - 1, by omega⟩
    clear hz
    have hn : i < l.length := by
      have := congrArg List.length hx
      simp at this
      omega
    have hd := List.drop_eq_getElem_cons hn
    rw [hx] at hd
    obtain ⟨g1, g2⟩ := List.cons.inj hd
    have ew : wrap64 ((i : Int) + 1) = ((i + 1 : Nat) : Int) := (w64 (by omega) (by omega)).trans (by omega)
    have er : rdOf ByteArray.empty l (i : Int) = x := by simp [rdOf, hn, g1]
    have et : tot (x :: xs) = x.size + tot xs := tot_cons x xs
    have ea : wrap64 (a + (x.size : Int)) = a + (x.size : Int) := w64 (by omega) (by omega)
    have c1 : (i : Int) < (l.length : Int) := by omega
    have c2 : 0 ≤ (i : Int) := by omega
    have c4 : (0 : Int) < (p.size : Int) := by omega
    have ec : (bt p 0).toNat.toUInt8 = c := by
      rw [hc, Int.toNat_natCast]
      exact UInt8.toNat_inj.mp (by simp [Nat.toUInt8])
    simp only [impl_JoinStrings.l0, if_pos c1, if_pos c2, if_pos c4, er, ea, strings_IndexByte.f, ec, Option.bind_some, ew]
    by_cases h4 : a + (x.size : Int) > 4000
    · rw [if_pos h4, if_neg (fun z => by have := z.2; omega)]
    · rw [if_neg h4]
      by_cases h : Lib.indexByte x.data.toList c < 0
      · have hn : noC c x = true := decide_eq_true h
        rw [if_neg (by omega), implJoin_loop l p hp c hc hl J hJ xs k (i + 1) (a + (x.size : Int)) g2.symm (by omega) (by omega) (.inl (by omega)) (by omega) (by simp only [List.length_cons] at hk; omega)]
        have e : (a + (x.size : Int) + (tot xs : Int) ≤ 4000) = (a + (tot (x :: xs) : Int) ≤ 4000) := by
          apply propext; omega
        simp only [List.all_cons, hn, Bool.true_and, e]
      · have hn : noC c x = false := decide_eq_false h
        rw [if_pos (by omega)]
        simp only [List.all_cons, hn, Bool.false_and, Bool.false_eq_true, false_and, if_false]
/-- JoinStrings. -/
def joinR (l : List ByteArray) (p : ByteArray) : ByteArray × Bool := if p.size = 1 ∧ l ≠ [] ∧ l.all (noC ((bt p 0).toNat.toUInt8)) = true ∧ tot l + l.length ≤ 4001 then (mkB (Lib.join (l.map (·.data.toList)) p.data.toList), true) else (⟨#[]⟩, false)
theorem jt_length (p : ByteArray) (hp : p.size = 1) : ∀ xs : List ByteArray, (jt p xs).length = tot xs + xs.length
  | [] => by rw [tot_nil]; rfl
  | x :: xs => by
    rw [jt_cons, List.length_append, List.length_append, size_data, size_data, jt_length p hp xs, hp]
    have et : tot (x :: xs) = x.size + tot xs := tot_cons x xs
    simp only [List.length_cons]
    omega
theorem join_jt (x p : ByteArray) (xs : List ByteArray) : Lib.join ((x :: xs).map (·.data.toList)) p.data.toList = x.data.toList ++ jt p xs := Lib.join_cons _ _ _
theorem specJoin_eq (M : Nat) (l : List ByteArray) (hM : ∀ s ∈ l, s.size < M) (p : ByteArray) (hl : l.length ≤ 1048576) (ht : tot l ≤ 1048576) {k : Nat} (hk : l.length + M + 4 < k) : spec_JoinStrings.f k l p = some (joinR l p) := by
  obtain ⟨k, rfl⟩ : ∃ m, k = m + 2 := ⟨k - 2, by omega⟩
  unfold spec_JoinStrings.f joinR
  by_cases hp : p.size = 1
  · have b := bt_range p 0
    have hc : bt p 0 = (((bt p 0).toNat.toUInt8).toNat : Int) := (u8_round _ b.1 b.2).symm
    have c0 : (p.size : Int) = 1 := by omega
    rw [if_pos c0]
    match l, hM, hl, ht, hk with
    | [], _, _, _, _ => simp [spec_JoinStrings.j0]
    | x :: xs, hM, hl, ht, hk =>
      have hxm : x ∈ x :: xs := List.mem_cons_self
      have et : tot (x :: xs) = x.size + tot xs := tot_cons x xs
      have el : (((x :: xs).length : Int) == 0) = false := by simp only [List.length_cons]; exact beq_eq_false_iff_ne.mpr (by omega)
      rw [el]
      simp only [spec_JoinStrings.j0, Bool.false_eq_true, if_false]
      generalize hcc : (bt p 0).toNat.toUInt8 = c at *
      have c1 : (0 : Int) < ((x :: xs).length : Int) := by simp only [List.length_cons]; omega
      have c3 : ¬ (0 : Int) > 0 := by omega
      have c4 : (0 : Int) < (p.size : Int) := by omega
      have er : rdOf ByteArray.empty (x :: xs) 0 = x := rfl
      have s0 : (⟨#[]⟩ : ByteArray).size = 0 := rfl
      have s1 : (⟨#[]⟩ : ByteArray).size + x.size ≤ 9223372036854775807 := by omega
      have s2 : (⟨#[]⟩ ++ x : ByteArray) = x := by
        apply ByteArray.ext
        rw [ByteArray.data_append]; simp
      have ew : wrap64 ((0 : Int) + 1) = ((1 : Nat) : Int) := w64 (by omega) (by omega)
      simp only [spec_JoinStrings.l0, if_pos c1, if_pos (Int.le_refl 0), if_pos c4, if_neg c3, er, hc, stands_eq x c (show x.size ≤ 140737488351232 by omega) (show x.size < k by have := hM x hxm; simp only [List.length_cons] at hk; omega), Option.bind_some, if_pos s1, s2, ew]
      have hne : (x :: xs) ≠ [] := by simp
      by_cases h : noC c x = true
      · simp only [h, Bool.not_true, Bool.false_eq_true, if_false, List.all_cons, Bool.true_and]
        by_cases h4 : (x.size : Int) > 4000
        · rw [if_pos h4, if_neg (fun z => by have := z.2.2.2; simp only [List.length_cons] at this; omega)]
        · rw [if_neg h4, specJoin_loop M (x :: xs) hM p hp c hc hl xs k 1 x rfl (by omega) (by omega) (by omega) (by simp only [List.length_cons] at hk; omega)]
          by_cases q : xs.all (noC c) = true ∧ x.size + tot xs + xs.length ≤ 4000
          · rw [if_pos q, if_pos ⟨hp, hne, q.1, by simp only [List.length_cons]; omega⟩, join_jt]
          · rw [if_neg q, if_neg (fun z => q ⟨z.2.2.1, by have := z.2.2.2; simp only [List.length_cons] at this; omega⟩)]
      · simp only [h, Bool.not_false, if_true, List.all_cons, Bool.false_and, Bool.false_eq_true, false_and, and_false, if_false]
  · rw [if_neg (by omega), if_neg (fun z => hp z.1)]
    simp [spec_JoinStrings.j0]
theorem implJoin_eq (l : List ByteArray) (p : ByteArray) (hl : l.length ≤ 1048576) (ht : tot l ≤ 1048576) {k : Nat} (hk : l.length + 2 < k) : impl_JoinStrings.f k l p = some (joinR l p) := by
  obtain ⟨k, rfl⟩ : ∃ m, k = m + 1 := ⟨k - 1, by omega⟩
  unfold impl_JoinStrings.f joinR
  match l, hl, ht, hk with
  | [], _, _, _ => simp [impl_JoinStrings.j0]
  | x :: xs, hl, ht, hk =>
    have et : tot (x :: xs) = x.size + tot xs := tot_cons x xs
    have hne : (x :: xs) ≠ [] := by simp
    rw [if_neg (by simp only [List.length_cons]; omega)]
    by_cases hp : p.size = 1
    · have b := bt_range p 0
      have hc : bt p 0 = (((bt p 0).toNat.toUInt8).toNat : Int) := (u8_round _ b.1 b.2).symm
      have hb : ((p.size : Int) != 1) = false := by rw [hp]; rfl
      have hJ : strings_Join.f (x :: xs) p = some (mkB (Lib.join ((x :: xs).map (·.data.toList)) p.data.toList)) := by
        unfold strings_Join.f
        rw [if_pos]
        · rfl
        · refine ⟨?_, by simp only [List.length_cons] at hl ⊢; omega⟩
          rw [join_jt, List.length_append, size_data, jt_length p hp]
          simp only [List.length_cons] at hl
          omega
      have ew : wrap64 (((x :: xs).length : Int) - 1) = (xs.length : Int) := (w64 (by simp only [List.length_cons]; omega) (by simp only [List.length_cons] at hl ⊢; omega)).trans (by simp only [List.length_cons]; omega)
      rw [hb]
      simp only [impl_JoinStrings.j0, Bool.false_eq_true, if_false, ew]
      have h := implJoin_loop (x :: xs) p hp _ hc hl _ hJ (x :: xs) k 0 (xs.length : Int) rfl (by omega) (by simp only [List.length_cons] at hl; omega) (.inr (by simp)) ht (by omega)
      have h' : impl_JoinStrings.l0 k (x :: xs) p (xs.length : Int) (x :: xs) ((x :: xs).length : Int) 0 = _ := h
      rw [h']
      by_cases q : (x :: xs).all (noC ((bt p 0).toNat.toUInt8)) = true ∧ (xs.length : Int) + (tot (x :: xs) : Int) ≤ 4000
      · rw [if_pos q, if_pos ⟨hp, hne, q.1, by simp only [List.length_cons]; omega⟩]
      · rw [if_neg q, if_neg (fun z => q ⟨z.2.2.1, by have := z.2.2.2; simp only [List.length_cons] at this; omega⟩)]
    · have hb : ((p.size : Int) != 1) = true := by simp; omega
      rw [hb, if_neg (fun z => hp z.1)]
      simp [impl_JoinStrings.j0]
theorem tot_mem : ∀ (l : List ByteArray) (s : ByteArray), s ∈ l → s.size ≤ tot l
  | x :: xs, s, h => by
    have et : tot (x :: xs) = x.size + tot xs := tot_cons x xs
    rcases List.mem_cons.mp h with rfl | h
    · omega
    · have := tot_mem xs s h
      omega

theorem set_step {α : Type} (m : List α) (z : α) (i n : Nat) (hm : m.length = n) (hi : i < n) :
    (m.take i ++ (List.replicate n z).drop i).set i (m[i]'(by omega)) = m.take (i + 1) ++ (List.replicate n z).drop (i + 1) := by
  have e1 : (List.replicate n z).drop i = z :: (List.replicate n z).drop (i + 1) := by
    rw [List.drop_eq_getElem_cons (by simpa using hi)]
    simp
  have e2 : (m.take i).length = i := by simp; omega
  rw [List.set_append_right _ _ (by omega), e2, Nat.sub_self, e1, List.set_cons_zero, List.take_succ_eq_append_getElem (by omega), List.append_assoc]
  rfl

theorem toStr_loop (l : List ByteArray) (hl : l.length ≤ 140737488351232) (d : Nat) : ∀ (k i : Nat), i + d = l.length → d < k →
    laws_toStringS.l0 k l (l.take i ++ (List.replicate l.length (⟨#[]⟩ : ByteArray)).drop i) (i : Int) = some l := by
  induction d with
  | zero =>
    intro k i hd hk
    obtain ⟨k, rfl⟩ : ∃ m, k = m + 1 := ⟨k - 1, by omega⟩
    simp only [laws_toStringS.l0]
    rw [if_neg (by omega)]
    have e : i = l.length := by omega
    subst e
    rw [List.take_of_length_le (by simp), List.drop_of_length_le (by simp), List.append_nil]
  | succ d ih =>
    intro k i hd hk
    obtain ⟨k, rfl⟩ : ∃ m, k = m + 1 := ⟨k - 1, by omega⟩
    have hi : i < l.length := by omega
    have hlen : (l.take i ++ (List.replicate l.length (⟨#[]⟩ : ByteArray)).drop i).length = l.length := by simp; omega
    have ew : wrap64 ((i : Int) + 1) = ((i + 1 : Nat) : Int) := (w64 (by omega) (by omega)).trans (by omega)
    have er : rdOf ByteArray.empty l (i : Int) = l[i] := by simp [rdOf, hi]
    simp only [laws_toStringS.l0]
    rw [if_pos (by omega), if_pos (by omega), if_pos (by rw [hlen]; omega), ew, er]
    have es : ((l.take i ++ (List.replicate l.length (⟨#[]⟩ : ByteArray)).drop i).set (i : Int).toNat l[i]) = l.take (i + 1) ++ (List.replicate l.length (⟨#[]⟩ : ByteArray)).drop (i + 1) := by
      have := set_step l (⟨#[]⟩ : ByteArray) i l.length rfl hi
      simpa using this
    have h := ih k (i + 1) (by omega) (by omega)
    rw [← es] at h
    exact h
theorem toStr_eq (l : List ByteArray) (hl : l.length ≤ 2097152) {k : Nat} (hk : l.length < k) : laws_toStringS.f k l = some l := by
  unfold laws_toStringS.f
  rw [if_pos (by omega), if_pos (by rw [Int.toNat_natCast]; omega)]
  have h := toStr_loop l (by omega) l.length k 0 (by omega) hk
  simpa using h

theorem eqStr_loop (x : List ByteArray) (hx : x.length ≤ 100000000) (d : Nat) : ∀ (k i : Nat), i + d = x.length → d < k → laws_eqStringS.l0 k x x (i : Int) = some true := by
  induction d with
  | zero =>
    intro k i hi hk
    obtain ⟨k, rfl⟩ : ∃ m, k = m + 1 := ⟨k - 1, by omega⟩
    simp only [laws_eqStringS.l0]
    rw [if_neg (by omega)]
  | succ d ih =>
    intro k i hi hk
    obtain ⟨k, rfl⟩ : ∃ m, k = m + 1 := ⟨k - 1, by omega⟩
    have c1 : (i : Int) < (x.length : Int) := by omega
    have c2 : 0 ≤ (i : Int) := by omega
    have e1 : wrap64 ((i : Int) + 1) = ((i + 1 : Nat) : Int) := (w64 (by omega) (by omega)).trans (by omega)
    simp only [laws_eqStringS.l0, if_pos c1, if_pos c2, if_true, e1]
    exact ih k (i + 1) (by omega) (by omega)
theorem eqStr_eq (x : List ByteArray) (hx : x.length ≤ 100000000) {k : Nat} (hk : x.length < k) : laws_eqStringS.f k x x = some true := by
  unfold laws_eqStringS.f
  rw [if_pos rfl]
  exact eqStr_loop x hx x.length k 0 (by omega) hk

theorem FnExactJoinStrings : Asked := by
  intro l p hl hw _
  obtain ⟨t, e, ht⟩ := sz_eq l (by omega) hw
  obtain ⟨M, hM⟩ : ∃ M : Nat, 1048576 < M := ⟨1048577, by omega⟩
  refine ⟨l.length + M + 10, ?_⟩
  generalize hK : l.length + M + 10 = K
  obtain ⟨K, rfl⟩ : ∃ m, K = m + 1 := ⟨K - 1, by omega⟩
  unfold laws_FnExactJoinStrings.f
  by_cases c1 : (p.size : Int) > 1048576
  · rw [if_pos c1]
  · rw [if_neg c1, e _ (by omega)]
    simp only [Option.bind_some]
    by_cases c : t < 0
    · rw [if_pos c]
    · have hb : (tot l : Int) + (l.length : Int) ≤ 1048576 := ht.elim (fun z => absurd z c) id
      rw [if_neg c]
      simp only [toStr_eq l (by omega) (show l.length < K + 1 by omega), specJoin_eq M l (fun s hs => by have := tot_mem l s hs; omega) p (by omega) (by omega) (show l.length + M + 4 < K + 1 by omega), implJoin_eq l p (by omega) (by omega) (show l.length + 2 < K + 1 by omega), Option.bind_some, if_true, bne_self_eq_false,
        laws_FnExactJoinStrings.j0, Bool.false_eq_true, if_false, toStr_eq l (by omega) (show l.length < K by omega), eqStr_eq l (by omega) (show l.length < K by omega)]
end Go.Proofs.Ytpfmhoikhnhdcaa.Pure
