/- The pure statement of the law of splitting and joining: true for every list of bytes to draw from; no condition but the reach. -/
import Derived.Test.YtpfmhoikhnhdcaaAskFnSplitJoin
namespace Go.Proofs.Ytpfmhoikhnhdcaa.Pure
open Go.RowKit Go.Proofs.Ytpfmhoikhnhdcaa.XFnSplitJoin Go.Proofs.Ytpfmhoikhnhdcaa.AskFnSplitJoin Go.Proofs.YtpfmhoikhnhdcaaW.PrintWords Go.Proofs.YtpfmhoikhnhdcaaW.PrintLast
set_option linter.unusedVariables false
set_option linter.unusedSimpArgs false

theorem w64 {x : Int} (h0 : -9223372036854775808 ≤ x) (h1 : x ≤ 9223372036854775807) : wrap64 x = x := by
  unfold wrap64
  omega

theorem td {x y : Int} (h : 0 ≤ x) : Int.tdiv x y = x / y := Int.tdiv_eq_ediv_of_nonneg h
theorem tm {x y : Int} (h : 0 ≤ x) : Int.tmod x y = x % y := Int.tmod_eq_emod_of_nonneg h

theorem rd_u8 {l : List Int} (hl : ∀ y ∈ l, (Lit.int .u8 y).wf = true) (i : Int) : 0 ≤ rd l i ∧ rd l i ≤ 255 := by
  unfold rd
  rw [List.getD_eq_getElem?_getD]
  cases e : l[i.toNat]? with
  | none => simp
  | some x =>
    have h := hl x (List.mem_of_getElem? e)
    simp only [Lit.wf, Bool.and_eq_true, decide_eq_true_eq] at h
    have h2 : 0 ≤ x ∧ x ≤ 255 := h
    simpa using h2
theorem and_255 (x : Int) (h0 : 0 ≤ x) (h1 : x < 18446744073709551616) : 0 ≤ Go.bits .and .u64 x 255 ∧ Go.bits .and .u64 x 255 ≤ 255 := by
  have h := bits_and_u64_nat x.toNat 255 (by omega) (by omega)
  have e : ((x.toNat : Nat) : Int) = x := Int.toNat_of_nonneg h0
  rw [e] at h
  have e2 : ((255 : Nat) : Int) = 255 := rfl
  rw [e2] at h
  rw [h]
  have := Nat.and_le_right (n := x.toNat) (m := 255)
  omega
/-- A state's place: not negative, and not too far. -/
def Pl (p : Int) : Prop := 0 ≤ p ∧ p ≤ 1000000
theorem u64_bound (x : Int) : 0 ≤ IntKind.u64.wrap x ∧ IntKind.u64.wrap x < 18446744073709551616 := by
  have e : IntKind.u64.wrap x = x % 18446744073709551616 := rfl
  rw [e]
  omega
theorem next_ok {l : List Int} (hl : ∀ y ∈ l, (Lit.int .u8 y).wf = true) (p q : Int) (h0 : 0 ≤ p) (h1 : p ≤ 1000000) : ∃ v p' q', spec_l1Cur_next.f l p q = some (v, p', q') ∧ 0 ≤ v ∧ v ≤ 255 ∧ 0 ≤ p' ∧ p' ≤ p + 1 := by
  have ep : wrap64 (p + 1) = p + 1 := w64 (by omega) (by omega)
  have hd : ∀ x : Int, 0 ≤ wrap64 (Go.bits .and .u64 (IntKind.u64.wrap x / 1099511627776) 255) ∧ wrap64 (Go.bits .and .u64 (IntKind.u64.wrap x / 1099511627776) 255) ≤ 255 := by
    intro x
    have hb := u64_bound x
    have h := and_255 (IntKind.u64.wrap x / 1099511627776) (by omega) (by omega)
    rw [w64 (by omega) (by omega)]
    exact h
  unfold spec_l1Cur_next.f
  rw [ep]
  have hr := rd_u8 hl p
  have er : wrap64 (rd l p) = rd l p := w64 (by omega) (by omega)
  by_cases c : p < (l.length : Int)
  · have c2 : p + 1 ≤ (l.length : Int) := by omega
    simp only [if_pos c, if_pos h0, if_pos c2]
    exact ⟨_, _, _, rfl, by rw [er]; exact hr.1, by rw [er]; exact hr.2, by omega, by omega⟩
  · have c2 : ¬ p + 1 ≤ (l.length : Int) := by omega
    simp only [if_neg c, if_neg c2]
    exact ⟨_, _, _, rfl, (hd _).1, (hd _).2, by omega, by omega⟩
theorem pick_ok {l : List Int} (hl : ∀ y ∈ l, (Lit.int .u8 y).wf = true) (p q n : Int) (h0 : 0 ≤ p) (h1 : p ≤ 900000) (hn : 1 ≤ n) (hn1 : n ≤ 1000000) : ∃ v p' q', spec_l1Cur_pick.f l p q n = some (v, p', q') ∧ 0 ≤ v ∧ v < n ∧ 0 ≤ p' ∧ p' ≤ p + 2 := by
  unfold spec_l1Cur_pick.f
  by_cases c : n ≤ 1
  · rw [if_pos c]
    exact ⟨_, _, _, rfl, by omega, by omega, by omega, by omega⟩
  · have cz : ¬ n = 0 := by omega
    obtain ⟨v, p1, q1, e1, a1, a2, a3, a4⟩ := next_ok hl p q h0 (by omega)
    rw [if_neg c, e1]
    simp only [Option.bind_some, if_neg cz]
    by_cases c2 : n > 200
    · obtain ⟨v2, p2, q2, e2, b1, b2, b3, b4⟩ := next_ok hl p1 q1 a3 (by omega)
      rw [if_pos c2, e2]
      simp only [Option.bind_some]
      rw [w64 (x := v * 256) (by omega) (by omega), w64 (x := v * 256 + v2) (by omega) (by omega), Int.tmod_eq_emod_of_nonneg (by omega)]
      exact ⟨_, _, _, rfl, Int.emod_nonneg _ cz, Int.emod_lt_of_pos _ (by omega), by omega, by omega⟩
    · rw [if_neg c2, Int.tmod_eq_emod_of_nonneg (by omega)]
      exact ⟨_, _, _, rfl, Int.emod_nonneg _ cz, Int.emod_lt_of_pos _ (by omega), by omega, by omega⟩

theorem one_ok {l : List Int} (hl : ∀ y ∈ l, (Lit.int .u8 y).wf = true) (p q n : Int) (h0 : 0 ≤ p) (h1 : p ≤ 900000) (hn : 1 ≤ n) (hn1 : n ≤ 1000000) : ∃ b p' q', spec_l1Cur_one.f l p q n = some (b, p', q') ∧ 0 ≤ p' ∧ p' ≤ p + 2 := by
  obtain ⟨v, p1, q1, e1, a1, a2, a3, a4⟩ := pick_ok hl p q n h0 h1 hn hn1
  unfold spec_l1Cur_one.f
  rw [e1]
  exact ⟨_, _, _, rfl, a3, a4⟩

theorem of_ok {l : List Int} (hl : ∀ y ∈ l, (Lit.int .u8 y).wf = true) (p q : Int) (xs : List ByteArray) (h0 : 0 ≤ p) (h1 : p ≤ 900000) (hx : 1 ≤ xs.length) (hx1 : xs.length ≤ 1000000) {P : ByteArray → Prop} (hP : ∀ x ∈ xs, P x) : ∃ s p' q', spec_l1Cur_of.f l p q xs = some (s, p', q') ∧ P s ∧ 0 ≤ p' ∧ p' ≤ p + 2 := by
  obtain ⟨v, p1, q1, e1, a1, a2, a3, a4⟩ := pick_ok hl p q (xs.length : Int) h0 h1 (by omega) (by omega)
  unfold spec_l1Cur_of.f
  rw [e1]
  simp only [Option.bind_some]
  rw [if_pos a1, if_pos a2]
  refine ⟨_, _, _, rfl, hP _ ?_, a3, a4⟩
  have hlt : v.toNat < xs.length := by omega
  have e : rdOf ByteArray.empty xs v = xs[v.toNat] := by simp [rdOf, hlt]
  rw [e]
  exact List.getElem_mem hlt
theorem any1_ok {l : List Int} (hl : ∀ y ∈ l, (Lit.int .u8 y).wf = true) (p q : Int) (h0 : 0 ≤ p) (h1 : p ≤ 900000) : ∃ s p' q', spec_l1Cur_any1.f l p q = some (s, p', q') ∧ s.size ≤ 10 ∧ 0 ≤ p' ∧ p' ≤ p + 2 := by
  unfold spec_l1Cur_any1.f
  obtain ⟨s, p1, q1, e1, a1, a2, a3⟩ := of_ok hl p q ([(⟨#[]⟩ : ByteArray), (⟨#[97]⟩ : ByteArray), (⟨#[97, 44, 98]⟩ : ByteArray), (⟨#[115, 111, 109, 101, 32, 119, 111, 114, 100, 115]⟩ : ByteArray), (⟨#[120, 35, 121]⟩ : ByteArray), (⟨#[45, 49, 50]⟩ : ByteArray), (⟨#[0, 255]⟩ : ByteArray), (⟨#[44, 44]⟩ : ByteArray), (⟨#[48]⟩ : ByteArray)] : List ByteArray) h0 h1 (by decide) (by decide) (P := fun s => s.size ≤ 10) (by decide)
  rw [e1]
  exact ⟨_, _, _, rfl, a1, a2, a3⟩

/-- A text cut at a byte. -/
def sp (c : UInt8) (cur : List UInt8) : List UInt8 → List (List UInt8)
  | [] => [cur]
  | b :: l => if b = c then cur :: sp c [] l else sp c (cur ++ [b]) l
def mkB (l : List UInt8) : ByteArray := ⟨l.toArray⟩
theorem sp_length (c : UInt8) : ∀ (l cur : List UInt8), (sp c cur l).length ≤ l.length + 1
  | [], _ => Nat.le_refl _
  | b :: l, cur => by
    unfold sp
    split
    · have := sp_length c l []; simp only [List.length_cons]; omega
    · have := sp_length c l (cur ++ [b]); simp only [List.length_cons]; omega
theorem extract_mk (s : ByteArray) (i j : Nat) : s.extract i j = mkB ((s.data.toList.take j).drop i) := by
  apply ByteArray.ext
  rw [ByteArray.data_extract]
  apply Array.ext'
  simp [mkB, List.drop_take]
theorem size_data (s : ByteArray) : s.data.toList.length = s.size := Array.length_toList
theorem mk_data (s : ByteArray) : mkB s.data.toList = s := by simp [mkB]
theorem bt_list (s : ByteArray) (i : Nat) (h : i < s.size) : bt s (i : Int) = ((s.data.toList[i]'(by rw [size_data]; exact h)).toNat : Int) := by
  unfold bt
  rw [dif_pos (show (i : Int).toNat < s.size by omega)]
  rfl
theorem toNat_eq {x y : UInt8} : (x.toNat : Int) = (y.toNat : Int) ↔ x = y := by
  constructor
  · intro h
    exact UInt8.toNat_inj.mp (by omega)
  · intro h
    rw [h]
theorem idx_none (c : UInt8) : ∀ (l cur : List UInt8), Lib.indexByte l c < 0 → sp c cur l = [cur ++ l]
  | [], cur, _ => by simp [sp]
  | b :: l, cur, h => by
    unfold Lib.indexByte at h
    by_cases e : b = c
    · simp [e] at h
    · have hb : (b == c) = false := by simp [e]
      rw [hb] at h
      simp only [Bool.false_eq_true, if_false] at h
      have g := Lib.indexByte_ge l c
      have h2 : Lib.indexByte l c < 0 := by
        by_cases z : (Lib.indexByte l c == -1) = true
        · have := eq_of_beq z; omega
        · rw [if_neg z] at h; omega
      unfold sp
      rw [if_neg e, idx_none c l _ h2, List.append_assoc, List.singleton_append]
theorem idx_some (c : UInt8) : ∀ (l cur : List UInt8), 0 ≤ Lib.indexByte l c → (Lib.indexByte l c).toNat < l.length ∧ sp c cur l = (cur ++ l.take (Lib.indexByte l c).toNat) :: sp c [] (l.drop ((Lib.indexByte l c).toNat + 1))
  | [], cur, h => by simp [Lib.indexByte] at h
  | b :: l, cur, h => by
    unfold Lib.indexByte at h ⊢
    by_cases e : b = c
    · simp [e, sp]
    · have hb : (b == c) = false := by simp [e]
      rw [hb] at h ⊢
      simp only [Bool.false_eq_true, if_false] at h ⊢
      by_cases z : (Lib.indexByte l c == -1) = true
      · rw [if_pos z] at h; omega
      · rw [if_neg z] at h ⊢
        have g := Lib.indexByte_ge l c
        have h2 : 0 ≤ Lib.indexByte l c := by
          have : ¬ Lib.indexByte l c = -1 := fun q => z (by simp [q])
          omega
        obtain ⟨i1, i2⟩ := idx_some c l (cur ++ [b]) h2
        have et : (Lib.indexByte l c + 1).toNat = (Lib.indexByte l c).toNat + 1 := by omega
        rw [et]
        refine ⟨by simp only [List.length_cons]; omega, ?_⟩
        rw [show sp c cur (b :: l) = sp c (cur ++ [b]) l from if_neg e, i2, List.take_succ_cons, List.drop_succ_cons, List.append_assoc, List.singleton_append]
theorem u8_round (x : Int) (h0 : 0 ≤ x) (h1 : x ≤ 255) : ((x.toNat.toUInt8).toNat : Int) = x := by
  have e : (x.toNat.toUInt8).toNat = x.toNat % 256 := by simp [Nat.toUInt8]
  rw [e]; omega

theorem implSplit_loop (x1 : ByteArray) (h1 : 0 < x1.size) (d : Nat) : ∀ (k : Nat) (s : ByteArray) (acc : List ByteArray), s.size ≤ d → d ≤ 4000 → acc.length + d ≤ 100000 → d < k →
    impl_SplitString.l0 k s x1 acc = some (acc ++ (sp ((bt x1 0).toNat.toUInt8) [] s.data.toList).map mkB, true) := by
  induction d with
  | zero =>
    intro k s acc hd hm ha hk
    obtain ⟨k, rfl⟩ : ∃ m, k = m + 1 := ⟨k - 1, by omega⟩
    have p1 : (0 : Int) < (x1.size : Int) := by omega
    have p3 : acc.length < 8796093022208 := by omega
    have e0 : s.data.toList = [] := List.eq_nil_of_length_eq_zero (by rw [size_data]; omega)
    have hi : Lib.indexByte s.data.toList ((bt x1 0).toNat.toUInt8) < 0 := by rw [e0]; show (-1 : Int) < 0; decide
    simp only [impl_SplitString.l0, if_pos p1, strings_IndexByte.f, Option.bind_some, if_pos hi, if_pos p3, idx_none _ _ _ hi, List.nil_append, List.map_cons, List.map_nil, mk_data]
  | succ d ih =>
    intro k s acc hd hm ha hk
    obtain ⟨k, rfl⟩ : ∃ m, k = m + 1 := ⟨k - 1, by omega⟩
    have p1 : (0 : Int) < (x1.size : Int) := by omega
    have p3 : acc.length < 8796093022208 := by omega
    simp only [impl_SplitString.l0, if_pos p1, strings_IndexByte.f, Option.bind_some]
    by_cases hi : Lib.indexByte s.data.toList ((bt x1 0).toNat.toUInt8) < 0
    · simp only [if_pos hi, if_pos p3, idx_none _ _ _ hi, List.nil_append, List.map_cons, List.map_nil, mk_data]
    · obtain ⟨g1, g2⟩ := idx_some ((bt x1 0).toNat.toUInt8) s.data.toList [] (by omega)
      rw [size_data] at g1
      generalize Lib.indexByte s.data.toList ((bt x1 0).toNat.toUInt8) = i at *
      have q0 : 0 ≤ i := by omega
      have q1 : i ≤ (s.size : Int) := by omega
      have ew : wrap64 (i + 1) = i + 1 := w64 (by omega) (by omega)
      have q2 : 0 ≤ i + 1 := by omega
      have q3 : i + 1 ≤ (s.size : Int) := by omega
      have en : (i + 1).toNat = i.toNat + 1 := by omega
      have el : (s.extract (i.toNat + 1) s.size).data.toList = s.data.toList.drop (i.toNat + 1) := by
        rw [extract_mk, List.take_of_length_le (by rw [size_data]; omega)]
        simp [mkB]
      have hsz : (s.extract (i.toNat + 1) s.size).size ≤ d := by
        rw [← size_data, el, List.length_drop, size_data]; omega
      simp only [if_neg hi, if_pos q0, if_pos q1, if_pos p3, ew, if_pos q2, if_pos q3, en]
      rw [ih k _ _ hsz (by omega) (by simp; omega) (by omega), el, g2, extract_mk]
      simp
/-- SplitString. -/
def splitR (s p : ByteArray) : List ByteArray × Bool := if p.size = 1 ∧ s.size ≤ 4000 then ((sp ((bt p 0).toNat.toUInt8) [] s.data.toList).map mkB, true) else ([], false)
theorem splitR_length (s p : ByteArray) : (splitR s p).1.length ≤ 4001 := by
  unfold splitR
  split
  · rename_i h
    have := sp_length ((bt p 0).toNat.toUInt8) s.data.toList []
    rw [size_data] at this
    simp only [List.length_map]
    omega
  · simp
theorem implSplit_eq (s p : ByteArray) {k : Nat} (hk : 4002 < k) : impl_SplitString.f k s p = some (splitR s p) := by
  obtain ⟨k, rfl⟩ : ∃ m, k = m + 1 := ⟨k - 1, by omega⟩
  unfold impl_SplitString.f splitR
  by_cases h2 : s.size ≤ 4000
  · have c2 : ¬ (s.size : Int) > 4000 := by omega
    rw [if_neg c2]
    by_cases h : p.size = 1
    · have e := implSplit_loop p (by omega) s.size k s [] (by omega) h2 (by simp; omega) (by omega)
      rw [if_pos ⟨h, h2⟩, h]
      simp only [impl_SplitString.j0]
      rw [if_neg (by decide), e]
      simp
    · have hb : ((p.size : Int) != 1) = true := by simp; omega
      rw [if_neg (fun z => h z.1), hb]
      simp [impl_SplitString.j0]
  · rw [if_pos (by omega), if_neg (fun z => h2 z.2)]
    simp [impl_SplitString.j0]

def noC (c : UInt8) (s : ByteArray) : Bool := decide (Lib.indexByte s.data.toList c < 0)

theorem stands_loop (s : ByteArray) (c : UInt8) (hs : s.size ≤ 140737488351232) (d : Nat) : ∀ (k i : Nat), i + d = s.size → d < k →
    spec_l1Stands.l0 k s (c.toNat : Int) (i : Int) = some (!decide (Lib.indexByte (s.data.toList.drop i) c < 0)) := by
  induction d with
  | zero =>
    intro k i hi hk
    obtain ⟨k, rfl⟩ : ∃ m, k = m + 1 := ⟨k - 1, by omega⟩
    simp only [spec_l1Stands.l0]
    rw [if_neg (by omega), List.drop_of_length_le (by rw [size_data]; omega)]
    rfl
  | succ d ih =>
    intro k i hi hk
    obtain ⟨k, rfl⟩ : ∃ m, k = m + 1 := ⟨k - 1, by omega⟩
    have n1 : (i : Int) < (s.size : Int) := by omega
    have p0 : (0 : Int) ≤ (i : Int) := by omega
    have hL : i < s.data.toList.length := by rw [size_data]; omega
    have ew : wrap64 ((i : Int) + 1) = ((i + 1 : Nat) : Int) := (w64 (by omega) (by omega)).trans (by omega)
    have hd := List.drop_eq_getElem_cons hL
    have eb := bt_list s i (by omega)
    simp only [spec_l1Stands.l0, if_pos n1, if_pos p0, eb, toNat_eq, ew]
    rw [hd]
    unfold Lib.indexByte
    by_cases h : s.data.toList[i] = c
    · simp [h]
    · have hb : (s.data.toList[i] == c) = false := beq_eq_false_iff_ne.mpr h
      rw [if_neg h, ih k (i + 1) (by omega) (by omega), hb]
      simp only [Bool.false_eq_true, if_false]
      have g := Lib.indexByte_ge (s.data.toList.drop (i + 1)) c
      refine congrArg some (congrArg (!·) (decide_eq_decide.mpr ?_))
      by_cases z : (Lib.indexByte (s.data.toList.drop (i + 1)) c == -1) = true
      · have := eq_of_beq z
        rw [if_pos z]; omega
      · have : ¬ Lib.indexByte (s.data.toList.drop (i + 1)) c = -1 := fun q => z (by simp [q])
        rw [if_neg z]; omega
theorem stands_eq (s : ByteArray) (c : UInt8) (hs : s.size ≤ 140737488351232) {k : Nat} (hk : s.size < k) : spec_l1Stands.f k s (c.toNat : Int) = some (!noC c s) := by
  unfold spec_l1Stands.f noC
  have h := stands_loop s c hs s.size k 0 (by omega) hk
  simpa using h

def tot (l : List ByteArray) : Nat := (l.map (·.size)).sum
theorem tot_nil : tot [] = 0 := rfl
theorem tot_cons (x : ByteArray) (xs : List ByteArray) : tot (x :: xs) = x.size + tot xs := by simp [tot]
attribute [irreducible] tot

def jt (p : ByteArray) (xs : List ByteArray) : List UInt8 := Lib.joinTail p.data.toList (xs.map (·.data.toList))
theorem jt_cons (p x : ByteArray) (xs : List ByteArray) : jt p (x :: xs) = p.data.toList ++ x.data.toList ++ jt p xs := by simp [jt, Lib.joinTail]
theorem mkB_data (l : List UInt8) : (mkB l).data.toList = l := by simp [mkB]
theorem app_data (a b : ByteArray) : (a ++ b).data.toList = a.data.toList ++ b.data.toList := by simp [ByteArray.data_append]
theorem specJoin_loop (M : Nat) (l : List ByteArray) (hM : ∀ s ∈ l, s.size < M) (p : ByteArray) (hp : p.size = 1) (c : UInt8) (hc : bt p 0 = (c.toNat : Int)) (hl : l.length ≤ 1048576) : ∀ (xs : List ByteArray) (k i : Nat) (acc : ByteArray), l.drop i = xs → 0 < i → acc.size ≤ 4000 → tot xs ≤ 1048576 → xs.length + M < k →
    spec_JoinStrings.l0 k l p acc (i : Int) = some (if xs.all (noC c) = true ∧ acc.size + tot xs + xs.length ≤ 4000 then (mkB (acc.data.toList ++ jt p xs), true) else (⟨#[]⟩, false))
  | [], k, i, acc, hx, hi, ha, _, hk => by
    obtain ⟨k, rfl⟩ : ∃ m, k = m + 1 := ⟨k - 1, by omega⟩
    have hn : l.length ≤ i := List.drop_eq_nil_iff.mp hx
    simp only [spec_JoinStrings.l0]
    rw [if_neg (by omega), if_pos ⟨rfl, by rw [tot_nil]; simp; omega⟩]
    have : jt p [] = [] := rfl
    rw [this, List.append_nil, mk_data]
  | x :: xs, k, i, acc, hx, hi, ha, htx, hk => by
    obtain ⟨k, rfl⟩ : ∃ m, k = m + 1 := ⟨k - 1, by omega⟩
    have hn : i < l.length := by
      have := congrArg List.length hx
      simp at this
      omega
    have hd := List.drop_eq_getElem_cons hn
    rw [hx] at hd
    obtain ⟨g1, g2⟩ := List.cons.inj hd
    have ew : wrap64 ((i : Int) + 1) = ((i + 1 : Nat) : Int) := (w64 (by omega) (by omega)).trans (by omega)
    have hc' := hc
    have er : rdOf ByteArray.empty l (i : Int) = x := by simp [rdOf, hn, g1]
    have hxm : x ∈ l := by rw [g1]; exact List.getElem_mem hn
    have et : tot (x :: xs) = x.size + tot xs := tot_cons x xs
    have c1 : (i : Int) < (l.length : Int) := Int.ofNat_lt.mpr hn
    have c2 : 0 ≤ (i : Int) := Int.natCast_nonneg i
    have c3 : (i : Int) > 0 := Int.ofNat_lt.mpr hi
    have c4 : (0 : Int) < (p.size : Int) := by rw [hp]; decide
    have hxs : x.size ≤ 140737488351232 := by omega
    have hxk : x.size < k := by have := hM x hxm; simp only [List.length_cons] at hk; omega
    have s1 : acc.size + p.size ≤ 9223372036854775807 := by omega
    have s2 : (acc ++ p).size + x.size ≤ 9223372036854775807 := by rw [ByteArray.size_append]; omega
    have s3 : (acc ++ p ++ x).size = acc.size + 1 + x.size := by rw [ByteArray.size_append, ByteArray.size_append, hp]
    have dY : (acc ++ p ++ x).data.toList = acc.data.toList ++ p.data.toList ++ x.data.toList := by rw [app_data, app_data]
    simp only [spec_JoinStrings.l0, if_pos c1, if_pos c2, if_pos c3, if_pos c4, er, hc, stands_eq x c hxs hxk, Option.bind_some, if_pos s1, if_pos s2, s3, ew]
    clear s1 s2 c1 c2 c3 c4 er ew hc
    generalize acc ++ p ++ x = Y at *
    by_cases h : noC c x = true
    · simp only [h, Bool.not_true, Bool.false_eq_true, if_false, List.all_cons, Bool.true_and]
      by_cases h4 : ((acc.size + 1 + x.size : Nat) : Int) > 4000
      · have n4 : ¬ (acc.size + tot (x :: xs) + (x :: xs).length ≤ 4000) := by simp only [List.length_cons]; omega
        rw [if_pos h4, if_neg (fun z => n4 z.2)]
      · have q1 : Y.size ≤ 4000 := by omega
        have q2 : tot xs ≤ 1048576 := by omega
        have q3 : xs.length + M < k := by simp only [List.length_cons] at hk; omega
        rw [if_neg h4, specJoin_loop M l hM p hp c hc' hl xs k (i + 1) Y g2.symm (Nat.succ_pos i) q1 q2 q3, s3, dY, jt_cons]
        have e : acc.size + 1 + x.size + tot xs + xs.length = acc.size + tot (x :: xs) + (x :: xs).length := by
          simp only [List.length_cons]; omega
        rw [e]
        simp only [List.append_assoc]
    · simp only [h, Bool.not_false, if_true, List.all_cons, Bool.false_and, Bool.false_eq_true, false_and, if_false]
theorem implJoin_loop (l : List ByteArray) (p : ByteArray) (hp : p.size = 1) (c : UInt8) (hc : bt p 0 = (c.toNat : Int)) (hl : l.length ≤ 1048576) (J : ByteArray) (hJ : strings_Join.f l p = some J) : ∀ (xs : List ByteArray) (k i : Nat) (a : Int), l.drop i = xs → 0 ≤ a → a ≤ 4000000 → (a ≤ 4000 ∨ 0 < xs.length) → tot xs ≤ 1048576 → xs.length < k →
    impl_JoinStrings.l0 k l p a l (l.length : Int) (i : Int) = some (if xs.all (noC c) = true ∧ a + (tot xs : Int) ≤ 4000 then (J, true) else (⟨#[]⟩, false))
  | [], k, i, a, hx, h0, h1, hz, _, hk => by
    obtain ⟨k, rfl⟩ : ∃ m, k = m + 1 := ⟨k - 1, by omega⟩
    have hn : l.length ≤ i := List.drop_eq_nil_iff.mp hx
    have ha : a ≤ 4000 := hz.elim id (fun q => absurd q (by simp))
    simp only [impl_JoinStrings.l0]
    rw [if_neg (by omega), hJ, if_pos ⟨rfl, by rw [tot_nil]; simp; omega⟩]
    rfl
  | x :: xs, k, i, a, hx, h0, h1, hz, htx, hk => by
    obtain ⟨k, rfl⟩ : ∃ m, k = m + 1 := ⟨k - 1, by omega⟩
    clear hz
    have hn : i < l.length := by
      have := congrArg List.length hx
      simp at this
      omega
    have hd := List.drop_eq_getElem_cons hn
    rw [hx] at hd
    obtain ⟨g1, g2⟩ := List.cons.inj hd
    have ew : wrap64 ((i : Int) + 1) = ((i + 1 : Nat) : Int) := (w64 (by omega) (by omega)).trans (by omega)
    have er : rdOf ByteArray.empty l (i : Int) = x := by simp [rdOf, hn, g1]
    have et : tot (x :: xs) = x.size + tot xs := tot_cons x xs
    have ea : wrap64 (a + (x.size : Int)) = a + (x.size : Int) := w64 (by omega) (by omega)
    have c1 : (i : Int) < (l.length : Int) := by omega
    have c2 : 0 ≤ (i : Int) := by omega
    have c4 : (0 : Int) < (p.size : Int) := by omega
    have ec : (bt p 0).toNat.toUInt8 = c := by
      rw [hc, Int.toNat_natCast]
      exact UInt8.toNat_inj.mp (by simp [Nat.toUInt8])
    simp only [impl_JoinStrings.l0, if_pos c1, if_pos c2, if_pos c4, er, ea, strings_IndexByte.f, ec, Option.bind_some, ew]
    by_cases h4 : a + (x.size : Int) > 4000
    · rw [if_pos h4, if_neg (fun z => by have := z.2; omega)]
    · rw [if_neg h4]
      by_cases h : Lib.indexByte x.data.toList c < 0
      · have hn : noC c x = true := decide_eq_true h
        rw [if_neg (by omega), implJoin_loop l p hp c hc hl J hJ xs k (i + 1) (a + (x.size : Int)) g2.symm (by omega) (by omega) (.inl (by omega)) (by omega) (by simp only [List.length_cons] at hk; omega)]
        have e : (a + (x.size : Int) + (tot xs : Int) ≤ 4000) = (a + (tot (x :: xs) : Int) ≤ 4000) := by
          apply propext; omega
        simp only [List.all_cons, hn, Bool.true_and, e]
      · have hn : noC c x = false := decide_eq_false h
        rw [if_pos (by omega)]
        simp only [List.all_cons, hn, Bool.false_and, Bool.false_eq_true, false_and, if_false]
/-- JoinStrings. -/
def joinR (l : List ByteArray) (p : ByteArray) : ByteArray × Bool := if p.size = 1 ∧ l ≠ [] ∧ l.all (noC ((bt p 0).toNat.toUInt8)) = true ∧ tot l + l.length ≤ 4001 then (mkB (Lib.join (l.map (·.data.toList)) p.data.toList), true) else (⟨#[]⟩, false)
theorem jt_length (p : ByteArray) (hp : p.size = 1) : ∀ xs : List ByteArray, (jt p xs).length = tot xs + xs.length
  | [] => by rw [tot_nil]; rfl
  | x :: xs => by
    rw [jt_cons, List.length_append, List.length_append, size_data, size_data, jt_length p hp xs, hp]
    have et : tot (x :: xs) = x.size + tot xs := tot_cons x xs
    simp only [List.length_cons]
    omega
theorem join_jt (x p : ByteArray) (xs : List ByteArray) : Lib.join ((x :: xs).map (·.data.toList)) p.data.toList = x.data.toList ++ jt p xs := Lib.join_cons _ _ _
theorem specJoin_eq (M : Nat) (l : List ByteArray) (hM : ∀ s ∈ l, s.size < M) (p : ByteArray) (hl : l.length ≤ 1048576) (ht : tot l ≤ 1048576) {k : Nat} (hk : l.length + M + 4 < k) : spec_JoinStrings.f k l p = some (joinR l p) := by
  obtain ⟨k, rfl⟩ : ∃ m, k = m + 2 := ⟨k - 2, by omega⟩
  unfold spec_JoinStrings.f joinR
  by_cases hp : p.size = 1
  · have b := bt_range p 0
    have hc : bt p 0 = (((bt p 0).toNat.toUInt8).toNat : Int) := (u8_round _ b.1 b.2).symm
    have c0 : (p.size : Int) = 1 := by omega
    rw [if_pos c0]
    match l, hM, hl, ht, hk with
    | [], _, _, _, _ => simp [spec_JoinStrings.j0]
    | x :: xs, hM, hl, ht, hk =>
      have hxm : x ∈ x :: xs := List.mem_cons_self
      have et : tot (x :: xs) = x.size + tot xs := tot_cons x xs
      have el : (((x :: xs).length : Int) == 0) = false := by simp only [List.length_cons]; exact beq_eq_false_iff_ne.mpr (by omega)
      rw [el]
      simp only [spec_JoinStrings.j0, Bool.false_eq_true, if_false]
      generalize hcc : (bt p 0).toNat.toUInt8 = c at *
      have c1 : (0 : Int) < ((x :: xs).length : Int) := by simp only [List.length_cons]; omega
      have c3 : ¬ (0 : Int) > 0 := by omega
      have c4 : (0 : Int) < (p.size : Int) := by omega
      have er : rdOf ByteArray.empty (x :: xs) 0 = x := rfl
      have s0 : (⟨#[]⟩ : ByteArray).size = 0 := rfl
      have s1 : (⟨#[]⟩ : ByteArray).size + x.size ≤ 9223372036854775807 := by omega
      have s2 : (⟨#[]⟩ ++ x : ByteArray) = x := by
        apply ByteArray.ext
        rw [ByteArray.data_append]; simp
      have ew : wrap64 ((0 : Int) + 1) = ((1 : Nat) : Int) := w64 (by omega) (by omega)
      simp only [spec_JoinStrings.l0, if_pos c1, if_pos (Int.le_refl 0), if_pos c4, if_neg c3, er, hc, stands_eq x c (show x.size ≤ 140737488351232 by omega) (show x.size < k by have := hM x hxm; simp only [List.length_cons] at hk; omega), Option.bind_some, if_pos s1, s2, ew]
      have hne : (x :: xs) ≠ [] := by simp
      by_cases h : noC c x = true
      · simp only [h, Bool.not_true, Bool.false_eq_true, if_false, List.all_cons, Bool.true_and]
        by_cases h4 : (x.size : Int) > 4000
        · rw [if_pos h4, if_neg (fun z => by have := z.2.2.2; simp only [List.length_cons] at this; omega)]
        · rw [if_neg h4, specJoin_loop M (x :: xs) hM p hp c hc hl xs k 1 x rfl (by omega) (by omega) (by omega) (by simp only [List.length_cons] at hk; omega)]
          by_cases q : xs.all (noC c) = true ∧ x.size + tot xs + xs.length ≤ 4000
          · rw [if_pos q, if_pos ⟨hp, hne, q.1, by simp only [List.length_cons]; omega⟩, join_jt]
          · rw [if_neg q, if_neg (fun z => q ⟨z.2.2.1, by have := z.2.2.2; simp only [List.length_cons] at this; omega⟩)]
      · simp only [h, Bool.not_false, if_true, List.all_cons, Bool.false_and, Bool.false_eq_true, false_and, and_false, if_false]
  · rw [if_neg (by omega), if_neg (fun z => hp z.1)]
    simp [spec_JoinStrings.j0]
theorem implJoin_eq (l : List ByteArray) (p : ByteArray) (hl : l.length ≤ 1048576) (ht : tot l ≤ 1048576) {k : Nat} (hk : l.length + 2 < k) : impl_JoinStrings.f k l p = some (joinR l p) := by
  obtain ⟨k, rfl⟩ : ∃ m, k = m + 1 := ⟨k - 1, by omega⟩
  unfold impl_JoinStrings.f joinR
  match l, hl, ht, hk with
  | [], _, _, _ => simp [impl_JoinStrings.j0]
  | x :: xs, hl, ht, hk =>
    have et : tot (x :: xs) = x.size + tot xs := tot_cons x xs
    have hne : (x :: xs) ≠ [] := by simp
    rw [if_neg (by simp only [List.length_cons]; omega)]
    by_cases hp : p.size = 1
    · have b := bt_range p 0
      have hc : bt p 0 = (((bt p 0).toNat.toUInt8).toNat : Int) := (u8_round _ b.1 b.2).symm
      have hb : ((p.size : Int) != 1) = false := by rw [hp]; rfl
      have hJ : strings_Join.f (x :: xs) p = some (mkB (Lib.join ((x :: xs).map (·.data.toList)) p.data.toList)) := by
        unfold strings_Join.f
        rw [if_pos]
        · rfl
        · refine ⟨?_, by simp only [List.length_cons] at hl ⊢; omega⟩
          rw [join_jt, List.length_append, size_data, jt_length p hp]
          simp only [List.length_cons] at hl
          omega
      have ew : wrap64 (((x :: xs).length : Int) - 1) = (xs.length : Int) := (w64 (by simp only [List.length_cons]; omega) (by simp only [List.length_cons] at hl ⊢; omega)).trans (by simp only [List.length_cons]; omega)
      rw [hb]
      simp only [impl_JoinStrings.j0, Bool.false_eq_true, if_false, ew]
      have h := implJoin_loop (x :: xs) p hp _ hc hl _ hJ (x :: xs) k 0 (xs.length : Int) rfl (by omega) (by simp only [List.length_cons] at hl; omega) (.inr (by simp)) ht (by omega)
      have h' : impl_JoinStrings.l0 k (x :: xs) p (xs.length : Int) (x :: xs) ((x :: xs).length : Int) 0 = _ := h
      rw [h']
      by_cases q : (x :: xs).all (noC ((bt p 0).toNat.toUInt8)) = true ∧ (xs.length : Int) + (tot (x :: xs) : Int) ≤ 4000
      · rw [if_pos q, if_pos ⟨hp, hne, q.1, by simp only [List.length_cons]; omega⟩]
      · rw [if_neg q, if_neg (fun z => q ⟨z.2.2.1, by have := z.2.2.2; simp only [List.length_cons] at this; omega⟩)]
    · have hb : ((p.size : Int) != 1) = true := by simp; omega
      rw [hb, if_neg (fun z => hp z.1)]
      simp [impl_JoinStrings.j0]
theorem tot_mem : ∀ (l : List ByteArray) (s : ByteArray), s ∈ l → s.size ≤ tot l
  | x :: xs, s, h => by
    have et : tot (x :: xs) = x.size + tot xs := tot_cons x xs
    rcases List.mem_cons.mp h with rfl | h
    · omega
    · have := tot_mem xs s h
      omega

theorem bytesLess_asym : ∀ (x y : List UInt8), Op.bytesLess x y = true → Op.bytesLess y x = false
  | [], [], h => by simp [Op.bytesLess] at h
  | [], b :: y, _ => by simp [Op.bytesLess]
  | a :: x, [], h => by simp [Op.bytesLess] at h
  | a :: x, b :: y, h => by
    have ih := bytesLess_asym x y
    simp only [Op.bytesLess, Bool.or_eq_true, decide_eq_true_eq, Bool.and_eq_true, beq_iff_eq] at h
    simp only [Op.bytesLess, Bool.or_eq_false_iff, decide_eq_false_iff_not, Bool.and_eq_false_iff, beq_eq_false_iff_ne, ne_eq]
    rcases h with h | ⟨rfl, h⟩
    · exact ⟨fun z => absurd (UInt8.lt_trans h z) (UInt8.lt_irrefl _), Or.inl (fun z => by subst z; exact absurd h (UInt8.lt_irrefl _))⟩
    · exact ⟨UInt8.lt_irrefl _, Or.inr (ih h)⟩
theorem joinTail_ne (c : UInt8) : ∀ (xs : List (List UInt8)), xs ≠ [] → Lib.joinTail [c] xs = c :: Lib.join xs [c]
  | [], h => absurd rfl h
  | x :: xs, _ => by rw [Lib.join_cons]; simp [Lib.joinTail]
theorem sp_ne (c : UInt8) : ∀ (l cur : List UInt8), sp c cur l ≠ []
  | [], cur => by simp [sp]
  | b :: l, cur => by
    unfold sp
    split
    · simp
    · exact sp_ne c l _
theorem join_sp (c : UInt8) : ∀ (l cur : List UInt8), Lib.join (sp c cur l) [c] = cur ++ l
  | [], cur => by simp [sp, Lib.join_one]
  | b :: l, cur => by
    unfold sp
    split
    · rename_i h
      rw [Lib.join_cons, joinTail_ne c _ (sp_ne c l []), join_sp c l [], h]
      simp
    · rw [join_sp c l (cur ++ [b])]
      simp
theorem sp_noC (c : UInt8) : ∀ (l cur : List UInt8), c ∉ cur → ∀ x ∈ sp c cur l, c ∉ x
  | [], cur, h, x, hx => by
    simp only [sp, List.mem_singleton] at hx
    rw [hx]; exact h
  | b :: l, cur, h, x, hx => by
    unfold sp at hx
    split at hx
    · rcases List.mem_cons.mp hx with rfl | hx
      · exact h
      · exact sp_noC c l [] (by simp) x hx
    · rename_i hb
      exact sp_noC c l (cur ++ [b]) (by simp only [List.mem_append, List.mem_singleton, not_or]; exact ⟨h, fun z => hb z.symm⟩) x hx
theorem index_no (c : UInt8) : ∀ (l : List UInt8), c ∉ l → Lib.indexByte l c = -1
  | [], _ => rfl
  | b :: l, h => by
    simp only [List.mem_cons, not_or] at h
    have hb : (b == c) = false := beq_eq_false_iff_ne.mpr (fun z => h.1 z.symm)
    simp only [Lib.indexByte, hb, Bool.false_eq_true, if_false, index_no c l h.2]
    rfl
theorem mkB_size (l : List UInt8) : (mkB l).size = l.length := by rw [← size_data, mkB_data]
theorem sp_tot (c : UInt8) : ∀ (l cur : List UInt8), tot ((sp c cur l).map mkB) + (sp c cur l).length = cur.length + l.length + 1
  | [], cur => by
    simp only [sp, List.map_cons, List.map_nil, List.length_cons, List.length_nil]
    have e : tot [mkB cur] = (mkB cur).size + tot [] := tot_cons _ _
    rw [e, tot_nil, mkB_size]
  | b :: l, cur => by
    unfold sp
    split
    · have ih := sp_tot c l []
      have e : tot ((cur :: sp c [] l).map mkB) = (mkB cur).size + tot ((sp c [] l).map mkB) := tot_cons _ _
      rw [e, mkB_size]
      simp only [List.length_cons, List.length_nil] at ih ⊢
      omega
    · have ih := sp_tot c l (cur ++ [b])
      simp only [List.length_append, List.length_cons, List.length_nil] at ih ⊢
      omega
/-- What is cut is joined again. -/
theorem split_join (s p : ByteArray) (hp : p.size = 1) (hs : s.size ≤ 4000) : joinR (splitR s p).1 p = (s, true) ∧ (splitR s p).2 = true ∧ (splitR s p).1.length ≤ 4001 ∧ tot (splitR s p).1 ≤ 4001 := by
  have hlen := splitR_length s p
  unfold splitR at hlen ⊢
  rw [if_pos ⟨hp, hs⟩] at hlen ⊢
  obtain ⟨c, hc⟩ : ∃ c, c = (bt p 0).toNat.toUInt8 := ⟨_, rfl⟩
  rw [← hc] at hlen ⊢
  have ht := sp_tot c s.data.toList []
  rw [size_data] at ht
  simp only [List.length_nil, Nat.zero_add] at ht
  have hpd : p.data.toList = [c] := by
    have h1 : p.data.toList.length = 1 := by rw [size_data, hp]
    obtain ⟨b, hb⟩ := List.length_eq_one_iff.mp h1
    have hbt : bt p ((0 : Nat) : Int) = _ := bt_list p 0 (by omega)
    have hbt' : bt p 0 = (b.toNat : Int) := by
      rw [show (0 : Int) = ((0 : Nat) : Int) from rfl, hbt]
      simp [hb]
    rw [hb, hc, hbt']
    simp
  refine ⟨?_, rfl, hlen, by simp only; omega⟩
  unfold joinR
  rw [← hc, if_pos, hpd]
  · have e : ((sp c [] s.data.toList).map mkB).map (fun b => b.data.toList) = sp c [] s.data.toList := by
      rw [List.map_map]
      conv => rhs; rw [← List.map_id (sp c [] s.data.toList)]
      refine List.map_congr_left fun x _ => ?_
      exact mkB_data x
    simp only [e]
    rw [join_sp c s.data.toList [], List.nil_append, mk_data]
  · refine ⟨hp, ?_, ?_, ?_⟩
    · intro z
      exact sp_ne c s.data.toList [] (List.map_eq_nil_iff.mp z)
    · rw [List.all_eq_true]
      intro x hx
      obtain ⟨y, hy, rfl⟩ := List.mem_map.mp hx
      have := sp_noC c s.data.toList [] (by simp) y hy
      unfold noC
      rw [mkB_data, index_no c y this]
      rfl
    · simp only [List.length_map]
      omega
theorem drawSplit_ok {l : List Int} (hl : ∀ y ∈ l, (Lit.int .u8 y).wf = true) : ∃ s p, spec_DrawSplitString.f l = some (s, p) ∧ s.size ≤ 10 := by
  unfold spec_DrawSplitString.f spec_DrawSplitString_in.f
  obtain ⟨s, p1, q1, e1, a1, a2, a3⟩ := any1_ok hl 0 0 (by omega) (by omega)
  rw [e1]
  simp only [Option.bind_some]
  obtain ⟨p, p2, q2, e2, _, _, _⟩ := of_ok hl p1 q1 ([(⟨#[44]⟩ : ByteArray), (⟨#[44]⟩ : ByteArray), (⟨#[32]⟩ : ByteArray), (⟨#[]⟩ : ByteArray), (⟨#[44, 44]⟩ : ByteArray)] : List ByteArray) a2 (by omega) (by decide) (by decide) (P := fun _ => True) (fun _ _ => trivial)
  rw [e2]
  exact ⟨_, _, rfl, a1⟩
theorem drawLess_ok {l : List Int} (hl : ∀ y ∈ l, (Lit.int .u8 y).wf = true) : ∃ s p, spec_DrawLessString.f l = some (s, p) := by
  unfold spec_DrawLessString.f spec_DrawLessString_in.f
  obtain ⟨s, p1, q1, e1, a1, a2, a3⟩ := any1_ok hl 0 0 (by omega) (by omega)
  rw [e1]
  simp only [Option.bind_some]
  obtain ⟨p, p2, q2, e2, _, _, _⟩ := any1_ok hl p1 q1 a2 (by omega)
  rw [e2]
  exact ⟨_, _, rfl⟩
theorem tot_app (x : ByteArray) : ∀ (l : List ByteArray), tot (l ++ [x]) = tot l + x.size
  | [] => by
    have e : tot [x] = x.size + tot [] := tot_cons _ _
    rw [List.nil_append, e, tot_nil]; omega
  | y :: l => by
    have e : tot (y :: (l ++ [x])) = y.size + tot (l ++ [x]) := tot_cons _ _
    have e2 : tot (y :: l) = y.size + tot l := tot_cons _ _
    rw [List.cons_append, e, e2, tot_app x l]; omega
theorem strOfNums_rep (n : Nat) : (strOfNums (List.replicate n 0)).size = n := by
  rw [← size_data]
  simp [strOfNums]
theorem drawJoin_loop {l : List Int} (hl : ∀ y ∈ l, (Lit.int .u8 y).wf = true) (n : Nat) (hn : n ≤ 10) (d : Nat) : ∀ (i : Nat) (xs : List ByteArray) (p q : Int), i + d = n → xs.length = i → tot xs ≤ 10 * i → 0 ≤ p → p ≤ 1000 - 10 * d →
    ∃ r : List ByteArray × ByteArray × Int × Int, (∀ k, d < k → spec_DrawJoinStrings_in.l0 k xs (n : Int) (i : Int) l p q = some r) ∧ r.1.length ≤ 11 ∧ tot r.1 ≤ 5000 := by
  induction d with
  | zero =>
    intro i xs p q hi hx ht h0 h1
    have c1 : ¬ (i : Int) < (n : Int) := by omega
    obtain ⟨b, p1, q1, e1, a1, a2⟩ := one_ok hl p q 20 h0 (by omega) (by omega) (by omega)
    cases b with
    | true =>
      obtain ⟨v, p2, q2, e2, b1, b2, b3, b4⟩ := pick_ok hl p1 q1 20 a1 (by omega) (by omega) (by omega)
      obtain ⟨s, p3, q3, e3, _, _, _⟩ := of_ok hl p2 q2 ([(⟨#[44]⟩ : ByteArray), (⟨#[59]⟩ : ByteArray), (⟨#[59]⟩ : ByteArray), (⟨#[]⟩ : ByteArray), (⟨#[97, 98]⟩ : ByteArray)] : List ByteArray) b3 (by omega) (by decide) (by decide) (P := fun _ => True) (fun _ _ => trivial)
      have ew : wrap64 (3990 + v) = 3990 + v := w64 (by omega) (by omega)
      refine ⟨(xs ++ [strOfNums (List.replicate (3990 + v).toNat 0)], s, p3, q3), fun k hk => ?_, by simp only [List.length_append, List.length_cons, List.length_nil]; omega, ?_⟩
      · obtain ⟨k, rfl⟩ : ∃ m, k = m + 1 := ⟨k - 1, by omega⟩
        simp only [spec_DrawJoinStrings_in.l0, if_neg c1, e1, Option.bind_some, if_true, e2, ew]
        rw [if_pos (by omega), if_pos (by omega), if_pos (by omega), e3]
        rfl
      · simp only
        rw [tot_app, strOfNums_rep]
        omega
    | false =>
      obtain ⟨s, p3, q3, e3, _, _, _⟩ := of_ok hl p1 q1 ([(⟨#[44]⟩ : ByteArray), (⟨#[59]⟩ : ByteArray), (⟨#[59]⟩ : ByteArray), (⟨#[]⟩ : ByteArray), (⟨#[97, 98]⟩ : ByteArray)] : List ByteArray) a1 (by omega) (by decide) (by decide) (P := fun _ => True) (fun _ _ => trivial)
      refine ⟨(xs, s, p3, q3), fun k hk => ?_, by simp only; omega, by simp only; omega⟩
      obtain ⟨k, rfl⟩ : ∃ m, k = m + 1 := ⟨k - 1, by omega⟩
      simp only [spec_DrawJoinStrings_in.l0, if_neg c1, e1, Option.bind_some, Bool.false_eq_true, if_false, e3]
  | succ d ih =>
    intro i xs p q hi hx ht h0 h1
    have c1 : (i : Int) < (n : Int) := by omega
    have ew : wrap64 ((i : Int) + 1) = ((i + 1 : Nat) : Int) := (w64 (by omega) (by omega)).trans (by omega)
    obtain ⟨s, p1, q1, e1, a1, a2, a3⟩ := any1_ok hl p q h0 (by omega)
    obtain ⟨r, hr, h2, h3⟩ := ih (i + 1) (xs ++ [s]) p1 q1 (by omega) (by simp [hx]) (by rw [tot_app]; omega) a2 (by omega)
    refine ⟨r, fun k hk => ?_, h2, h3⟩
    obtain ⟨k, rfl⟩ : ∃ m, k = m + 1 := ⟨k - 1, by omega⟩
    simp only [spec_DrawJoinStrings_in.l0, if_pos c1, e1, Option.bind_some, ew]
    rw [if_pos (by omega)]
    exact hr k (by omega)
theorem drawJoin_ok {l : List Int} (hl : ∀ y ∈ l, (Lit.int .u8 y).wf = true) : ∃ xs p, (∀ k, 10 < k → spec_DrawJoinStrings.f k l = some (xs, p)) ∧ xs.length ≤ 11 ∧ tot xs ≤ 5000 := by
  obtain ⟨v, p1, q1, e1, a1, a2, a3, a4⟩ := pick_ok hl 0 0 4 (by omega) (by omega) (by omega) (by omega)
  obtain ⟨r, hr, h2, h3⟩ := drawJoin_loop hl v.toNat (by omega) v.toNat 0 [] p1 q1 (by omega) rfl (by rw [tot_nil]; omega) a3 (by omega)
  refine ⟨r.1, r.2.1, fun k hk => ?_, h2, h3⟩
  unfold spec_DrawJoinStrings.f spec_DrawJoinStrings_in.f
  rw [e1]
  simp only [Option.bind_some]
  have h := hr k (by omega)
  rw [Int.toNat_of_nonneg a1] at h
  have h' : spec_DrawJoinStrings_in.l0 k [] v 0 l p1 q1 = some r := h
  rw [h']
  rfl
theorem FnSplitJoin : Asked := by
  intro l hlen hl
  refine ⟨8000, ?_⟩
  obtain ⟨K, hK⟩ : ∃ K, K = 7999 := ⟨_, rfl⟩
  rw [show (8000 : Nat) = K + 1 by omega]
  unfold laws_FnSplitJoin.f laws_vBig.f
  simp only [Option.bind_some]
  by_cases c : (l.length : Int) > 65536
  · rw [decide_eq_true c, if_pos rfl]
  rw [decide_eq_false c, if_neg (by simp)]
  obtain ⟨s, p, e1, hs⟩ := drawSplit_ok hl
  obtain ⟨xs, j, e2, hx1, hx2⟩ := drawJoin_ok hl
  obtain ⟨a, b, e3⟩ := drawLess_ok hl
  rw [e1]
  simp only [Option.bind_some]
  rw [implSplit_eq s p (by omega)]
  simp only [Option.bind_some]
  rw [e2 _ (by omega)]
  simp only [Option.bind_some]
  rw [implJoin_eq xs j (by omega) (by omega) (by omega), specJoin_eq 5001 xs (fun y hy => by have := tot_mem xs y hy; omega) j (by omega) (by omega) (by omega)]
  simp only [Option.bind_some]
  rw [e3]
  have fin : laws_FnSplitJoin.j0 (K + 1) s p (splitR s p).1 (splitR s p).2 false = some true := by
    simp only [laws_FnSplitJoin.j0, Bool.false_eq_true, if_false]
    by_cases hp : p.size = 1
    · obtain ⟨h1, h2, h3, h4⟩ := split_join s p hp (by omega)
      rw [if_pos (by omega), implJoin_eq _ p (by omega) (by omega) (by omega), h1, h2]
      simp
    · rw [if_neg (by omega)]
      have e : splitR s p = ([], false) := by unfold splitR; rw [if_neg (fun z => hp z.1)]
      rw [e]
      rfl
  simp only [Option.bind_some, if_true, bne_self_eq_false, Bool.false_eq_true, if_false, impl_LessString.f, spec_LessString.f]
  cases hab : Op.bytesLess a.toList b.toList with
  | true =>
    rw [bytesLess_asym _ _ hab, if_pos rfl]
    exact fin
  | false =>
    rw [if_neg (by simp)]
    exact fin
end Go.Proofs.Ytpfmhoikhnhdcaa.Pure
