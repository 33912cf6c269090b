/- ReadLine: the reference's way and the program's come to the same. Plain. -/
import Derived.Test.YtnphhnhnmohfiaaDoorPFnExactReadLinex
import Derived.Test.YtnphhnhnmohfiaaDoorWordsPure
import Derived.Test.YtnphhnhnmohfiaaDoorNumPure
import Derived.Test.YtnphhnhnmohfiaaDoorEv
set_option linter.unusedVariables false
set_option linter.unusedSimpArgs false
namespace Go.Proofs.YtnphhnhnmohfiaaDoor.PFnExactReadLine
open Go.RowKit Go.Proofs.YtnphhnhnmohfiaaDoorW.PrintWords
/-! The reference's number. -/
theorem num_l0 (d : Bytes) (sg : Int) (hsg : sg = 1 ∨ sg = -1) (hl : d.length ≤ 18) : ∀ (m i : Nat) (v : Int), i + m = d.length → 0 ≤ v → v < ((10 ^ i : Nat) : Int) →
    Ev (fun k => spec_l00Number.l0 k (bs d) sg v i) (if (d.drop i).all isD then (sg * valF v (d.drop i), true) else (0, false)) := by
  intro m
  induction m with
  | zero =>
    intro i v hi hv hb
    have hp := pow_le18 (i := i) (by omega)
    refine Ev.step (fun _ => spec_l00Number.l0.eq_2 ..) ?_
    refine ev_neg (by rw [bs_size]; omega) ?_
    rw [w64 (by rcases hsg with rfl | rfl <;> omega) (by rcases hsg with rfl | rfl <;> omega), List.drop_of_length_le (by omega)]
    exact ev_some (by simp [valF])
  | succ m ih =>
    intro i v hi hv hb
    have hlt : i < d.length := by omega
    have hp := pow_le17 (i := i) (by omega)
    have hc := (d[i]).toNat_lt
    refine Ev.step (fun _ => spec_l00Number.l0.eq_2 ..) ?_
    refine ev_pos (by rw [bs_size]; omega) (ev_pos (by omega) ?_)
    rw [bt_bs d i hlt, drop_cons d i hlt, List.all_cons]
    by_cases h1 : (d[i]).toNat < 48
    · refine ev_pos (by omega) (ev_some ?_)
      rw [isD_not.mpr (.inl h1)]; rfl
    by_cases h2 : 57 < (d[i]).toNat
    · refine ev_neg (by omega) (ev_pos (by omega) (ev_some ?_))
      rw [isD_not.mpr (.inr h2)]; rfl
    refine ev_neg (by omega) (ev_neg (by omega) ?_)
    rw [isD_iff.mpr ⟨by omega, by omega⟩, Bool.true_and, valF_cons]
    simp (disch := omega) only [w64]
    have e : v * 10 + ((d[i]).toNat : Int) - 48 = v * 10 + (((d[i]).toNat : Int) - 48) := by omega
    rw [e]
    refine ih (i + 1) _ (by omega) (by omega) ?_
    rw [Nat.pow_succ]
    omega
theorem num_j1 (d : Bytes) (sg : Int) (hsg : sg = 1 ∨ sg = -1) (hm : d.length ≤ 1099511627776) :
    Ev (fun k => spec_l00Number.j1 k (bs d) sg) (if !d.isEmpty && decide (d.length ≤ 18) && !(d.head? == some 48 && (decide (1 < d.length) || decide (sg < 0))) && d.all isD then (sg * valF 0 d, true) else (0, false)) := by
  refine Ev.step (fun _ => spec_l00Number.j1.eq_2 ..) ?_
  have yes : Ev (fun k => spec_l00Number.j2 k (bs d) sg true) (0, false) := Ev.step (fun _ => spec_l00Number.j2.eq_2 ..) (ev_pos rfl (ev_some rfl))
  by_cases h0 : d.length = 0
  · obtain rfl := List.eq_nil_of_length_eq_zero h0
    exact ev_pos (by rw [bs_size]; rfl) yes
  obtain ⟨c, r, rfl⟩ := List.exists_cons_of_ne_nil (List.ne_nil_of_length_pos (by omega : 0 < d.length))
  refine ev_neg (by rw [bs_size]; omega) ?_
  by_cases h18 : 18 < (c :: r).length
  · refine ev_pos (by rw [bs_size]; omega) (ev_to ?_ yes)
    rw [decide_eq_false (by omega : ¬ (c :: r).length ≤ 18)]
    simp
  refine ev_neg (by rw [bs_size]; omega) (ev_pos (by rw [bs_size]; omega) ?_)
  rw [bt_zero _ (by omega), decide_eq_true (by omega : (c :: r).length ≤ 18)]
  have no : Ev (fun k => spec_l00Number.j2 k (bs (c :: r)) sg false) (if (c :: r).all isD then (sg * valF 0 (c :: r), true) else (0, false)) :=
    Ev.step (fun _ => spec_l00Number.j2.eq_2 ..) (ev_neg (by simp) (num_l0 (c :: r) sg hsg (by omega) (c :: r).length 0 0 (by omega) (by omega) (by simp)))
  simp only [List.getElem_cons_zero, List.head?_cons, List.isEmpty_cons, Bool.not_false, Bool.true_and]
  by_cases hc : c = 48
  · subst hc
    refine ev_pos (by simp) ?_
    by_cases h1 : 1 < ((48 : UInt8) :: r).length
    · refine ev_pos (by rw [bs_size]; omega) (ev_to ?_ yes)
      simp only [beq_self_eq_true, decide_eq_true h1, Bool.true_or, Bool.and_self, Bool.not_true, Bool.false_and]
      rfl
    · refine ev_neg (by rw [bs_size]; omega) ?_
      simp only [beq_self_eq_true, decide_eq_false h1, Bool.false_or, Bool.true_and]
      by_cases hn : sg < 0
      · simp only [decide_eq_true hn, Bool.not_true, Bool.false_and]
        exact yes
      · simp only [decide_eq_false hn, Bool.not_false, Bool.true_and]
        exact no
  · have hc' : ¬ (c.toNat : Int) = 48 := fun e => hc (by have := (u8_int (a := c) (n := 48)).mp e; simpa using this)
    have hb : (some c == some (48 : UInt8)) = false := by simpa using hc
    refine ev_neg hc' ?_
    simp only [hb, Bool.false_and, Bool.not_false, Bool.true_and]
    exact no
theorem spec_number (t : ByteArray) (ht : t.size ≤ 1099511627776) : Ev (fun k => spec_l00Number.f k t) (numR t.data.toList) := by
  obtain ⟨l, rfl⟩ := bs_ex t
  rw [bs_size] at ht
  rw [bs_data]
  unfold spec_l00Number.f
  cases l with
  | nil =>
    refine ev_neg (by rw [bs_size]; simp) (Ev.step (fun _ => spec_l00Number.j0.eq_2 ..) (ev_neg (by simp) (ev_to ?_ (num_j1 [] 1 (.inl rfl) (Nat.zero_le _)))))
    rfl
  | cons c r =>
    refine ev_pos (by rw [bs_size, List.length_cons]; omega) (ev_pos (by rw [bs_size, List.length_cons]; omega) ?_)
    rw [bt_zero _ (by simp)]
    refine Ev.step (fun _ => spec_l00Number.j0.eq_2 ..) ?_
    simp only [List.getElem_cons_zero]
    simp only [List.length_cons] at ht
    by_cases hc : c = 45
    · subst hc
      refine ev_pos (by simp) (ev_pos (by rw [bs_size, List.length_cons]; omega) ?_)
      have e : (bs ((45 : UInt8) :: r)).extract 1 (bs ((45 : UInt8) :: r)).size = bs r := by
        rw [bs_extract, bs_size, List.take_of_length_le (Nat.le_refl _)]; rfl
      rw [e]
      refine ev_to ?_ (num_j1 r (-1) (.inr rfl) (by omega))
      simp only [numR, numOk, numVal, numDig, numNeg, List.head?_cons, beq_self_eq_true, if_true, List.tail_cons, Int.neg_mul, Int.one_mul]
      rfl
    · have hb : (some c == some (45 : UInt8)) = false := by simpa using hc
      have hc' : ¬ (c.toNat : Int) = 45 := fun e => hc (by have := (u8_int (a := c) (n := 45)).mp e; simpa using this)
      refine ev_neg (by simpa using hc') (ev_to ?_ (num_j1 (c :: r) 1 (.inl rfl) (by simp only [List.length_cons]; omega)))
      simp only [numR, numOk, numVal, numDig, numNeg, List.head?_cons, hb, Int.one_mul]
      rfl
/-! The program's number. -/
theorem inB_f (a b c : Int) : impl_within.f a b c = some (inB a b c) := by
  unfold impl_within.f inB
  by_cases h : a ≥ b
  · rw [if_pos h, decide_eq_true (by omega : b ≤ a)]; rfl
  · rw [if_neg h, decide_eq_false (by omega : ¬ b ≤ a)]; rfl
theorem isDigit_f (c : UInt8) : impl_isDigit.f (c.toNat : Int) = some (isD c) := by
  unfold impl_isDigit.f isD
  by_cases h : 48 ≤ c.toNat
  · rw [if_pos (by omega), decide_eq_true h]; simp; omega
  · rw [if_neg (by omega), decide_eq_false h]; rfl
theorem trimMinus (l : Bytes) : strings_TrimPrefix.f (bs l) (⟨#[45]⟩ : ByteArray) = some (bs (numDig l)) := by
  unfold strings_TrimPrefix.f stringslite_TrimPrefix.f stringslite_HasPrefix.f
  have hs : (⟨#[45]⟩ : ByteArray).size = 1 := rfl
  have hL : (⟨#[45]⟩ : ByteArray).toList = [45] := bs_toList [45]
  rw [hs, hL, bs_size]
  cases l with
  | nil => rfl
  | cons c r =>
    have h1 : ((c :: r).length : Int) ≥ ((1 : Nat) : Int) := by simp only [List.length_cons]; omega
    rw [if_pos h1, if_pos (by decide), if_pos h1]
    have e : ((bs (c :: r)).extract 0 ((1 : Nat) : Int).toNat).toList = [c] := by rw [bs_extract, bs_toList]; rfl
    rw [e]
    simp only [Option.bind_some, numDig, numNeg, List.head?_cons]
    by_cases hc : c = 45
    · subst hc
      simp only [beq_self_eq_true, if_true]
      rw [if_pos (by decide), if_pos h1]
      simp only [Option.bind_some]
      have e2 : (bs ((45 : UInt8) :: r)).extract ((1 : Nat) : Int).toNat ((45 : UInt8) :: r).length = bs r := by
        rw [bs_extract, List.take_of_length_le (Nat.le_refl _)]; rfl
      rw [e2]; rfl
    · have hb : ([c] == [(45 : UInt8)]) = false := by simpa using hc
      have hb2 : (some c == some (45 : UInt8)) = false := by simpa using hc
      simp only [hb, hb2]; rfl
theorem inum_l0 (l d : Bytes) (a : Int) (ha : ∀ h : d.all isD = true, strconv_Atoi.f (bs l) = some (a, none)) (hl : d.length ≤ 18) : ∀ (m i : Nat), i + m = d.length → (d.take i).all isD = true →
    Ev (fun k => impl_number.l0 k (bs l) (bs d) (d.length : Int) i) (if (d.drop i).all isD then (a, true) else (0, false)) := by
  intro m
  induction m with
  | zero =>
    intro i hi ht
    refine Ev.step (fun _ => impl_number.l0.eq_2 ..) (ev_neg (by omega) ?_)
    rw [List.take_of_length_le (by omega)] at ht
    refine ev_bindc (ha ht) ?_
    rw [List.drop_of_length_le (by omega)]
    exact ev_pos rfl (ev_some (by simp))
  | succ m ih =>
    intro i hi ht
    have hlt : i < d.length := by omega
    refine Ev.step (fun _ => impl_number.l0.eq_2 ..) (ev_pos (by omega) (ev_pos (by omega) (ev_pos (by rw [bs_size]; omega) ?_)))
    rw [bt_bs d i hlt, isDigit_f, drop_cons d i hlt, List.all_cons]
    simp only [Option.bind_some]
    cases hc : isD d[i] with
    | false => exact ev_neg (by simp) (ev_some rfl)
    | true =>
      refine ev_pos rfl ?_
      rw [w64n (by omega), Bool.true_and]
      refine ih (i + 1) (by omega) ?_
      rw [List.take_succ_eq_append_getElem hlt, List.all_append, ht]
      simp [hc]
theorem impl_number_ev (t : ByteArray) (ht : t.size ≤ 1099511627776) : Ev (fun k => impl_number.f k t) (numR t.data.toList) := by
  obtain ⟨l, rfl⟩ := bs_ex t
  rw [bs_size] at ht
  rw [bs_data]
  unfold impl_number.f
  refine ev_bindc (trimMinus l) (ev_bindc (inB_f _ _ _) ?_)
  rw [bs_size, bs_toList]
  have yes : Ev (fun k => impl_number.j0 k (bs l) (bs (numDig l)) true) (0, false) := Ev.step (fun _ => impl_number.j0.eq_2 ..) (ev_pos rfl (ev_some rfl))
  have hd : (numDig l).length ≤ l.length := by unfold numDig; split <;> simp
  generalize hD : numDig l = d at *
  by_cases h0 : d.length = 0
  · obtain rfl := List.eq_nil_of_length_eq_zero h0
    refine ev_neg (by simp [inB]) (ev_to ?_ yes)
    simp [numR, numOk, hD]
  by_cases h18 : 18 < d.length
  · refine ev_neg (by simp [inB]; omega) (ev_to ?_ yes)
    simp only [numR, numOk, hD, decide_eq_false (by omega : ¬ d.length ≤ 18), Bool.and_false, Bool.false_and]
    rfl
  obtain ⟨c, r, rfl⟩ := List.exists_cons_of_ne_nil (List.ne_nil_of_length_pos (by omega : 0 < d.length))
  refine ev_pos (inB_iff.mpr ⟨by omega, by omega⟩) ?_
  have hA : ∀ h : (c :: r).all isD = true, strconv_Atoi.f (bs l) = some (numVal l, none) := fun h => by
    have := atoi_num (l := l) (by rw [hD]; simp) (by rw [hD]; omega) (by rw [hD]; exact h)
    unfold strconv_Atoi.f atoiOk
    rw [bs_size, bs_data, if_pos (by omega), this]; rfl
  have no : Ev (fun k => impl_number.j0 k (bs l) (bs (c :: r)) false) (if (c :: r).all isD then (numVal l, true) else (0, false)) := by
    refine Ev.step (fun _ => impl_number.j0.eq_2 ..) (ev_neg (by simp) ?_)
    rw [bs_size]
    exact inum_l0 l (c :: r) (numVal l) hA (by omega) (c :: r).length 0 (by omega) (by simp)
  have hz : (l == [45, 48]) = (numNeg l && (c :: r) == [48]) := by
    rw [← hD]
    cases l with
    | nil => rfl
    | cons x y =>
      by_cases hx : x = 45
      · subst hx
        have : numNeg (45 :: y) = true := by simp [numNeg]
        rw [numDig, this]; simp
      · have : numNeg (x :: y) = false := by simp [numNeg, hx]
        rw [this]; simp [hx]
  have hR : numR l = if !((c :: r).head? == some 48 && (decide (1 < (c :: r).length) || numNeg l)) && (c :: r).all isD then (numVal l, true) else (0, false) := by
    rw [numR, numOk, hD, decide_eq_true (by omega : (c :: r).length ≤ 18)]
    simp
  rw [hR]
  simp only [List.head?_cons]
  rw [hz]
  by_cases h1 : 1 < (c :: r).length
  · refine ev_pos (by omega) (ev_pos (by omega) ?_)
    rw [bt_zero _ (by omega), decide_eq_true h1]
    simp only [List.getElem_cons_zero, Bool.true_or, Bool.and_true]
    have hr : ((c :: r) == [(48 : UInt8)]) = false := by
      cases r with
      | nil => simp at h1
      | cons x y => simp
    rw [hr, Bool.and_false]
    by_cases hc : c = 48
    · subst hc
      exact ev_pos (by simp) (ev_to (by simp) yes)
    · have hc' : ¬ (c.toNat : Int) = 48 := fun e => hc (by have := (u8_int (a := c) (n := 48)).mp e; simpa using this)
      have hb : (some c == some (48 : UInt8)) = false := by simpa using hc
      refine ev_neg hc' ?_
      simp only [hb, Bool.not_false, Bool.true_and]
      exact no
  · refine ev_neg (by omega) ?_
    obtain rfl : r = [] := by cases r; rfl; simp at h1
    rw [decide_eq_false h1]
    simp only [Bool.false_or]
    by_cases hc : c = 48
    · subst hc
      simp only [beq_self_eq_true, Bool.true_and, Bool.and_true]
      cases hN : numNeg l with
      | true => simp only [Bool.not_true, Bool.false_and]; exact yes
      | false => simp only [Bool.not_false, Bool.true_and]; exact no
    · have hb : (some c == some (48 : UInt8)) = false := by simpa using hc
      have hb2 : ([c] == [(48 : UInt8)]) = false := by simpa using hc
      simp only [hb, hb2, Bool.false_and, Bool.and_false, Bool.not_false, Bool.true_and]
      exact no

theorem trimF (l : Bytes) (h : l.length ≤ 1099511627776) : strings_Trim.f (bs l) (⟨#[32]⟩ : ByteArray) = some (bs (Lib.trimB l 32)) := by
  unfold strings_Trim.f
  rw [if_pos ⟨by rw [bs_size]; omega, rfl⟩, bs_data]
theorem cutF (l : Bytes) (h : l.length ≤ 1073741824) : ∃ b, strings_Cut.f (bs l) (⟨#[32]⟩ : ByteArray) = some (bs (headW l), bs (tailW l).tail, b) := by
  unfold strings_Cut.f
  rw [if_pos (by rw [bs_size]; omega)]
  have := cut_blank l
  refine ⟨(Lib.cut l [32]).2.2, ?_⟩
  show some (bs (Lib.cut l [32]).1, bs (Lib.cut l [32]).2.1, (Lib.cut l [32]).2.2) = _
  rw [this.1, this.2]
theorem trimB_len (l : Bytes) : (Lib.trimB l 32).length ≤ l.length := by
  unfold Lib.trimB Lib.trimLeftB Lib.trimRightB
  refine Nat.le_trans (List.dropWhile_sublist _).length_le ?_
  rw [List.length_reverse]
  refine Nat.le_trans (List.dropWhile_sublist _).length_le ?_
  rw [List.length_reverse]; exact Nat.le_refl _
theorem skipB_len (l : Bytes) : (skipB l).length ≤ l.length := (List.dropWhile_sublist _).length_le
theorem tailW_len (l : Bytes) : (tailW l).length ≤ l.length := (List.dropWhile_sublist _).length_le
theorem headW_len (l : Bytes) : (headW l).length ≤ l.length := (List.takeWhile_sublist _).length_le
theorem restB_len (l : Bytes) : (restB l).length ≤ l.length := Nat.le_trans (tailW_len _) (skipB_len _)
theorem wordB_len (l : Bytes) : (wordB l).length ≤ l.length := Nat.le_trans (headW_len _) (skipB_len _)
theorem cutWord_f (l : Bytes) (h : l.length ≤ 1073741824) : impl_cutWord.f (bs l) = some (bs (wordB l), bs (Lib.trimB (restB l) 32)) := by
  have hl := trimB_len l
  obtain ⟨p1, p2, p3⟩ := trim_parts l
  unfold impl_cutWord.f
  rw [trimF l (by omega), Option.bind_some]
  obtain ⟨b, hc⟩ := cutF (Lib.trimB l 32) (by omega)
  rw [hc, Option.bind_some]
  simp only
  have h2 := tailW_len (Lib.trimB l 32)
  rw [trimF _ (by rw [List.length_tail]; omega), Option.bind_some, p1, p2, trim_tail]
theorem rest_trim (u : Bytes) : wordB (Lib.trimB u 32) = wordB u ∧ restB (Lib.trimB u 32) = trR (restB u) := by
  obtain ⟨p1, p2, p3⟩ := trim_parts u
  unfold wordB restB at *
  rw [p3]
  exact ⟨p1, p2⟩
/-! The reference's words. -/
theorem words_l0 (l : Bytes) (hl : l.length ≤ 32768) : ∀ (m i s : Nat) (acc : List ByteArray), i + m = l.length → s ≤ i → acc.length ≤ s →
    Ev (fun k => spec_l00Words.l0 k (bs l) acc s i) (acc ++ (tw ((l.take i).drop s) (l.drop i)).map bs) := by
  intro m
  induction m with
  | zero =>
    intro i s acc hi hs ha
    obtain rfl : i = l.length := by omega
    have fin : ∀ r : List ByteArray, ∀ s' : Int, Ev (fun k => spec_l00Words.l0 k (bs l) r s' ((l.length + 1 : Nat) : Int)) r := fun r s' =>
      Ev.step (fun _ => spec_l00Words.l0.eq_2 ..) (ev_neg (by rw [bs_size]; omega) (ev_some rfl))
    refine Ev.step (fun _ => spec_l00Words.l0.eq_2 ..) (ev_pos (by rw [bs_size]; omega) (ev_pos (by rw [bs_size]) ?_))
    refine Ev.step (fun _ => spec_l00Words.j1.eq_2 ..) (ev_pos rfl ?_)
    rw [w64n (by omega), List.drop_of_length_le (Nat.le_refl _), List.take_of_length_le (Nat.le_refl _), tw]
    by_cases h : s < l.length
    · rw [if_neg (by rw [List.drop_eq_nil_iff]; omega)]
      refine ev_pos (by omega) (ev_pos (by omega) (ev_pos (by omega) (ev_pos (by rw [bs_size]; omega) (ev_pos (by omega) ?_))))
      rw [Int.toNat_natCast, Int.toNat_natCast, bs_extract, List.take_of_length_le (Nat.le_refl _)]
      exact fin _ _
    · rw [if_pos (by rw [List.drop_eq_nil_iff]; omega)]
      refine ev_neg (by omega) ?_
      rw [List.map_nil, List.append_nil]
      exact fin _ _
  | succ m ih =>
    intro i s acc hi hs ha
    have hlt : i < l.length := by omega
    have e0 : (l.take i).drop s ++ [l[i]] = (l.take (i + 1)).drop s := by
      rw [List.take_succ_eq_append_getElem hlt, List.drop_append_of_le_length (by rw [List.length_take]; omega)]
    have e1 : (l.take (i + 1)).drop (i + 1) = [] := by rw [List.drop_eq_nil_iff, List.length_take]; omega
    refine Ev.step (fun _ => spec_l00Words.l0.eq_2 ..) (ev_pos (by rw [bs_size]; omega) (ev_neg (by rw [bs_size]; omega) (ev_pos (by omega) (ev_pos (by rw [bs_size]; omega) ?_))))
    refine Ev.step (fun _ => spec_l00Words.j1.eq_2 ..) ?_
    rw [bt_bs l i hlt, drop_cons l i hlt, w64n (by omega), tw]
    by_cases h : l[i] = 32
    · refine ev_pos (by rw [h]; rfl) ?_
      rw [if_pos h]
      by_cases h2 : s < i
      · rw [if_neg (by rw [List.drop_eq_nil_iff, List.length_take]; omega)]
        refine ev_pos (by omega) (ev_pos (by omega) (ev_pos (by omega) (ev_pos (by rw [bs_size]; omega) (ev_pos (by omega) ?_))))
        rw [Int.toNat_natCast, Int.toNat_natCast, bs_extract]
        refine ev_to ?_ (ih (i + 1) (i + 1) _ (by omega) (Nat.le_refl _) (by simp; omega))
        rw [e1]
        simp
      · rw [if_pos (by rw [List.drop_eq_nil_iff, List.length_take]; omega)]
        refine ev_neg (by omega) ?_
        refine ev_to ?_ (ih (i + 1) (i + 1) _ (by omega) (Nat.le_refl _) (by omega))
        rw [e1]
    · rw [if_neg h, e0]
      refine ev_neg (fun x => h ((u8_int (n := 32)).mp (by simpa using x))) ?_
      exact ih (i + 1) s acc (by omega) (by omega) ha
theorem words_ev (l : Bytes) (hl : l.length ≤ 32768) : Ev (fun k => spec_l00Words.f k (bs l)) ((tw [] l).map bs) := by
  unfold spec_l00Words.f
  have := words_l0 l hl l.length 0 0 [] (by omega) (Nat.le_refl _) (Nat.le_refl _)
  simpa using this
/-! What stands behind the second word. -/
theorem skip_here {l : Bytes} {i : Nat} (h : i < l.length) (hb : l[i] = 32) : skipB (l.drop i) = skipB (l.drop (i + 1)) := by
  rw [drop_cons l i h]; unfold skipB; rw [List.dropWhile_cons, if_pos (by rw [hb]; rfl)]
theorem skip_stop {l : Bytes} {i : Nat} (h : i < l.length) (hb : ¬ l[i] = 32) : skipB (l.drop i) = l.drop i := by
  rw [drop_cons l i h]; unfold skipB
  rw [List.dropWhile_cons, if_neg (by simpa using hb)]
theorem tail_here {l : Bytes} {i : Nat} (h : i < l.length) (hb : ¬ l[i] = 32) : tailW (l.drop i) = tailW (l.drop (i + 1)) := by
  rw [drop_cons l i h]; unfold tailW; rw [List.dropWhile_cons, if_pos (by simpa using hb)]
theorem tail_stop {l : Bytes} {i : Nat} (h : i < l.length) (hb : l[i] = 32) : tailW (l.drop i) = l.drop i := by
  rw [drop_cons l i h]; unfold tailW
  rw [List.dropWhile_cons, if_neg (by simp [hb])]
theorem drop_end {l : Bytes} {i : Nat} (h : ¬ i < l.length) : l.drop i = [] := List.drop_of_length_le (by omega)
theorem rest_l1 (l : Bytes) (hl : l.length ≤ 32768) (x6 : Int) (r : ByteArray) : ∀ (m i : Nat), i + m = l.length → (∀ j : Nat, j ≤ l.length → l.drop j = skipB (l.drop i) → Ev (fun k => spec_l16Rest.j2 k (bs l) 2 j x6) r) → Ev (fun k => spec_l16Rest.l1 k (bs l) 2 i x6) r := by
  intro m
  induction m with
  | zero =>
    intro i hi H
    exact Ev.step (fun _ => spec_l16Rest.l1.eq_2 ..) (ev_neg (by rw [bs_size]; omega) (H i (by omega) (by rw [drop_end (by omega)]; rfl)))
  | succ m ih =>
    intro i hi H
    have hlt : i < l.length := by omega
    refine Ev.step (fun _ => spec_l16Rest.l1.eq_2 ..) (ev_pos (by rw [bs_size]; omega) (ev_pos (by omega) ?_))
    rw [bt_bs l i hlt, w64n (by omega)]
    by_cases h : l[i] = 32
    · exact ev_pos (by rw [h]; rfl) (ih (i + 1) (by omega) (fun j hj e => H j hj (by rw [skip_here hlt h]; exact e)))
    · exact ev_neg (fun x => h ((u8_int (n := 32)).mp x)) (H i (by omega) (skip_stop hlt h).symm)
theorem rest_l2 (l : Bytes) (hl : l.length ≤ 32768) (x6 : Int) (r : ByteArray) : ∀ (m i : Nat), i + m = l.length → (∀ j : Nat, j ≤ l.length → l.drop j = tailW (l.drop i) → Ev (fun k => spec_l16Rest.l0 k (bs l) 2 j (wrap64 (x6 + 1))) r) → Ev (fun k => spec_l16Rest.l2 k (bs l) 2 i x6) r := by
  intro m
  induction m with
  | zero =>
    intro i hi H
    exact Ev.step (fun _ => spec_l16Rest.l2.eq_2 ..) (ev_neg (by rw [bs_size]; omega) (H i (by omega) (by rw [drop_end (by omega)]; rfl)))
  | succ m ih =>
    intro i hi H
    have hlt : i < l.length := by omega
    refine Ev.step (fun _ => spec_l16Rest.l2.eq_2 ..) (ev_pos (by rw [bs_size]; omega) (ev_pos (by omega) ?_))
    rw [bt_bs l i hlt]
    by_cases h : l[i] = 32
    · exact ev_pos (by rw [h]; rfl) (H i (by omega) (tail_stop hlt h).symm)
    · refine ev_neg (fun x => h ((u8_int (n := 32)).mp x)) ?_
      rw [w64n (by omega)]
      exact ih (i + 1) (by omega) (fun j hj e => H j hj (by rw [tail_here hlt h]; exact e))
theorem rest_l3 (l : Bytes) (hl : l.length ≤ 32768) (r : ByteArray) : ∀ (m i : Nat), i + m = l.length → (∀ j : Nat, j ≤ l.length → l.drop j = skipB (l.drop i) → Ev (fun k => spec_l16Rest.j5 k (bs l) j) r) → Ev (fun k => spec_l16Rest.l3 k (bs l) i) r := by
  intro m
  induction m with
  | zero =>
    intro i hi H
    exact Ev.step (fun _ => spec_l16Rest.l3.eq_2 ..) (ev_neg (by rw [bs_size]; omega) (H i (by omega) (by rw [drop_end (by omega)]; rfl)))
  | succ m ih =>
    intro i hi H
    have hlt : i < l.length := by omega
    refine Ev.step (fun _ => spec_l16Rest.l3.eq_2 ..) (ev_pos (by rw [bs_size]; omega) (ev_pos (by omega) ?_))
    rw [bt_bs l i hlt, w64n (by omega)]
    by_cases h : l[i] = 32
    · exact ev_pos (by rw [h]; rfl) (ih (i + 1) (by omega) (fun j hj e => H j hj (by rw [skip_here hlt h]; exact e)))
    · exact ev_neg (fun x => h ((u8_int (n := 32)).mp x)) (H i (by omega) (skip_stop hlt h).symm)
theorem trR_snoc (a : Bytes) (c : UInt8) : trR (a ++ [c]) = if c = 32 then trR a else a ++ [c] := by
  unfold trR Lib.trimRightB
  rw [List.reverse_append, List.reverse_singleton, List.singleton_append, List.dropWhile_cons]
  by_cases h : c = 32
  · rw [if_pos h, if_pos (by rw [h]; rfl)]
  · rw [if_neg h, if_neg (by simpa using h)]; simp
theorem rest_l4 (l : Bytes) (hl : l.length ≤ 32768) (i : Nat) : ∀ (m e : Nat), i + m = e → e ≤ l.length → Ev (fun k => spec_l16Rest.l4 k (bs l) i e) (bs (trR ((l.take e).drop i))) := by
  intro m
  induction m with
  | zero =>
    intro e he hel
    obtain rfl : i = e := by omega
    refine Ev.step (fun _ => spec_l16Rest.l4.eq_2 ..) (ev_neg (by omega) (ev_pos (by omega) (ev_pos (by omega) (ev_pos (by rw [bs_size]; omega) (ev_some ?_)))))
    rw [Int.toNat_natCast, bs_extract]
    have : (l.take i).drop i = [] := by rw [List.drop_eq_nil_iff, List.length_take]; omega
    rw [this]; rfl
  | succ m ih =>
    intro e he hel
    obtain ⟨e, rfl⟩ : ∃ e', e = e' + 1 := ⟨e - 1, by omega⟩
    have hlt : e < l.length := by omega
    have e0 : (l.take (e + 1)).drop i = (l.take e).drop i ++ [l[e]] := by
      rw [List.take_succ_eq_append_getElem hlt, List.drop_append_of_le_length (by rw [List.length_take]; omega)]
    refine Ev.step (fun _ => spec_l16Rest.l4.eq_2 ..) ?_
    rw [w64 (by omega) (by omega), show ((e + 1 : Nat) : Int) - 1 = (e : Int) by omega, bt_bs l e hlt]
    refine ev_pos (by omega) (ev_pos (by omega) (ev_pos (by rw [bs_size]; omega) ?_))
    rw [e0, trR_snoc]
    by_cases h : l[e] = 32
    · rw [if_pos h]
      exact ev_pos (by rw [h]; rfl) (ih e (by omega) (by omega))
    · rw [if_neg h]
      refine ev_neg (fun x => h ((u8_int (n := 32)).mp x)) (ev_pos (by omega) (ev_pos (by omega) (ev_pos (by rw [bs_size]; omega) (ev_some ?_))))
      rw [Int.toNat_natCast, Int.toNat_natCast, bs_extract, e0]
theorem rest_ev (l : Bytes) (hl : l.length ≤ 32768) : Ev (fun k => spec_l16Rest.f k (bs l) 2) (bs (Lib.trimB (restB (restB l)) 32)) := by
  unfold spec_l16Rest.f
  refine Ev.step (fun _ => spec_l16Rest.l0.eq_2 ..) (ev_pos (by decide) ?_)
  refine rest_l1 l hl 0 _ l.length 0 (by omega) (fun j1 hj1 e1 => Ev.step (fun _ => spec_l16Rest.j2.eq_2 ..) ?_)
  refine rest_l2 l hl 0 _ (l.length - j1) j1 (by omega) (fun j2 hj2 e2 => ?_)
  rw [w64 (by omega) (by omega)]
  refine Ev.step (fun _ => spec_l16Rest.l0.eq_2 ..) (ev_pos (by decide) ?_)
  refine rest_l1 l hl _ _ (l.length - j2) j2 (by omega) (fun j3 hj3 e3 => Ev.step (fun _ => spec_l16Rest.j2.eq_2 ..) ?_)
  refine rest_l2 l hl _ _ (l.length - j3) j3 (by omega) (fun j4 hj4 e4 => ?_)
  rw [w64 (by omega) (by omega)]
  refine Ev.step (fun _ => spec_l16Rest.l0.eq_2 ..) (ev_neg (by decide) ?_)
  refine rest_l3 l hl _ (l.length - j4) j4 (by omega) (fun j5 hj5 e5 => ?_)
  refine Ev.step (fun _ => spec_l16Rest.j5.eq_2 ..) ?_
  rw [bs_size]
  refine ev_to ?_ (rest_l4 l hl j5 (l.length - j5) l.length (by omega) (Nat.le_refl _))
  rw [List.take_of_length_le (Nat.le_refl _), e5, e4, e3, e2, e1, List.drop_zero, trim_eq]
  rfl
/-! The ladder. -/
abbrev EvR := Int × Int × Int × ByteArray × ByteArray × Bool
abbrev noR : EvR := (0, 0, 0, ⟨#[]⟩, ⟨#[]⟩, false)
def sRead (w : Bytes) (n : Nat) (q : Int × Bool) (snd third : ByteArray) : EvR :=
  if w = [109, 97, 107, 101] ∧ n = 2 then (6, 0, 0, snd, ⟨#[]⟩, true) else
  if w = [112, 111, 108, 108] ∧ 2 < n then (5, 0, 0, snd, third, true) else
  if w = [105, 109, 97, 112] ∧ n = 2 ∧ q.2 = true then (1, q.1, 0, ⟨#[]⟩, ⟨#[]⟩, true) else
  if w = [110, 110, 116, 112] ∧ n = 2 ∧ q.2 = true then (2, q.1, 0, ⟨#[]⟩, ⟨#[]⟩, true) else
  if w = [99, 108, 111, 115, 101] ∧ n = 2 ∧ q.2 = true then (4, q.1, 0, ⟨#[]⟩, ⟨#[]⟩, true) else
  if w = [115, 97, 121] ∧ 1 < n ∧ q.2 = true then (3, q.1, 0, ⟨#[]⟩, third ++ ⟨#[13, 10]⟩, true) else
  if w = [99, 114, 97, 115, 104] ∧ n = 1 then (7, 0, 0, ⟨#[]⟩, ⟨#[]⟩, true) else noR
theorem ladder (x0 : ByteArray) (w : Bytes) (W : List ByteArray) (q : Int × Bool) (third : ByteArray) (h3 : third.size ≤ 40000) (H : Ev (fun k => spec_l16Rest.f k x0 2) third) :
    Ev (fun k => spec_l16Read.j0 k x0 (bs w :: W) q.1 q.2) (sRead w (W.length + 1) q (W.headD ByteArray.empty) third) := by
  have r0 : (rdOf ByteArray.empty (bs w :: W) 0).toList = w := by show (bs w).toList = w; exact bs_toList w
  have r1 : rdOf ByteArray.empty (bs w :: W) 1 = W.headD ByteArray.empty := by cases W <;> rfl
  have hl : (0 : Int) < ((bs w :: W).length : Int) := by rw [List.length_cons]; omega
  have hn : ((bs w :: W).length : Int) = ((W.length + 1 : Nat) : Int) := by simp
  -- from the last rung back
  have s6 : ∀ (b : Bool) (r : EvR), (b = true → r = (3, q.1, 0, ⟨#[]⟩, third ++ ⟨#[13, 10]⟩, true)) → (b = false → r = if w = [99, 114, 97, 115, 104] ∧ W.length + 1 = 1 then (7, 0, 0, ⟨#[]⟩, ⟨#[]⟩, true) else noR) → Ev (fun k => spec_l16Read.j6 k x0 (bs w :: W) q.1 b) r := by
    intro b r ht hf
    refine Ev.step (fun _ => spec_l16Read.j6.eq_2 ..) ?_
    cases b with
    | true => rw [ht rfl]; exact ev_pos rfl (Ev.bind H (ev_pos (by omega) (ev_some rfl)))
    | false =>
      rw [hf rfl]
      refine ev_neg (by simp) (ev_pos hl ?_)
      rw [r0, hn]
      by_cases h : w = [99, 114, 97, 115, 104]
      · by_cases h1 : W.length + 1 = 1
        · exact ev_to (if_pos ⟨h, h1⟩).symm (ev_pos h (ev_pos (by omega) (ev_some rfl)))
        · exact ev_to (if_neg (fun x => h1 x.2)).symm (ev_pos h (ev_neg (by omega) (ev_some rfl)))
      · exact ev_to (if_neg (fun x => h x.1)).symm (ev_neg h (ev_some rfl))
  have s5 : ∀ (b : Bool) (r : EvR), (b = true → r = (4, q.1, 0, ⟨#[]⟩, ⟨#[]⟩, true)) → (b = false → r = if w = [115, 97, 121] ∧ 1 < W.length + 1 ∧ q.2 = true then (3, q.1, 0, ⟨#[]⟩, third ++ ⟨#[13, 10]⟩, true) else if w = [99, 114, 97, 115, 104] ∧ W.length + 1 = 1 then (7, 0, 0, ⟨#[]⟩, ⟨#[]⟩, true) else noR) → Ev (fun k => spec_l16Read.j5 k x0 (bs w :: W) q.1 q.2 b) r := by
    intro b r ht hf
    refine Ev.step (fun _ => spec_l16Read.j5.eq_2 ..) ?_
    cases b with
    | true => rw [ht rfl]; exact ev_pos rfl (ev_some rfl)
    | false =>
      rw [hf rfl]
      refine ev_neg (by simp) (ev_pos hl ?_)
      rw [r0, hn]
      by_cases h : w = [115, 97, 121]
      · refine ev_pos h ?_
        by_cases h1 : 1 < W.length + 1
        · refine ev_pos (by omega) (s6 _ _ (fun e => ?_) (fun e => ?_))
          · rw [if_pos ⟨h, h1, e⟩]
          · rw [if_neg (fun x => by rw [e] at x; simp at x)]
        · exact ev_neg (by omega) (s6 _ _ (fun e => by cases e) (fun e => by rw [if_neg (fun x => h1 x.2.1)]))
      · exact ev_neg h (s6 _ _ (fun e => by cases e) (fun e => by rw [if_neg (fun x => h x.1)]))
  have s4 : ∀ (b : Bool) (r : EvR), (b = true → r = (2, q.1, 0, ⟨#[]⟩, ⟨#[]⟩, true)) → (b = false → r = if w = [99, 108, 111, 115, 101] ∧ W.length + 1 = 2 ∧ q.2 = true then (4, q.1, 0, ⟨#[]⟩, ⟨#[]⟩, true) else if w = [115, 97, 121] ∧ 1 < W.length + 1 ∧ q.2 = true then (3, q.1, 0, ⟨#[]⟩, third ++ ⟨#[13, 10]⟩, true) else if w = [99, 114, 97, 115, 104] ∧ W.length + 1 = 1 then (7, 0, 0, ⟨#[]⟩, ⟨#[]⟩, true) else noR) → Ev (fun k => spec_l16Read.j4 k x0 (bs w :: W) q.1 q.2 b) r := by
    intro b r ht hf
    refine Ev.step (fun _ => spec_l16Read.j4.eq_2 ..) ?_
    cases b with
    | true => rw [ht rfl]; exact ev_pos rfl (ev_some rfl)
    | false =>
      rw [hf rfl]
      refine ev_neg (by simp) (ev_pos hl ?_)
      rw [r0, hn]
      by_cases h : w = [99, 108, 111, 115, 101]
      · refine ev_pos h ?_
        by_cases h1 : W.length + 1 = 2
        · refine ev_pos (by omega) (s5 _ _ (fun e => ?_) (fun e => ?_))
          · rw [if_pos ⟨h, h1, e⟩]
          · rw [if_neg (fun x => by rw [e] at x; simp at x)]
        · exact ev_neg (by omega) (s5 _ _ (fun e => by cases e) (fun e => by rw [if_neg (fun x => h1 x.2.1)]))
      · exact ev_neg h (s5 _ _ (fun e => by cases e) (fun e => by rw [if_neg (fun x => h x.1)]))
  have s3 : ∀ (b : Bool) (r : EvR), (b = true → r = (1, q.1, 0, ⟨#[]⟩, ⟨#[]⟩, true)) → (b = false → r = if w = [110, 110, 116, 112] ∧ W.length + 1 = 2 ∧ q.2 = true then (2, q.1, 0, ⟨#[]⟩, ⟨#[]⟩, true) else if w = [99, 108, 111, 115, 101] ∧ W.length + 1 = 2 ∧ q.2 = true then (4, q.1, 0, ⟨#[]⟩, ⟨#[]⟩, true) else if w = [115, 97, 121] ∧ 1 < W.length + 1 ∧ q.2 = true then (3, q.1, 0, ⟨#[]⟩, third ++ ⟨#[13, 10]⟩, true) else if w = [99, 114, 97, 115, 104] ∧ W.length + 1 = 1 then (7, 0, 0, ⟨#[]⟩, ⟨#[]⟩, true) else noR) → Ev (fun k => spec_l16Read.j3 k x0 (bs w :: W) q.1 q.2 b) r := by
    intro b r ht hf
    refine Ev.step (fun _ => spec_l16Read.j3.eq_2 ..) ?_
    cases b with
    | true => rw [ht rfl]; exact ev_pos rfl (ev_some rfl)
    | false =>
      rw [hf rfl]
      refine ev_neg (by simp) (ev_pos hl ?_)
      rw [r0, hn]
      by_cases h : w = [110, 110, 116, 112]
      · refine ev_pos h ?_
        by_cases h1 : W.length + 1 = 2
        · refine ev_pos (by omega) (s4 _ _ (fun e => ?_) (fun e => ?_))
          · rw [if_pos ⟨h, h1, e⟩]
          · rw [if_neg (fun x => by rw [e] at x; simp at x)]
        · exact ev_neg (by omega) (s4 _ _ (fun e => by cases e) (fun e => by rw [if_neg (fun x => h1 x.2.1)]))
      · exact ev_neg h (s4 _ _ (fun e => by cases e) (fun e => by rw [if_neg (fun x => h x.1)]))
  refine Ev.step (fun _ => spec_l16Read.j0.eq_2 ..) (ev_pos hl ?_)
  rw [r0, hn]
  have s1 : ∀ (b : Bool), ((w = [109, 97, 107, 101] ∧ W.length + 1 = 2) ↔ b = true) → Ev (fun k => spec_l16Read.j1 k x0 (bs w :: W) q.1 q.2 b) (sRead w (W.length + 1) q (W.headD ByteArray.empty) third) := by
    intro b hb
    refine Ev.step (fun _ => spec_l16Read.j1.eq_2 ..) ?_
    cases b with
    | true =>
      have := hb.mpr rfl
      unfold sRead
      rw [if_pos this, r1, hn]
      exact ev_pos rfl (ev_pos (by omega) (ev_some rfl))
    | false =>
      have hm : ¬ (w = [109, 97, 107, 101] ∧ W.length + 1 = 2) := fun x => by simpa using hb.mp x
      unfold sRead
      rw [if_neg hm]
      refine ev_neg (by simp) (ev_pos hl ?_)
      rw [r0, hn]
      have s2 : ∀ (b : Bool), ((w = [112, 111, 108, 108] ∧ 2 < W.length + 1) ↔ b = true) → Ev (fun k => spec_l16Read.j2 k x0 (bs w :: W) q.1 q.2 b) (if w = [112, 111, 108, 108] ∧ 2 < W.length + 1 then ((5, 0, 0, W.headD ByteArray.empty, third, true) : EvR) else if w = [105, 109, 97, 112] ∧ W.length + 1 = 2 ∧ q.2 = true then (1, q.1, 0, ⟨#[]⟩, ⟨#[]⟩, true) else if w = [110, 110, 116, 112] ∧ W.length + 1 = 2 ∧ q.2 = true then (2, q.1, 0, ⟨#[]⟩, ⟨#[]⟩, true) else if w = [99, 108, 111, 115, 101] ∧ W.length + 1 = 2 ∧ q.2 = true then (4, q.1, 0, ⟨#[]⟩, ⟨#[]⟩, true) else if w = [115, 97, 121] ∧ 1 < W.length + 1 ∧ q.2 = true then (3, q.1, 0, ⟨#[]⟩, third ++ ⟨#[13, 10]⟩, true) else if w = [99, 114, 97, 115, 104] ∧ W.length + 1 = 1 then (7, 0, 0, ⟨#[]⟩, ⟨#[]⟩, true) else noR) := by
        intro b hb
        refine Ev.step (fun _ => spec_l16Read.j2.eq_2 ..) ?_
        cases b with
        | true =>
          have := hb.mpr rfl
          rw [if_pos this, r1, hn]
          exact ev_pos rfl (ev_pos (by omega) (Ev.bind H (ev_some rfl)))
        | false =>
          have hm : ¬ (w = [112, 111, 108, 108] ∧ 2 < W.length + 1) := fun x => by simpa using hb.mp x
          rw [if_neg hm]
          refine ev_neg (by simp) (ev_pos hl ?_)
          rw [r0, hn]
          by_cases h : w = [105, 109, 97, 112]
          · refine ev_pos h ?_
            by_cases h1 : W.length + 1 = 2
            · refine ev_pos (by omega) (s3 _ _ (fun e => ?_) (fun e => ?_))
              · rw [if_pos ⟨h, h1, e⟩]
              · rw [if_neg (fun x => by rw [e] at x; simp at x)]
            · exact ev_neg (by omega) (s3 _ _ (fun e => by cases e) (fun e => by rw [if_neg (fun x => h1 x.2.1)]))
          · exact ev_neg h (s3 _ _ (fun e => by cases e) (fun e => by rw [if_neg (fun x => h x.1)]))
      by_cases h : w = [112, 111, 108, 108]
      · exact ev_pos h (s2 _ (by simp [h]; omega))
      · exact ev_neg h (s2 _ (by simp [h]))
  by_cases h : w = [109, 97, 107, 101]
  · exact ev_pos h (s1 _ (by simp [h]; omega))
  · exact ev_neg h (s1 _ (by simp [h]))
/-! The program's way. -/
def iRead (w rest first more : Bytes) : EvR :=
  if w = [109, 97, 107, 101] ∧ ¬ first = [] ∧ more = [] then (6, 0, 0, bs first, ⟨#[]⟩, true) else
  if w = [112, 111, 108, 108] ∧ ¬ more = [] then (5, 0, 0, bs first, bs more, true) else
  if w = [105, 109, 97, 112] ∧ more = [] then (1, (numR first).1, 0, ⟨#[]⟩, ⟨#[]⟩, (numR first).2) else
  if w = [110, 110, 116, 112] ∧ more = [] then (2, (numR first).1, 0, ⟨#[]⟩, ⟨#[]⟩, (numR first).2) else
  if w = [99, 108, 111, 115, 101] ∧ more = [] then (4, (numR first).1, 0, ⟨#[]⟩, ⟨#[]⟩, (numR first).2) else
  if w = [115, 97, 121] then (3, (numR first).1, 0, ⟨#[]⟩, bs more ++ ⟨#[13, 10]⟩, (numR first).2) else
  if w = [99, 114, 97, 115, 104] ∧ rest = [] then (7, 0, 0, ⟨#[]⟩, ⟨#[]⟩, true) else noR
theorem numbered_ev (n : Int) (f : Bytes) (hf : f.length ≤ 40000) : Ev (fun k => impl_numbered.f k n (bs f)) (n, (numR f).1, 0, ⟨#[]⟩, ⟨#[]⟩, (numR f).2) := by
  unfold impl_numbered.f
  have := impl_number_ev (bs f) (by rw [bs_size]; omega)
  rw [bs_data] at this
  exact Ev.bind this (ev_some rfl)
theorem ev_iff {c d : Prop} [Decidable c] [Decidable d] {t e : Nat → Option EvR} {a b : EvR} (h : c ↔ d) (h1 : d → Ev t a) (h2 : ¬ d → Ev e b) : Ev (fun k => if c then t k else e k) (if d then a else b) := by
  by_cases hd : d
  · rw [if_pos hd]; exact ev_pos (h.mpr hd) (h1 hd)
  · rw [if_neg hd]; exact ev_neg (fun x => hd (h.mp x)) (h2 hd)
theorem iread_ev (w rest first more : Bytes) (hf : first.length ≤ 40000) (hm : more.length ≤ 40000) : Ev (fun k => impl_readLine.g k (bs w) (bs rest) (bs first) (bs more)) (iRead w rest first more) := by
  unfold impl_readLine.g iRead
  simp only [bs_toList]
  refine ev_iff Iff.rfl (fun _ => ev_some rfl) (fun _ => ?_)
  refine ev_iff Iff.rfl (fun _ => ev_some rfl) (fun _ => ?_)
  refine ev_iff Iff.rfl (fun _ => numbered_ev _ _ hf) (fun _ => ?_)
  refine ev_iff Iff.rfl (fun _ => numbered_ev _ _ hf) (fun _ => ?_)
  refine ev_iff Iff.rfl (fun _ => numbered_ev _ _ hf) (fun _ => ?_)
  refine ev_iff Iff.rfl (fun _ => Ev.bind (numbered_ev _ _ hf) (ev_pos (by rw [bs_size]; omega) (ev_some rfl))) (fun _ => ?_)
  exact ev_iff Iff.rfl (fun _ => ev_some rfl) (fun _ => ev_some rfl)
/-- Both alike: the same flag, and with it the same event. -/
theorem both (w rest first more : Bytes) (n : Nat) (hw : w ≠ []) (h1 : n = 1 ↔ rest = []) (h1f : n = 1 ↔ first = []) (h2 : 2 < n ↔ more ≠ []) (h0 : 1 ≤ n) (hfn : first = [] → numR first = (0, false)) :
    (sRead w n (numR first) (bs first) (bs more)).2.2.2.2.2 = (iRead w rest first more).2.2.2.2.2 ∧ ((sRead w n (numR first) (bs first) (bs more)).2.2.2.2.2 = true → sRead w n (numR first) (bs first) (bs more) = iRead w rest first more) := by
  have hn2 : n = 2 ↔ (¬ first = [] ∧ more = []) := by
    constructor
    · intro e; exact ⟨fun x => by have := h1f.mpr x; omega, Decidable.byContradiction fun x => by have := h2.mpr x; omega⟩
    · rintro ⟨a, b⟩
      have c1 : ¬ n = 1 := fun x => a (h1f.mp x)
      have c2 : ¬ 2 < n := fun x => (h2.mp x) b
      omega
  have hn3 : 1 < n ↔ ¬ first = [] := by rw [← h1f]; omega
  have hn4 : 2 < n ↔ ¬ more = [] := h2
  have hmf : first = [] → more = [] := fun e => Decidable.byContradiction fun x => by have := h2.mpr x; have := h1f.mpr e; omega
  unfold sRead iRead
  simp only [hn2, hn3, hn4, h1]
  by_cases w1 : w = [109, 97, 107, 101]
  · subst w1; by_cases a : first = [] <;> by_cases b : more = [] <;> simp [a, b]
  by_cases w2 : w = [112, 111, 108, 108]
  · subst w2; by_cases b : more = [] <;> simp [b]
  by_cases w3 : w = [105, 109, 97, 112]
  · subst w3; by_cases a : first = []
    · rw [hfn a]; simp [a, hmf a]
    · by_cases b : more = []
      · cases hq : (numR first).2 <;> simp [a, b]
      · simp [a, b]
  by_cases w4 : w = [110, 110, 116, 112]
  · subst w4; by_cases a : first = []
    · rw [hfn a]; simp [a, hmf a]
    · by_cases b : more = []
      · cases hq : (numR first).2 <;> simp [a, b]
      · simp [a, b]
  by_cases w5 : w = [99, 108, 111, 115, 101]
  · subst w5; by_cases a : first = []
    · rw [hfn a]; simp [a, hmf a]
    · by_cases b : more = []
      · cases hq : (numR first).2 <;> simp [a, b]
      · simp [a, b]
  by_cases w6 : w = [115, 97, 121]
  · subst w6; by_cases a : first = []
    · rw [hfn a]; simp [a, hmf a]
    · cases hq : (numR first).2 <;> simp [a]
  by_cases w7 : w = [99, 114, 97, 115, 104]
  · subst w7; by_cases a : rest = [] <;> simp [a]
  simp [w1, w2, w3, w4, w5, w6, w7]
/-- A line read: both answer the same. -/
theorem read_same (l : Bytes) : ∃ r, Ev (fun k => spec_ReadLine.f k (bs l)) r ∧ Ev (fun k => impl_ReadLine.f k (bs l)) r := by
  unfold spec_ReadLine.f impl_ReadLine.f
  by_cases hl : 32768 < l.length
  · exact ⟨_, ev_pos (by rw [bs_size]; omega) (ev_some rfl), ev_pos (by rw [bs_size]; omega) (ev_some rfl)⟩
  have hn : ¬ ((bs l).size : Int) > 32768 := by rw [bs_size]; omega
  have b1 := wordB_len l
  have b2 := restB_len l
  have b3 := trimB_len (restB l)
  have b4 := wordB_len (restB l)
  have b5 := restB_len (restB l)
  have b6 := trimB_len (restB (restB l))
  have hI : Ev (fun k => impl_readLine.f k (bs l)) (iRead (wordB l) (Lib.trimB (restB l) 32) (wordB (restB l)) (Lib.trimB (restB (restB l)) 32)) := by
    unfold impl_readLine.f
    refine ev_bindc (cutWord_f l (by omega)) (ev_bindc (cutWord_f (Lib.trimB (restB l) 32) (by omega)) ?_)
    simp only
    obtain ⟨p1, p2⟩ := rest_trim (restB l)
    rw [p1, p2, trim_trR]
    exact iread_ev _ _ _ _ (by omega) (by omega)
  have hW := words_ev l (by omega)
  rw [tw_all] at hW
  have hfn : ∀ f : Bytes, f = [] → numR f = (0, false) := by rintro f rfl; rfl
  by_cases h0 : skipB l = []
  · rw [if_pos h0] at hW
    have : wordB l = [] := by unfold wordB; rw [h0]; rfl
    rw [this] at hI
    refine ⟨_, ev_neg hn (Ev.bind hW (ev_pos rfl (ev_some rfl))), ev_neg hn (Ev.bind hI ?_)⟩
    exact ev_neg (by simp [iRead]) (ev_some rfl)
  rw [if_neg h0, tw_all (restB l)] at hW
  have hw := wordB_ne h0
  have key : ∀ (n : Nat) (hr : Ev (fun k => (spec_l00Words.f k (bs l)).bind fun t123 => (if (t123.length : Int) = 0 then (some (0, 0, 0, (⟨#[]⟩ : ByteArray), (⟨#[]⟩ : ByteArray), (3 : Int))) else ((spec_l16Read.f k (bs l) t123).bind fun bt126 => (if bt126.2.2.2.2.2 = true then (some (bt126.1, bt126.2.1, bt126.2.2.1, bt126.2.2.2.1, bt126.2.2.2.2.1, (0 : Int))) else (some (0, 0, 0, (⟨#[]⟩ : ByteArray), (⟨#[]⟩ : ByteArray), 3)))))) (let s := sRead (wordB l) n (numR (wordB (restB l))) (bs (wordB (restB l))) (bs (Lib.trimB (restB (restB l)) 32)); if s.2.2.2.2.2 = true then (s.1, s.2.1, s.2.2.1, s.2.2.2.1, s.2.2.2.2.1, (0 : Int)) else (0, 0, 0, ⟨#[]⟩, ⟨#[]⟩, 3)))
      (h1 : n = 1 ↔ Lib.trimB (restB l) 32 = []) (h1f : n = 1 ↔ wordB (restB l) = []) (h2 : 2 < n ↔ Lib.trimB (restB (restB l)) 32 ≠ []) (hn0 : 1 ≤ n),
      ∃ r, Ev (fun k => if ((bs l).size : Int) > 32768 then (some (0, 0, 0, (⟨#[]⟩ : ByteArray), (⟨#[]⟩ : ByteArray), 2)) else ((spec_l00Words.f k (bs l)).bind fun t123 => (if (t123.length : Int) = 0 then (some (0, 0, 0, (⟨#[]⟩ : ByteArray), (⟨#[]⟩ : ByteArray), (3 : Int))) else ((spec_l16Read.f k (bs l) t123).bind fun bt126 => (if bt126.2.2.2.2.2 = true then (some (bt126.1, bt126.2.1, bt126.2.2.1, bt126.2.2.2.1, bt126.2.2.2.2.1, (0 : Int))) else (some (0, 0, 0, (⟨#[]⟩ : ByteArray), (⟨#[]⟩ : ByteArray), 3))))))) r ∧ Ev (fun k => if ((bs l).size : Int) > 32768 then (some (0, 0, 0, (⟨#[]⟩ : ByteArray), (⟨#[]⟩ : ByteArray), 2)) else ((impl_readLine.f k (bs l)).bind fun bt150 => (if bt150.2.2.2.2.2 = true then (some (bt150.1, bt150.2.1, bt150.2.2.1, bt150.2.2.2.1, bt150.2.2.2.2.1, 0)) else (some (0, 0, 0, (⟨#[]⟩ : ByteArray), (⟨#[]⟩ : ByteArray), 3))))) r := by
    intro n hr h1 h1f h2 hn0
    obtain ⟨e1, e2⟩ := both (wordB l) (Lib.trimB (restB l) 32) (wordB (restB l)) (Lib.trimB (restB (restB l)) 32) n hw h1 h1f h2 hn0 (hfn _)
    refine ⟨_, ev_neg hn hr, ev_neg hn (Ev.bind hI ?_)⟩
    simp only
    generalize sRead (wordB l) n (numR (wordB (restB l))) (bs (wordB (restB l))) (bs (Lib.trimB (restB (restB l)) 32)) = s at e1 e2 ⊢
    generalize iRead (wordB l) (Lib.trimB (restB l) 32) (wordB (restB l)) (Lib.trimB (restB (restB l)) 32) = t at e1 e2 ⊢
    cases hs : s.2.2.2.2.2 with
    | true =>
      rw [← e2 hs, hs]
      exact ev_pos rfl (ev_some rfl)
    | false =>
      rw [← e1, hs]
      exact ev_neg (by simp) (ev_some (by simp))
  have third := rest_ev l (by omega)
  have inner : ∀ (W : List ByteArray) (hWe : Ev (fun k => spec_l00Words.f k (bs l)) (bs (wordB l) :: W)) (hh : W = [] ∧ wordB (restB l) = [] ∨ W ≠ [] ∧ W.headD ByteArray.empty = bs (wordB (restB l))),
      Ev (fun k => (spec_l00Words.f k (bs l)).bind fun t123 => (if (t123.length : Int) = 0 then (some (0, 0, 0, (⟨#[]⟩ : ByteArray), (⟨#[]⟩ : ByteArray), (3 : Int))) else ((spec_l16Read.f k (bs l) t123).bind fun bt126 => (if bt126.2.2.2.2.2 = true then (some (bt126.1, bt126.2.1, bt126.2.2.1, bt126.2.2.2.1, bt126.2.2.2.2.1, (0 : Int))) else (some (0, 0, 0, (⟨#[]⟩ : ByteArray), (⟨#[]⟩ : ByteArray), 3)))))) (let s := sRead (wordB l) (W.length + 1) (numR (wordB (restB l))) (bs (wordB (restB l))) (bs (Lib.trimB (restB (restB l)) 32)); if s.2.2.2.2.2 = true then (s.1, s.2.1, s.2.2.1, s.2.2.2.1, s.2.2.2.2.1, (0 : Int)) else (0, 0, 0, ⟨#[]⟩, ⟨#[]⟩, 3)) := by
    intro W hWe hh
    refine Ev.bind hWe (ev_neg (by simp; omega) ?_)
    have hR : Ev (fun k => spec_l16Read.f k (bs l) (bs (wordB l) :: W)) (sRead (wordB l) (W.length + 1) (numR (wordB (restB l))) (bs (wordB (restB l))) (bs (Lib.trimB (restB (restB l)) 32))) := by
      unfold spec_l16Read.f
      rcases hh with ⟨rfl, e⟩ | ⟨hne, e⟩
      · refine ev_neg (by simp) ?_
        rw [e]
        exact ladder (bs l) (wordB l) [] (0, false) _ (by rw [bs_size]; omega) third
      · obtain ⟨x, W, rfl⟩ : ∃ x W', W = x :: W' := by cases W with | nil => exact absurd rfl hne | cons a b => exact ⟨a, b, rfl⟩
        obtain rfl : x = bs (wordB (restB l)) := e
        refine ev_pos (by simp; omega) (ev_pos (by simp; omega) ?_)
        have hnum := spec_number (bs (wordB (restB l))) (by rw [bs_size]; omega)
        rw [bs_data] at hnum
        exact Ev.bind hnum (ladder (bs l) (wordB l) (bs (wordB (restB l)) :: W) (numR (wordB (restB l))) _ (by rw [bs_size]; omega) third)
    refine Ev.bind hR ?_
    simp only
    generalize sRead (wordB l) (W.length + 1) (numR (wordB (restB l))) (bs (wordB (restB l))) (bs (Lib.trimB (restB (restB l)) 32)) = s
    cases hs : s.2.2.2.2.2 with
    | true => exact ev_pos rfl (ev_some (by simp))
    | false => exact ev_neg (by simp) (ev_some (by simp))
  by_cases h1 : skipB (restB l) = []
  · rw [if_pos h1] at hW
    have e1 : wordB (restB l) = [] := by unfold wordB; rw [h1]; rfl
    have e2 : restB (restB l) = [] := by unfold restB; rw [show skipB (tailW (skipB l)) = [] from h1]; rfl
    refine key 1 (inner [] hW (.inl ⟨rfl, e1⟩)) ?_ ?_ ?_ (by omega)
    · exact ⟨fun _ => (trim_nil _).mpr h1, fun _ => rfl⟩
    · exact ⟨fun _ => e1, fun _ => rfl⟩
    · rw [e2]; exact ⟨fun x => by omega, fun x => absurd rfl x⟩
  rw [if_neg h1] at hW
  have e1 := wordB_ne h1
  rw [List.map_cons, List.map_cons] at hW
  have hlen : (tw [] (restB (restB l))).length = 0 ↔ skipB (restB (restB l)) = [] := by
    rw [tw_all]
    by_cases h : skipB (restB (restB l)) = []
    · rw [if_pos h]; simp [h]
    · rw [if_neg h]; simp [h]
  have hWle : ∀ (m : Nat) (u c : Bytes), u.length ≤ m → (tw c u).length ≤ u.length + 1 := by
    intro m
    induction m with
    | zero => intro u c hu; obtain rfl := List.eq_nil_of_length_eq_zero (by omega : u.length = 0); rw [tw]; split <;> simp
    | succ m ih =>
      intro u c hu
      cases u with
      | nil => rw [tw]; split <;> simp
      | cons a r =>
        have hr : r.length ≤ m := by simpa using hu
        rw [tw]
        split
        · split
          · have := ih r [] hr; simp; omega
          · have := ih r [] hr; simp; omega
        · have := ih r (c ++ [a]) hr; simp; omega
  have hk := hWle _ (restB (restB l)) [] (Nat.le_refl _)
  refine key ((tw [] (restB (restB l))).length + 2) ?_ ?_ ?_ ?_ (by omega)
  · have := inner (bs (wordB (restB l)) :: (tw [] (restB (restB l))).map bs) hW (.inr ⟨by simp, rfl⟩)
    rw [List.length_cons, List.length_map] at this
    exact this
  · exact ⟨fun x => by omega, fun x => absurd ((trim_nil _).mp x) h1⟩
  · exact ⟨fun x => by omega, fun x => absurd x e1⟩
  · rw [Ne, trim_nil, ← hlen]; omega
/-- The law's answer: true. -/
theorem law_true (s : ByteArray) : Ev (fun k => laws_FnExactReadLine.f k s) true := by
  obtain ⟨l, rfl⟩ := bs_ex s
  unfold laws_FnExactReadLine.f
  by_cases hl : ((bs l).size : Int) > 1048576
  · exact ev_pos hl (ev_some rfl)
  obtain ⟨r, r1, r2⟩ := read_same l
  refine ev_neg hl (Ev.bind r1 (Ev.bind r2 (ev_bindc (a := true) ?_ (ev_pos rfl (ev_pos rfl (ev_some rfl))))))
  unfold laws_eqEvent.f
  rw [if_pos rfl, if_pos rfl, if_pos rfl, if_pos rfl, if_pos rfl]
end Go.Proofs.YtnphhnhnmohfiaaDoor.PFnExactReadLine
