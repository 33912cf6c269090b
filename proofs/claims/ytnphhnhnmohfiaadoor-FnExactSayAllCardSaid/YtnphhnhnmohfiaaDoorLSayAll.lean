/- What the functions that FnExactSayAll reaches come to: plain. -/
import Derived.Test.YtnphhnhnmohfiaaDoorPFnExactSayAllx
import Derived.Test.YtnphhnhnmohfiaaDoorLitPure
import Derived.Lib.IndexMore
set_option linter.unusedVariables false
set_option linter.unusedSimpArgs false
namespace Go.Proofs.YtnphhnhnmohfiaaDoor.PFnExactSayAll
open Go.RowKit Go.Proofs.YtnphhnhnmohfiaaDoorW.PrintWords
/-! The reference's number. -/
theorem num_l0 (d : Bytes) (sg : Int) (hsg : sg = 1 ∨ sg = -1) (hl : d.length ≤ 18) : ∀ (m i : Nat) (v : Int), i + m = d.length → 0 ≤ v → v < ((10 ^ i : Nat) : Int) →
    Ev (fun k => spec_l00Number.l0 k (bs d) sg v i) (if (d.drop i).all isD then (sg * valF v (d.drop i), true) else (0, false)) := by
  intro m
  induction m with
  | zero =>
    intro i v hi hv hb
    have hp := pow_le18 (i := i) (by omega)
    refine Ev.step (fun _ => spec_l00Number.l0.eq_2 ..) ?_
    refine ev_neg (by rw [bs_size]; omega) ?_
    rw [w64 (by rcases hsg with rfl | rfl <;> omega) (by rcases hsg with rfl | rfl <;> omega), List.drop_of_length_le (by omega)]
    exact ev_some (by simp [valF])
  | succ m ih =>
    intro i v hi hv hb
    have hlt : i < d.length := by omega
    have hp := pow_le17 (i := i) (by omega)
    have hc := (d[i]).toNat_lt
    refine Ev.step (fun _ => spec_l00Number.l0.eq_2 ..) ?_
    refine ev_pos (by rw [bs_size]; omega) (ev_pos (by omega) ?_)
    rw [bt_bs d i hlt, drop_cons d i hlt, List.all_cons]
    by_cases h1 : (d[i]).toNat < 48
    · refine ev_pos (by omega) (ev_some ?_)
      rw [isD_not.mpr (.inl h1)]; rfl
    by_cases h2 : 57 < (d[i]).toNat
    · refine ev_neg (by omega) (ev_pos (by omega) (ev_some ?_))
      rw [isD_not.mpr (.inr h2)]; rfl
    refine ev_neg (by omega) (ev_neg (by omega) ?_)
    rw [isD_iff.mpr ⟨by omega, by omega⟩, Bool.true_and, valF_cons]
    simp (disch := omega) only [w64]
    have e : v * 10 + ((d[i]).toNat : Int) - 48 = v * 10 + (((d[i]).toNat : Int) - 48) := by omega
    rw [e]
    refine ih (i + 1) _ (by omega) (by omega) ?_
    rw [Nat.pow_succ]
    omega
theorem num_j1 (d : Bytes) (sg : Int) (hsg : sg = 1 ∨ sg = -1) (hm : d.length ≤ 1099511627776) :
    Ev (fun k => spec_l00Number.j1 k (bs d) sg) (if !d.isEmpty && decide (d.length ≤ 18) && !(d.head? == some 48 && (decide (1 < d.length) || decide (sg < 0))) && d.all isD then (sg * valF 0 d, true) else (0, false)) := by
  refine Ev.step (fun _ => spec_l00Number.j1.eq_2 ..) ?_
  have yes : Ev (fun k => spec_l00Number.j2 k (bs d) sg true) (0, false) := Ev.step (fun _ => spec_l00Number.j2.eq_2 ..) (ev_pos rfl (ev_some rfl))
  by_cases h0 : d.length = 0
  · obtain rfl := List.eq_nil_of_length_eq_zero h0
    exact ev_pos (by rw [bs_size]; rfl) yes
  obtain ⟨c, r, rfl⟩ := List.exists_cons_of_ne_nil (List.ne_nil_of_length_pos (by omega : 0 < d.length))
  refine ev_neg (by rw [bs_size]; omega) ?_
  by_cases h18 : 18 < (c :: r).length
  · refine ev_pos (by rw [bs_size]; omega) (ev_to ?_ yes)
    rw [decide_eq_false (by omega : ¬ (c :: r).length ≤ 18)]
    simp
  refine ev_neg (by rw [bs_size]; omega) (ev_pos (by rw [bs_size]; omega) ?_)
  rw [bt_zero _ (by omega), decide_eq_true (by omega : (c :: r).length ≤ 18)]
  have no : Ev (fun k => spec_l00Number.j2 k (bs (c :: r)) sg false) (if (c :: r).all isD then (sg * valF 0 (c :: r), true) else (0, false)) :=
    Ev.step (fun _ => spec_l00Number.j2.eq_2 ..) (ev_neg (by simp) (num_l0 (c :: r) sg hsg (by omega) (c :: r).length 0 0 (by omega) (by omega) (by simp)))
  simp only [List.getElem_cons_zero, List.head?_cons, List.isEmpty_cons, Bool.not_false, Bool.true_and]
  by_cases hc : c = 48
  · subst hc
    refine ev_pos (by simp) ?_
    by_cases h1 : 1 < ((48 : UInt8) :: r).length
    · refine ev_pos (by rw [bs_size]; omega) (ev_to ?_ yes)
      simp only [beq_self_eq_true, decide_eq_true h1, Bool.true_or, Bool.and_self, Bool.not_true, Bool.false_and]
      rfl
    · refine ev_neg (by rw [bs_size]; omega) ?_
      simp only [beq_self_eq_true, decide_eq_false h1, Bool.false_or, Bool.true_and]
      by_cases hn : sg < 0
      · simp only [decide_eq_true hn, Bool.not_true, Bool.false_and]
        exact yes
      · simp only [decide_eq_false hn, Bool.not_false, Bool.true_and]
        exact no
  · have hc' : ¬ (c.toNat : Int) = 48 := fun e => hc (by have := (u8_int (a := c) (n := 48)).mp e; simpa using this)
    have hb : (some c == some (48 : UInt8)) = false := by simpa using hc
    refine ev_neg hc' ?_
    simp only [hb, Bool.false_and, Bool.not_false, Bool.true_and]
    exact no
theorem spec_number (t : ByteArray) (ht : t.size ≤ 1099511627776) : Ev (fun k => spec_l00Number.f k t) (numR t.data.toList) := by
  obtain ⟨l, rfl⟩ := bs_ex t
  rw [bs_size] at ht
  rw [bs_data]
  unfold spec_l00Number.f
  cases l with
  | nil =>
    refine ev_neg (by rw [bs_size]; simp) (Ev.step (fun _ => spec_l00Number.j0.eq_2 ..) (ev_neg (by simp) (ev_to ?_ (num_j1 [] 1 (.inl rfl) (Nat.zero_le _)))))
    rfl
  | cons c r =>
    refine ev_pos (by rw [bs_size, List.length_cons]; omega) (ev_pos (by rw [bs_size, List.length_cons]; omega) ?_)
    rw [bt_zero _ (by simp)]
    refine Ev.step (fun _ => spec_l00Number.j0.eq_2 ..) ?_
    simp only [List.getElem_cons_zero]
    simp only [List.length_cons] at ht
    by_cases hc : c = 45
    · subst hc
      refine ev_pos (by simp) (ev_pos (by rw [bs_size, List.length_cons]; omega) ?_)
      have e : (bs ((45 : UInt8) :: r)).extract 1 (bs ((45 : UInt8) :: r)).size = bs r := by
        rw [bs_extract, bs_size, List.take_of_length_le (Nat.le_refl _)]; rfl
      rw [e]
      refine ev_to ?_ (num_j1 r (-1) (.inr rfl) (by omega))
      simp only [numR, numOk, numVal, numDig, numNeg, List.head?_cons, beq_self_eq_true, if_true, List.tail_cons, Int.neg_mul, Int.one_mul]
      rfl
    · have hb : (some c == some (45 : UInt8)) = false := by simpa using hc
      have hc' : ¬ (c.toNat : Int) = 45 := fun e => hc (by have := (u8_int (a := c) (n := 45)).mp e; simpa using this)
      refine ev_neg (by simpa using hc') (ev_to ?_ (num_j1 (c :: r) 1 (.inl rfl) (by simp only [List.length_cons]; omega)))
      simp only [numR, numOk, numVal, numDig, numNeg, List.head?_cons, hb, Int.one_mul]
      rfl
/-! The program's number. -/
theorem inB_f (a b c : Int) : impl_within.f a b c = some (inB a b c) := by
  unfold impl_within.f inB
  by_cases h : a ≥ b
  · rw [if_pos h, decide_eq_true (by omega : b ≤ a)]; rfl
  · rw [if_neg h, decide_eq_false (by omega : ¬ b ≤ a)]; rfl
theorem isDigit_f (c : UInt8) : impl_isDigit.f (c.toNat : Int) = some (isD c) := by
  unfold impl_isDigit.f isD
  by_cases h : 48 ≤ c.toNat
  · rw [if_pos (by omega), decide_eq_true h]; simp; omega
  · rw [if_neg (by omega), decide_eq_false h]; rfl
theorem trimMinus (l : Bytes) : strings_TrimPrefix.f (bs l) (⟨#[45]⟩ : ByteArray) = some (bs (numDig l)) := by
  unfold strings_TrimPrefix.f stringslite_TrimPrefix.f stringslite_HasPrefix.f
  have hs : (⟨#[45]⟩ : ByteArray).size = 1 := rfl
  have hL : (⟨#[45]⟩ : ByteArray).toList = [45] := bs_toList [45]
  rw [hs, hL, bs_size]
  cases l with
  | nil => rfl
  | cons c r =>
    have h1 : ((c :: r).length : Int) ≥ ((1 : Nat) : Int) := by simp only [List.length_cons]; omega
    rw [if_pos h1, if_pos (by decide), if_pos h1]
    have e : ((bs (c :: r)).extract 0 ((1 : Nat) : Int).toNat).toList = [c] := by rw [bs_extract, bs_toList]; rfl
    rw [e]
    simp only [Option.bind_some, numDig, numNeg, List.head?_cons]
    by_cases hc : c = 45
    · subst hc
      simp only [beq_self_eq_true, if_true]
      rw [if_pos (by decide), if_pos h1]
      simp only [Option.bind_some]
      have e2 : (bs ((45 : UInt8) :: r)).extract ((1 : Nat) : Int).toNat ((45 : UInt8) :: r).length = bs r := by
        rw [bs_extract, List.take_of_length_le (Nat.le_refl _)]; rfl
      rw [e2]; rfl
    · have hb : ([c] == [(45 : UInt8)]) = false := by simpa using hc
      have hb2 : (some c == some (45 : UInt8)) = false := by simpa using hc
      simp only [hb, hb2]; rfl
theorem inum_l0 (l d : Bytes) (a : Int) (ha : ∀ h : d.all isD = true, strconv_Atoi.f (bs l) = some (a, none)) (hl : d.length ≤ 18) : ∀ (m i : Nat), i + m = d.length → (d.take i).all isD = true →
    Ev (fun k => impl_number.l0 k (bs l) (bs d) (d.length : Int) i) (if (d.drop i).all isD then (a, true) else (0, false)) := by
  intro m
  induction m with
  | zero =>
    intro i hi ht
    refine Ev.step (fun _ => impl_number.l0.eq_2 ..) (ev_neg (by omega) ?_)
    rw [List.take_of_length_le (by omega)] at ht
    refine ev_bindc (ha ht) ?_
    rw [List.drop_of_length_le (by omega)]
    exact ev_pos rfl (ev_some (by simp))
  | succ m ih =>
    intro i hi ht
    have hlt : i < d.length := by omega
    refine Ev.step (fun _ => impl_number.l0.eq_2 ..) (ev_pos (by omega) (ev_pos (by omega) (ev_pos (by rw [bs_size]; omega) ?_)))
    rw [bt_bs d i hlt, isDigit_f, drop_cons d i hlt, List.all_cons]
    simp only [Option.bind_some]
    cases hc : isD d[i] with
    | false => exact ev_neg (by simp) (ev_some rfl)
    | true =>
      refine ev_pos rfl ?_
      rw [w64n (by omega), Bool.true_and]
      refine ih (i + 1) (by omega) ?_
      rw [List.take_succ_eq_append_getElem hlt, List.all_append, ht]
      simp [hc]
theorem impl_number_ev (t : ByteArray) (ht : t.size ≤ 1099511627776) : Ev (fun k => impl_number.f k t) (numR t.data.toList) := by
  obtain ⟨l, rfl⟩ := bs_ex t
  rw [bs_size] at ht
  rw [bs_data]
  unfold impl_number.f
  refine ev_bindc (trimMinus l) (ev_bindc (inB_f _ _ _) ?_)
  rw [bs_size, bs_toList]
  have yes : Ev (fun k => impl_number.j0 k (bs l) (bs (numDig l)) true) (0, false) := Ev.step (fun _ => impl_number.j0.eq_2 ..) (ev_pos rfl (ev_some rfl))
  have hd : (numDig l).length ≤ l.length := by unfold numDig; split <;> simp
  generalize hD : numDig l = d at *
  by_cases h0 : d.length = 0
  · obtain rfl := List.eq_nil_of_length_eq_zero h0
    refine ev_neg (by simp [inB]) (ev_to ?_ yes)
    simp [numR, numOk, hD]
  by_cases h18 : 18 < d.length
  · refine ev_neg (by simp [inB]; omega) (ev_to ?_ yes)
    simp only [numR, numOk, hD, decide_eq_false (by omega : ¬ d.length ≤ 18), Bool.and_false, Bool.false_and]
    rfl
  obtain ⟨c, r, rfl⟩ := List.exists_cons_of_ne_nil (List.ne_nil_of_length_pos (by omega : 0 < d.length))
  refine ev_pos (inB_iff.mpr ⟨by omega, by omega⟩) ?_
  have hA : ∀ h : (c :: r).all isD = true, strconv_Atoi.f (bs l) = some (numVal l, none) := fun h => by
    have := atoi_num (l := l) (by rw [hD]; simp) (by rw [hD]; omega) (by rw [hD]; exact h)
    unfold strconv_Atoi.f atoiOk
    rw [bs_size, bs_data, if_pos (by omega), this]; rfl
  have no : Ev (fun k => impl_number.j0 k (bs l) (bs (c :: r)) false) (if (c :: r).all isD then (numVal l, true) else (0, false)) := by
    refine Ev.step (fun _ => impl_number.j0.eq_2 ..) (ev_neg (by simp) ?_)
    rw [bs_size]
    exact inum_l0 l (c :: r) (numVal l) hA (by omega) (c :: r).length 0 (by omega) (by simp)
  have hz : (l == [45, 48]) = (numNeg l && (c :: r) == [48]) := by
    rw [← hD]
    cases l with
    | nil => rfl
    | cons x y =>
      by_cases hx : x = 45
      · subst hx
        have : numNeg (45 :: y) = true := by simp [numNeg]
        rw [numDig, this]; simp
      · have : numNeg (x :: y) = false := by simp [numNeg, hx]
        rw [this]; simp [hx]
  have hR : numR l = if !((c :: r).head? == some 48 && (decide (1 < (c :: r).length) || numNeg l)) && (c :: r).all isD then (numVal l, true) else (0, false) := by
    rw [numR, numOk, hD, decide_eq_true (by omega : (c :: r).length ≤ 18)]
    simp
  rw [hR]
  simp only [List.head?_cons]
  rw [hz]
  by_cases h1 : 1 < (c :: r).length
  · refine ev_pos (by omega) (ev_pos (by omega) ?_)
    rw [bt_zero _ (by omega), decide_eq_true h1]
    simp only [List.getElem_cons_zero, Bool.true_or, Bool.and_true]
    have hr : ((c :: r) == [(48 : UInt8)]) = false := by
      cases r with
      | nil => simp at h1
      | cons x y => simp
    rw [hr, Bool.and_false]
    by_cases hc : c = 48
    · subst hc
      exact ev_pos (by simp) (ev_to (by simp) yes)
    · have hc' : ¬ (c.toNat : Int) = 48 := fun e => hc (by have := (u8_int (a := c) (n := 48)).mp e; simpa using this)
      have hb : (some c == some (48 : UInt8)) = false := by simpa using hc
      refine ev_neg hc' ?_
      simp only [hb, Bool.not_false, Bool.true_and]
      exact no
  · refine ev_neg (by omega) ?_
    obtain rfl : r = [] := by cases r; rfl; simp at h1
    rw [decide_eq_false h1]
    simp only [Bool.false_or]
    by_cases hc : c = 48
    · subst hc
      simp only [beq_self_eq_true, Bool.true_and, Bool.and_true]
      cases hN : numNeg l with
      | true => simp only [Bool.not_true, Bool.false_and]; exact yes
      | false => simp only [Bool.not_false, Bool.true_and]; exact no
    · have hb : (some c == some (48 : UInt8)) = false := by simpa using hc
      have hb2 : ([c] == [(48 : UInt8)]) = false := by simpa using hc
      simp only [hb, hb2, Bool.false_and, Bool.and_false, Bool.not_false, Bool.true_and]
      exact no
/-! Lists of texts: copied, alike, marked, held. -/
theorem eqStringS_refl (l : List ByteArray) (hl : l.length ≤ 1099511627776) : Ev (fun k => laws_eqStringS.f k l l) true := by
  have loop : ∀ m i : Nat, i + m = l.length → Ev (fun k => laws_eqStringS.l0 k l l i) true := by
    intro m
    induction m with
    | zero => intro i hi; exact Ev.step (fun _ => laws_eqStringS.l0.eq_2 ..) (ev_neg (by omega) (ev_some rfl))
    | succ m ih =>
      intro i hi
      refine Ev.step (fun _ => laws_eqStringS.l0.eq_2 ..) (ev_pos (by omega) (ev_pos (by omega) (ev_pos (by omega) (ev_pos rfl ?_))))
      rw [w64n (by omega)]
      exact ih (i + 1) (by omega)
  unfold laws_eqStringS.f
  exact ev_pos rfl (loop l.length 0 (by omega))
theorem toStringS_ev (l : List ByteArray) (hl : l.length ≤ 1099511627776) : Ev (fun k => laws_toStringS.f k l) l := by
  have loop : ∀ (m i : Nat) (a : List ByteArray), i + m = l.length → a.length = l.length → a.take i = l.take i → Ev (fun k => laws_toStringS.l0 k l a i) l := by
    intro m
    induction m with
    | zero =>
      intro i a hi ha ht
      rw [List.take_of_length_le (by omega), List.take_of_length_le (by omega)] at ht
      subst ht
      exact Ev.step (fun _ => laws_toStringS.l0.eq_2 ..) (ev_neg (by omega) (ev_some rfl))
    | succ m ih =>
      intro i a hi ha ht
      refine Ev.step (fun _ => laws_toStringS.l0.eq_2 ..) (ev_pos (by omega) (ev_pos (by omega) (ev_pos (by omega) ?_)))
      rw [w64n (by omega), rdOf_nat _ l i (by omega), Int.toNat_natCast]
      refine ih (i + 1) _ (by omega) (by simp; omega) ?_
      rw [List.take_succ_eq_append_getElem (by simp; omega), List.take_succ_eq_append_getElem (by omega : i < l.length), List.take_set_of_le (Nat.le_refl _), ht, List.getElem_set_self]
  unfold laws_toStringS.f
  refine ev_pos (by omega) (ev_pos (by omega) ?_)
  exact loop l.length 0 _ (by omega) (by simp) (by simp)
theorem szStringS_ev (l : List ByteArray) (hl : l.length ≤ maxLen) (hs : ∀ t ∈ l, t.size ≤ maxLen) : ∃ r, Ev (fun k => laws_szStringS.f k l 1048576) r ∧ (0 ≤ r → l.length ≤ 1048576 ∧ ∀ t ∈ l, t.size ≤ 1048576) := by
  unfold maxLen at hl hs
  have loop : ∀ (m i : Nat) (a : Int), i + m = l.length → 0 ≤ a → a ≤ 1048576 → ∃ r, Ev (fun k => laws_szStringS.l0 k l a i) r ∧ (0 ≤ r → ∀ t ∈ l.drop i, t.size ≤ 1048576) := by
    intro m
    induction m with
    | zero => intro i a hi h0 h1; exact ⟨a, Ev.step (fun _ => laws_szStringS.l0.eq_2 ..) (ev_neg (by omega) (ev_some rfl)), fun _ => by rw [List.drop_of_length_le (by omega)]; simp⟩
    | succ m ih =>
      intro i a hi h0 h1
      have hlt : i < l.length := by omega
      have hz := hs l[i] (List.getElem_mem hlt)
      by_cases hn : a - (l[i].size : Int) < 0
      · refine ⟨-1, Ev.step (fun _ => laws_szStringS.l0.eq_2 ..) (ev_pos (by omega) (ev_pos (by omega) ?_)), fun h => by omega⟩
        rw [rdOf_nat _ l i hlt, w64 (by omega) (by omega)]
        exact ev_pos hn (ev_some rfl)
      · obtain ⟨r, hr, hx⟩ := ih (i + 1) (a - (l[i].size : Int)) (by omega) (by omega) (by omega)
        refine ⟨r, Ev.step (fun _ => laws_szStringS.l0.eq_2 ..) (ev_pos (by omega) (ev_pos (by omega) ?_)), fun h => ?_⟩
        · rw [rdOf_nat _ l i hlt, w64 (by omega) (by omega)]
          refine ev_neg hn ?_
          rw [w64n (by omega)]
          exact hr
        · rw [List.drop_eq_getElem_cons hlt]
          intro t ht
          rcases List.mem_cons.mp ht with rfl | ht
          · omega
          · exact hx h t ht
  unfold laws_szStringS.f
  by_cases hn : (1048576 : Int) - (l.length : Int) < 0
  · refine ⟨-1, ?_, fun h => by omega⟩
    rw [w64 (by omega) (by omega)]
    exact ev_pos hn (ev_some rfl)
  · obtain ⟨r, hr, hx⟩ := loop l.length 0 ((1048576 : Int) - (l.length : Int)) (by omega) (by omega) (by omega)
    refine ⟨r, ?_, fun h => ⟨by omega, by simpa using hx h⟩⟩
    rw [w64 (by omega) (by omega)]
    exact ev_neg hn hr
theorem markText_ex (a : Int) (h0 : 0 < a) (h1 : a ≤ 1099511627776) : ∃ t, Ev (fun k => laws_markText.f k a) t := by
  have loop : ∀ (n : Nat) (x : Int) (o : ByteArray), x.toNat ≤ n → 0 ≤ x → x ≤ 1099511627776 → (o.size : Int) + x ≤ 1099511627776 → ∃ t, Ev (fun k => laws_markText.l0 k x o) t := by
    intro n
    induction n with
    | zero =>
      intro x o hn hx hx1 ho
      exact ⟨_, Ev.step (fun _ => laws_markText.l0.eq_2 ..) (ev_neg (by omega) (ev_pos (by omega) (ev_some rfl)))⟩
    | succ n ih =>
      intro x o hn hx hx1 ho
      by_cases hp : x > 0
      · have hq : Int.tdiv x 10 = x / 10 := Int.tdiv_eq_ediv_of_nonneg hx
        obtain ⟨t, ht⟩ := ih (x / 10) (strOfNums [wrap64 (48 + Int.tmod x 10) % 256] ++ o) (by omega) (by omega) (by omega) (by rw [ByteArray.size_append, strOfNums_size]; simp only [List.length_cons, List.length_nil]; omega)
        refine ⟨t, Ev.step (fun _ => laws_markText.l0.eq_2 ..) (ev_pos hp ?_)⟩
        refine ev_pos (by rw [strOfNums_size]; simp only [List.length_cons, List.length_nil]; omega) ?_
        rw [hq, w64 (x := x / 10) (by omega) (by omega)]
        exact ht
      · exact ⟨_, Ev.step (fun _ => laws_markText.l0.eq_2 ..) (ev_neg hp (ev_pos (by omega) (ev_some rfl)))⟩
  obtain ⟨t, ht⟩ := loop a.toNat a ⟨#[]⟩ (Nat.le_refl _) (by omega) h1 (by show ((0 : Nat) : Int) + a ≤ _; omega)
  refine ⟨t, ?_⟩
  unfold laws_markText.f
  exact ev_neg (by omega) ht
theorem markStringS_ev (l : List ByteArray) (a : Int) (h0 : 0 < a) (h1 : a + l.length ≤ 1099511627776) : ∃ ms, Ev (fun k => laws_markStringS.f k l a) (a + l.length, ms) ∧ ms.length = l.length ∧ ∀ (j : Nat) (h : j < ms.length), Ev (fun k => laws_markText.f k (a + j)) ms[j] := by
  have loop : ∀ (m i : Nat) (b : List ByteArray), i + m = l.length → b.length = l.length → (∀ (j : Nat) (h : j < b.length), j < i → Ev (fun k => laws_markText.f k (a + j)) b[j]) →
      ∃ ms, Ev (fun k => laws_markStringS.l0 k b (a + i) i) (a + l.length, ms) ∧ ms.length = l.length ∧ ∀ (j : Nat) (h : j < ms.length), Ev (fun k => laws_markText.f k (a + j)) ms[j] := by
    intro m
    induction m with
    | zero =>
      intro i b hi hb hj
      refine ⟨b, Ev.step (fun _ => laws_markStringS.l0.eq_2 ..) (ev_neg (by omega) (ev_some ?_)), hb, fun j h => hj j h (by omega)⟩
      rw [show i = l.length by omega]
    | succ m ih =>
      intro i b hi hb hj
      obtain ⟨t, ht⟩ := markText_ex (a + i) (by omega) (by omega)
      obtain ⟨ms, hms, hl, hE⟩ := ih (i + 1) (b.set i t) (by omega) (by simpa using hb) (fun j h hji => by
        have h' : j < b.length := by simpa using h
        by_cases e : j = i
        · subst e; rw [List.getElem_set_self]; exact ht
        · rw [List.getElem_set_ne (by omega)]; exact hj j h' (by omega))
      refine ⟨ms, Ev.step (fun _ => laws_markStringS.l0.eq_2 ..) (ev_pos (by omega) (Ev.bind ht (ev_pos (by omega) ?_))), hl, hE⟩
      rw [w64n (by omega), w64 (x := a + (i : Int) + 1) (by omega) (by omega), show a + (i : Int) + 1 = a + ((i + 1 : Nat) : Int) by omega, Int.toNat_natCast]
      exact hms
  unfold laws_markStringS.f
  have := loop l.length 0 l (by omega) rfl (fun j _ h => by omega)
  simpa using this
theorem heldStringS_ev (ms : List ByteArray) (a : Int) (h0 : 0 < a) (h1 : a + ms.length ≤ 1099511627776) (hE : ∀ (j : Nat) (h : j < ms.length), Ev (fun k => laws_markText.f k (a + j)) ms[j]) : Ev (fun k => laws_heldStringS.f k ms a) (a + ms.length) := by
  have loop : ∀ (m i : Nat), i + m = ms.length → Ev (fun k => laws_heldStringS.l0 k ms (a + i) i) (a + ms.length) := by
    intro m
    induction m with
    | zero =>
      intro i hi
      refine Ev.step (fun _ => laws_heldStringS.l0.eq_2 ..) (ev_neg (by omega) (ev_some ?_))
      rw [show i = ms.length by omega]
    | succ m ih =>
      intro i hi
      refine Ev.step (fun _ => laws_heldStringS.l0.eq_2 ..) (ev_pos (by omega) (ev_pos (by omega) (Ev.bind (hE i (by omega)) ?_)))
      rw [rdOf_nat _ ms i (by omega)]
      refine ev_pos rfl ?_
      rw [w64n (by omega), w64 (x := a + (i : Int) + 1) (by omega) (by omega), show a + (i : Int) + 1 = a + ((i + 1 : Nat) : Int) by omega]
      exact ih (i + 1) (by omega)
  unfold laws_heldStringS.f
  have := loop ms.length 0 (by omega)
  simpa using this
/-! What a line says that follows it: the reference's way, the program's way. -/
theorem slit_l0 (l : Bytes) (hl : l.length ≤ 1099511627776) : ∀ (k : Nat) (D : Bytes), D.all isD = true → l.length = k + 2 + D.length → l.take (l.length - 1) = l.take (k + 1) ++ D.reverse →
    Ev (fun n => spec_l12Literal.l0 n (bs l) k) (litR D (l.take (k + 1)).reverse) := by
  intro k
  have num : ∀ (k : Nat) (D : Bytes), l.length = k + 2 + D.length → l.take (l.length - 1) = l.take (k + 1) ++ D.reverse → D.length ≤ 6 →
      Ev (fun n => (spec_l00Number.f n ((bs l).extract ((k : Int) + 1).toNat ((l.length : Int) - 1).toNat)).bind fun b => some (b.1, b.2)) (numR D.reverse) := by
    intro k D hL hT h6
    have e : (bs l).extract ((k : Int) + 1).toNat ((l.length : Int) - 1).toNat = bs D.reverse := by
      rw [bs_extract, show ((l.length : Int) - 1).toNat = l.length - 1 by omega, hT, show ((k : Int) + 1).toNat = k + 1 by omega]
      have : (l.take (k + 1)).length = k + 1 := by simp; omega
      rw [List.drop_append_of_le_length (by omega), List.drop_of_length_le (by omega), List.nil_append]
    rw [e]
    have := spec_number (bs D.reverse) (by rw [bs_size]; simp; omega)
    rw [bs_data] at this
    exact Ev.bind this (ev_some rfl)
  have stop : ∀ (k : Nat) (D : Bytes) (hlt : k < l.length), l.length = k + 2 + D.length → l.take (l.length - 1) = l.take (k + 1) ++ D.reverse →
      Ev (fun n => if (l[k].toNat : Int) = 123 then (if (l.length : Int) - 2 - (k : Int) > 6 then some (0, false) else (if 0 ≤ (k : Int) + 1 then (if (k : Int) + 1 ≤ (l.length : Int) - 1 then (if (l.length : Int) - 1 ≤ (l.length : Int) then
        ((spec_l00Number.f n ((bs l).extract ((k : Int) + 1).toNat ((l.length : Int) - 1).toNat)).bind fun b => some (b.1, b.2)) else none) else none) else none)) else some (0, false))
        (if l[k] = 123 ∧ D.length ≤ 6 then numR D.reverse else (0, false)) := by
    intro k D hlt hL hT
    by_cases hb : l[k] = 123
    · refine ev_pos (by rw [hb]; rfl) ?_
      by_cases h6 : D.length ≤ 6
      · rw [if_pos ⟨hb, h6⟩]
        exact ev_neg (by omega) (ev_pos (by omega) (ev_pos (by omega) (ev_pos (by omega) (num k D hL hT h6))))
      · rw [if_neg (fun h => h6 h.2)]
        exact ev_pos (by omega) (ev_some rfl)
    · rw [if_neg (fun h => hb h.1)]
      exact ev_neg (fun e => hb ((u8_int (n := 123)).mp e)) (ev_some rfl)
  induction k with
  | zero =>
    intro D hD hL hT
    have hlt : 0 < l.length := by omega
    refine Ev.step (fun _ => spec_l12Literal.l0.eq_2 ..) ?_
    refine ev_neg (by omega) (ev_pos (by omega) (ev_pos (by rw [bs_size]; omega) ?_))
    rw [bs_size, bt_bs l 0 hlt]
    simp (disch := omega) only [w64]
    have e : (l.take (0 + 1)).reverse = [l[0]] := by rw [List.take_succ_eq_append_getElem hlt]; simp
    rw [e, litR]
    refine ev_to ?_ (stop 0 D hlt hL hT)
    by_cases hc : isD l[0] = true
    · rw [if_pos hc, if_neg (by rintro ⟨h, _⟩; rw [h] at hc; cases hc)]; rfl
    · rw [if_neg hc]
  | succ k ih =>
    intro D hD hL hT
    have hlt : k + 1 < l.length := by omega
    refine Ev.step (fun _ => spec_l12Literal.l0.eq_2 ..) ?_
    refine ev_pos (by omega) (ev_pos (by omega) (ev_pos (by rw [bs_size]; omega) ?_))
    rw [bs_size, bt_bs l (k + 1) hlt]
    simp (disch := omega) only [w64]
    have e : (l.take (k + 1 + 1)).reverse = l[k + 1] :: (l.take (k + 1)).reverse := by rw [List.take_succ_eq_append_getElem hlt]; simp
    rw [e, litR]
    by_cases hc : isD l[k + 1] = true
    · rw [if_pos hc]
      have h := isD_iff.mp hc
      refine ev_pos (by omega) (ev_pos (by omega) ?_)
      rw [show ((k + 1 : Nat) : Int) - 1 = (k : Int) by omega]
      refine ih (D ++ [l[k + 1]]) (by simp [hD, hc]) (by simp; omega) ?_
      rw [hT, List.take_succ_eq_append_getElem hlt]
      simp only [List.reverse_append, List.reverse_cons, List.reverse_nil, List.nil_append, List.append_assoc]
    · rw [if_neg hc]
      have h := isD_not.mp (by simpa using hc)
      by_cases h1 : 48 ≤ (l[k + 1]).toNat
      · exact ev_pos (by omega) (ev_neg (by omega) (stop (k + 1) D hlt hL hT))
      · exact ev_neg (by omega) (stop (k + 1) D hlt hL hT)
theorem spec_literal (l : Bytes) (hl : l.length ≤ 1099511627776) : Ev (fun k => spec_l12Literal.f k (bs l)) (litS l) := by
  unfold spec_l12Literal.f litS
  have yes : Ev (fun k => spec_l12Literal.j0 k (bs l) true) (0, false) := Ev.step (fun _ => spec_l12Literal.j0.eq_2 ..) (ev_pos rfl (ev_some rfl))
  by_cases h3 : l.length < 3
  · rw [if_neg (by omega)]
    exact ev_pos (by rw [bs_size]; omega) yes
  refine ev_neg (by rw [bs_size]; omega) ?_
  rw [bs_size, w64 (by omega) (by omega)]
  refine ev_pos (by omega) (ev_pos (by omega) ?_)
  have hlt : l.length - 1 < l.length := by omega
  rw [show ((l.length : Int) - 1) = ((l.length - 1 : Nat) : Int) by omega, bt_bs l _ hlt]
  have hg : l.getLast? = some l[l.length - 1] := by rw [List.getLast?_eq_getElem?, List.getElem?_eq_getElem hlt]
  rw [hg]
  by_cases hc : l[l.length - 1] = 125
  · rw [if_pos ⟨by omega, by rw [hc]⟩]
    have hb : (((l[l.length - 1]).toNat : Int) != 125) = false := by rw [hc]; rfl
    rw [hb]
    refine Ev.step (fun _ => spec_l12Literal.j0.eq_2 ..) (ev_neg (by simp) ?_)
    rw [bs_size, w64 (by omega) (by omega), show ((l.length : Int) - 2) = ((l.length - 2 : Nat) : Int) by omega]
    have := slit_l0 l hl (l.length - 2) [] rfl (by simp; omega) (by rw [show l.length - 2 + 1 = l.length - 1 by omega]; simp)
    rw [show l.length - 2 + 1 = l.length - 1 by omega] at this
    exact this
  · rw [if_neg (by rintro ⟨_, h⟩; exact hc (Option.some.inj h))]
    have hb : (((l[l.length - 1]).toNat : Int) != 125) = true := by
      rw [bne_iff_ne]; exact fun e => hc ((u8_int (n := 125)).mp e)
    rw [hb]
    exact yes
theorem lastByte (l : Bytes) (hl : l.length ≤ 1099511627776) : ∀ i : Nat, i ≤ l.length →
    (123 ∉ l.take i → Ev (fun k => bytealg_LastIndexByteString.l0 k (bs l) 123 ((i : Int) - 1)) (-1)) ∧ (∀ p s, l.take i = p ++ 123 :: s → 123 ∉ s → Ev (fun k => bytealg_LastIndexByteString.l0 k (bs l) 123 ((i : Int) - 1)) p.length) := by
  intro i
  induction i with
  | zero =>
    intro hi
    refine ⟨fun _ => Ev.step (fun _ => bytealg_LastIndexByteString.l0.eq_2 ..) (ev_neg (by omega) (ev_some rfl)), fun p s h => by simp at h⟩
  | succ i ih =>
    intro hi
    have hlt : i < l.length := by omega
    have ht : l.take (i + 1) = l.take i ++ [l[i]] := List.take_succ_eq_append_getElem hlt
    have ih := ih (by omega)
    rw [ht, show (((i + 1 : Nat) : Int) - 1) = (i : Int) by omega]
    have go : ∀ r, l[i] ≠ 123 → Ev (fun k => bytealg_LastIndexByteString.l0 k (bs l) 123 ((i : Int) - 1)) r → Ev (fun k => bytealg_LastIndexByteString.l0 k (bs l) 123 (i : Int)) r := by
      intro r hne h
      refine Ev.step (fun _ => bytealg_LastIndexByteString.l0.eq_2 ..) (ev_pos (by omega) (ev_pos (by omega) (ev_pos (by rw [bs_size]; omega) ?_)))
      rw [bt_bs l i hlt]
      refine ev_neg (fun e => hne ((u8_int (n := 123)).mp e)) ?_
      rw [w64 (by omega) (by omega)]
      exact h
    refine ⟨fun hn => ?_, fun p s h hs => ?_⟩
    · simp only [List.mem_append, List.mem_singleton, not_or] at hn
      exact go _ (fun e => hn.2 e.symm) (ih.1 hn.1)
    · rcases List.eq_nil_or_concat s with rfl | ⟨s', c, rfl⟩
      · have h2 := List.append_inj' h (by simp)
        refine Ev.step (fun _ => bytealg_LastIndexByteString.l0.eq_2 ..) (ev_pos (by omega) (ev_pos (by omega) (ev_pos (by rw [bs_size]; omega) ?_)))
        rw [bt_bs l i hlt]
        refine ev_pos (by rw [(List.cons.inj h2.2).1]; rfl) (ev_some ?_)
        rw [← h2.1]; simp; omega
      · have h2 : l.take i ++ [l[i]] = (p ++ 123 :: s') ++ [c] := by rw [h]; simp
        have h3 := List.append_inj' h2 (by simp)
        simp only [List.concat_eq_append, List.mem_append, List.mem_singleton, not_or] at hs
        refine go _ ?_ (ih.2 p s' h3.1 hs.1)
        rw [(List.cons.inj h3.2).1]; exact fun e => hs.2 e.symm
theorem last_split : ∀ l : Bytes, 123 ∈ l → ∃ p s, l = p ++ 123 :: s ∧ 123 ∉ s
  | [], h => by simp at h
  | c :: r, h => by
    by_cases hr : 123 ∈ r
    · obtain ⟨p, s, rfl, hs⟩ := last_split r hr
      exact ⟨c :: p, s, rfl, hs⟩
    · rcases List.mem_cons.mp h with rfl | h
      · exact ⟨[], r, rfl, hr⟩
      · exact absurd h hr
theorem cutBrace (s : Bytes) (hl : s.length ≤ 1099511627776) : strings_CutSuffix.f (bs s) (⟨#[125]⟩ : ByteArray) = some (if s.getLast? = some 125 then (bs s.dropLast, true) else (bs s, false)) := by
  unfold strings_CutSuffix.f stringslite_CutSuffix.f stringslite_HasSuffix.f
  have hs : (⟨#[125]⟩ : ByteArray).size = 1 := rfl
  have hL : (⟨#[125]⟩ : ByteArray).toList = [125] := bs_toList [125]
  rw [hs, hL, bs_size]
  rcases List.eq_nil_or_concat s with rfl | ⟨s', c, rfl⟩
  · rfl
  · simp only [List.concat_eq_append] at *
    have hlen : (s' ++ [c]).length = s'.length + 1 := by simp
    rw [hlen, w64 (by omega) (by omega), if_pos (by omega), if_pos (by omega), if_pos (by omega)]
    have e1 : (((s'.length + 1 : Nat) : Int) - ((1 : Nat) : Int)).toNat = s'.length := by omega
    have e2 : ((bs (s' ++ [c])).extract (((s'.length + 1 : Nat) : Int) - ((1 : Nat) : Int)).toNat (s'.length + 1)).toList = [c] := by
      rw [bs_extract, bs_toList, e1, List.take_of_length_le (by simp), List.drop_left]
    rw [e2]
    simp only [Option.bind_some, List.getLast?_concat, List.dropLast_concat]
    by_cases hc : c = 125
    · subst hc
      rw [if_pos (by simp), if_pos (by omega), if_pos (by omega), if_pos rfl]
      simp only [Option.bind_some, e1]
      rw [bs_extract, List.take_left]; rfl
    · rw [if_neg (by simpa using hc), if_neg (by simpa using hc)]
      rfl
theorem impl_literal_ev (l : Bytes) (hl : l.length ≤ 1099511627776) : ∃ n, Ev (fun k => impl_literal.f k (bs l)) (n, (litS l).2) ∧ ((litS l).2 = true → n = (litS l).1) := by
  have hb := lastByte l hl l.length (Nat.le_refl _)
  rw [List.take_of_length_le (Nat.le_refl _)] at hb
  have hf : ∀ r, Ev (fun k => bytealg_LastIndexByteString.l0 k (bs l) 123 ((l.length : Int) - 1)) r → Ev (fun k => strings_LastIndexByte.f k (bs l) 123) r := by
    intro r h
    unfold strings_LastIndexByte.f bytealg_LastIndexByteString.f
    rw [bs_size, w64 (by omega) (by omega)]
    exact Ev.bind h (ev_some rfl)
  unfold impl_literal.f
  by_cases hm : 123 ∈ l
  · obtain ⟨p, s, rfl, hs⟩ := last_split l hm
    have hlen : (p ++ 123 :: s).length = p.length + 1 + s.length := by simp; omega
    have hcut := cutBrace s (by omega)
    have hnum : ∀ t : Bytes, t.length ≤ 1099511627776 → Ev (fun k => impl_number.f k (bs t)) (numR t) := fun t ht => by
      have := impl_number_ev (bs t) (by rw [bs_size]; exact ht)
      rwa [bs_data] at this
    have hex : (bs (p ++ 123 :: s)).extract ((p.length : Int) + 1).toNat (p ++ 123 :: s).length = bs s := by
      rw [bs_extract, List.take_of_length_le (Nat.le_refl _), show ((p.length : Int) + 1).toNat = p.length + 1 by omega]
      rw [show p ++ 123 :: s = (p ++ [123]) ++ s by simp, show p.length + 1 = (p ++ [123]).length by simp, List.drop_left]
    by_cases hg : s.getLast? = some 125
    · rw [if_pos hg] at hcut
      have hs2 : s = s.dropLast ++ [125] := by
        obtain ⟨ys, hys⟩ := List.getLast?_eq_some_iff.mp hg
        rw [hys]; simp
      generalize hD : s.dropLast = ds at *
      have hdl : ds.length ≤ s.length := by rw [hs2]; simp
      have fin : ∃ n, Ev (fun k => (impl_number.f k (bs ds)).bind fun b => (if true = true then (if b.2 = true then (if b.1 ≥ 0 then (some (b.1, decide (((bs ds).size : Int) ≤ 6))) else (some (b.1, false))) else (some (b.1, false))) else (some (b.1, false)))) (n, (litS (p ++ 123 :: s)).2) ∧ ((litS (p ++ 123 :: s)).2 = true → n = (litS (p ++ 123 :: s)).1) := by
        rw [bs_size]
        cases hR : numR ds with
        | mk v ok =>
          have hnr := hnum ds (by omega)
          rw [hR] at hnr
          have hlit : (litS (p ++ 123 :: s)) = (v, true) ↔ (ok = true ∧ 0 ≤ v ∧ ds.length ≤ 6) := by
            constructor
            · intro h
              obtain ⟨p', ds', he, h1, h2, h3⟩ := litS_true h
              have hds : ds' = ds := by
                rw [hs2] at he
                have he2 : (p ++ 123 :: ds) ++ [125] = (p' ++ 123 :: ds') ++ [125] := by simpa using he
                have he3 := (List.append_inj' he2 (by simp)).1
                have hn : 123 ∉ ds := fun hx => hs (by rw [hs2]; simp [hx])
                have hn' : 123 ∉ ds' := fun hx => by have := List.all_eq_true.mp h1 123 hx; cases this
                have r1 := congrArg List.reverse he3
                simp only [List.reverse_append, List.reverse_cons, List.append_assoc, List.cons_append, List.nil_append] at r1
                have key : ∀ (a b x y : Bytes), 123 ∉ a → 123 ∉ b → a ++ 123 :: x = b ++ 123 :: y → a = b := by
                  intro a
                  induction a with
                  | nil => intro b x y _ hb he; cases b with
                    | nil => rfl
                    | cons c b => simp at he; exact absurd he.1.symm (by rintro rfl; simp at hb)
                  | cons c a ih => intro b x y ha hb he; cases b with
                    | nil => simp at he; exact absurd he.1 (by rintro rfl; simp at ha)
                    | cons d b =>
                      simp only [List.cons_append, List.cons.injEq] at he
                      simp only [List.mem_cons, not_or] at ha hb
                      rw [he.1, ih b x y ha.2 hb.2 he.2]
                have := key _ _ _ _ (by simpa using hn) (by simpa using hn') r1
                have := congrArg List.reverse this
                simpa using this.symm
              subst hds
              rw [hR] at h3
              cases h3
              exact ⟨rfl, (numR_nonneg h1 hR).1, h2⟩
            · rintro ⟨rfl, h0, h6⟩
              rw [hs2, litS_of (numR_digits hR h0) h6, hR]
          by_cases hall : ok = true ∧ 0 ≤ v ∧ ds.length ≤ 6
          · rw [hlit.mpr hall]
            obtain ⟨rfl, h0, h6⟩ := hall
            exact ⟨v, Ev.bind hnr (ev_pos rfl (ev_pos rfl (ev_pos h0 (ev_some (by simp; omega))))), fun _ => rfl⟩
          · have hno : (litS (p ++ 123 :: s)).2 = false := by
              cases hx : litS (p ++ 123 :: s) with
              | mk a b =>
                cases b with
                | false => rfl
                | true =>
                  exfalso
                  obtain ⟨p', ds', he, h1, h2, h3⟩ := litS_true hx
                  have hds : ds' = ds := by
                    rw [hs2] at he
                    have he2 : (p ++ 123 :: ds) ++ [125] = (p' ++ 123 :: ds') ++ [125] := by simpa using he
                    have he3 := (List.append_inj' he2 (by simp)).1
                    have hn : 123 ∉ ds := fun hx => hs (by rw [hs2]; simp [hx])
                    have hn' : 123 ∉ ds' := fun hx => by have := List.all_eq_true.mp h1 123 hx; cases this
                    have r1 := congrArg List.reverse he3
                    simp only [List.reverse_append, List.reverse_cons, List.append_assoc, List.cons_append, List.nil_append] at r1
                    have key : ∀ (a b x y : Bytes), 123 ∉ a → 123 ∉ b → a ++ 123 :: x = b ++ 123 :: y → a = b := by
                      intro a
                      induction a with
                      | nil => intro b x y _ hb he; cases b with
                        | nil => rfl
                        | cons c b => simp at he; exact absurd he.1.symm (by rintro rfl; simp at hb)
                      | cons c a ih => intro b x y ha hb he; cases b with
                        | nil => simp at he; exact absurd he.1 (by rintro rfl; simp at ha)
                        | cons d b =>
                          simp only [List.cons_append, List.cons.injEq] at he
                          simp only [List.mem_cons, not_or] at ha hb
                          rw [he.1, ih b x y ha.2 hb.2 he.2]
                    have := key _ _ _ _ (by simpa using hn) (by simpa using hn') r1
                    have := congrArg List.reverse this
                    simpa using this.symm
                  subst hds
                  rw [hR] at h3
                  cases h3
                  exact hall ⟨rfl, (numR_nonneg h1 hR).1, h2⟩
            rw [hno]
            refine ⟨v, Ev.bind hnr (ev_pos rfl ?_), fun h => by cases h⟩
            cases ok with
            | false => exact ev_neg (by simp) (ev_some rfl)
            | true =>
              refine ev_pos rfl ?_
              by_cases h0 : 0 ≤ v
              · refine ev_pos h0 (ev_some ?_)
                have : ¬ ds.length ≤ 6 := fun h6 => hall ⟨rfl, h0, h6⟩
                simp; omega
              · exact ev_neg h0 (ev_some rfl)
      obtain ⟨n, h1, h2⟩ := fin
      refine ⟨n, Ev.bind (hf _ (hb.2 p s rfl hs)) (ev_neg (by omega) ?_), h2⟩
      rw [bs_size, w64 (by omega) (by omega)]
      refine ev_pos (by omega) (ev_pos (by omega) ?_)
      rw [hex]
      exact ev_bindc hcut h1
    · rw [if_neg hg] at hcut
      have hno : (litS (p ++ 123 :: s)).2 = false := by
        cases hx : litS (p ++ 123 :: s) with
        | mk a b =>
          cases b with
          | false => rfl
          | true =>
            exfalso
            obtain ⟨p', ds', he, h1, h2, h3⟩ := litS_true hx
            rcases List.eq_nil_or_concat s with rfl | ⟨s', c, rfl⟩
            · have he2 : p ++ [123] = (p' ++ 123 :: ds') ++ [125] := by simpa using he
              have := (List.append_inj' he2 (by simp)).2
              simp at this
            · simp only [List.concat_eq_append] at *
              have he2 : (p ++ 123 :: s') ++ [c] = (p' ++ 123 :: ds') ++ [125] := by simpa using he
              have := (List.append_inj' he2 (by simp)).2
              simp only [List.cons.injEq, and_true] at this
              subst this
              exact hg (by simp)
      rw [hno]
      refine ⟨(numR s).1, Ev.bind (hf _ (hb.2 p s rfl hs)) (ev_neg (by omega) ?_), fun h => by cases h⟩
      rw [bs_size, w64 (by omega) (by omega)]
      refine ev_pos (by omega) (ev_pos (by omega) ?_)
      rw [hex]
      exact ev_bindc hcut (Ev.bind (hnum s (by omega)) (ev_neg (by simp) (ev_some rfl)))
  · have hno : (litS l).2 = false := by
      cases hx : litS l with
      | mk a b =>
        cases b with
        | false => rfl
        | true =>
          exfalso
          obtain ⟨p', ds', he, h1, h2, h3⟩ := litS_true hx
          exact hm (by rw [he]; simp)
    rw [hno]
    exact ⟨0, Ev.bind (hf _ (hb.1 hm)) (ev_pos (by omega) (ev_some rfl)), fun h => by cases h⟩
/-! A command is taken off: the reference's way, the program's way. -/
theorem crlfAt {b : Bytes} {j : Nat} : List.isPrefixOf [13, 10] (b.drop j) = true ↔ ∃ h : j + 1 < b.length, b[j] = 13 ∧ b[j + 1] = 10 := by
  constructor
  · intro h
    rw [List.isPrefixOf_iff_prefix] at h
    obtain ⟨r, hr⟩ := h
    have hl : (b.drop j).length = 2 + r.length := by rw [← hr]; simp; omega
    rw [List.length_drop] at hl
    have hj : j + 1 < b.length := by omega
    rw [drop_cons b j (by omega), drop_cons b (j + 1) hj] at hr
    simp only [List.cons_append, List.nil_append, List.cons.injEq] at hr
    exact ⟨hj, hr.1.symm, hr.2.1.symm⟩
  · rintro ⟨h, h1, h2⟩
    rw [drop_cons b j (by omega), drop_cons b (j + 1) h, h1, h2]
    simp [List.isPrefixOf]
theorem take_scan {b : Bytes} (hl : b.length ≤ 1099511627776) {f k : Nat} {r : ByteArray × ByteArray × Int} (h1 : k + 1 < b.length) (h2 : k ≤ 4000) (hn : ¬ (b[k] = 13 ∧ b[k + 1] = 10)) (H : Ev (fun n => spec_l12Take.l0 n (bs b) f ((k + 1 : Nat) : Int)) r) :
    Ev (fun n => spec_l12Take.l0 n (bs b) f k) r := by
  refine Ev.step (fun _ => spec_l12Take.l0.eq_2 ..) ?_
  simp (disch := omega) only [w64]
  have J : Ev (fun n => spec_l12Take.j1 n (bs b) f k true) r := by
    refine Ev.step (fun _ => spec_l12Take.j1.eq_2 ..) (ev_pos rfl ?_)
    rw [w64n (by omega)]
    exact H
  refine ev_pos (by rw [bs_size]; omega) (ev_neg (by omega) (ev_pos (by omega) (ev_pos (by rw [bs_size]; omega) ?_)))
  rw [bt_bs b k (by omega)]
  by_cases h13 : b[k] = 13
  · refine ev_pos (by rw [h13]; rfl) (ev_pos (by omega) ?_)
    rw [show ((k : Int) + 1) = ((k + 1 : Nat) : Int) by omega, bt_bs b (k + 1) h1]
    have : ((b[k + 1].toNat : Int) != 10) = true := by
      rw [bne_iff_ne]; exact fun e => hn ⟨h13, (u8_int (n := 10)).mp e⟩
    rw [this]
    exact J
  · exact ev_neg (fun e => h13 ((u8_int (n := 13)).mp e)) J
theorem take_end {b : Bytes} {f k : Nat} (hk : k < 9223372036854775806) (h1 : ¬ k + 1 < b.length) : Ev (fun n => spec_l12Take.l0 n (bs b) f k) (if 4002 < b.length ∨ 4000 < f then (bs [], bs b, 4) else (bs [], bs b, 18)) := by
  refine Ev.step (fun _ => spec_l12Take.l0.eq_2 ..) ?_
  rw [w64n (by omega)]
  refine ev_neg (by rw [bs_size]; omega) ?_
  rw [bs_size]
  by_cases h2 : 4002 < b.length
  · exact ev_to (if_pos (Or.inl h2)).symm (ev_pos (by omega) (ev_some rfl))
  · refine ev_neg (by omega) ?_
    by_cases h3 : 4000 < f
    · exact ev_to (if_pos (Or.inr h3)).symm (ev_pos (by omega) (ev_some rfl))
    · exact ev_to (if_neg (by omega)).symm (ev_neg (by omega) (ev_some rfl))
theorem take_far {b : Bytes} {f k : Nat} (hk : k < 9223372036854775806) (h1 : k + 1 < b.length) (h2 : 4000 < k) : Ev (fun n => spec_l12Take.l0 n (bs b) f k) (bs [], bs b, 4) := by
  refine Ev.step (fun _ => spec_l12Take.l0.eq_2 ..) ?_
  rw [w64n (by omega)]
  exact ev_pos (by rw [bs_size]; omega) (ev_pos (by omega) (ev_some rfl))
/-- No end of a line from k on. -/
theorem take_none {b : Bytes} (hl : b.length ≤ 1099511627776) {f : Nat} (hf : f ≤ 4000) : ∀ (m k : Nat), b.length ≤ k + m → k < 9223372036854775806 → (∀ j, k ≤ j → (h : j + 1 < b.length) → ¬ (b[j] = 13 ∧ b[j + 1] = 10)) →
    Ev (fun n => spec_l12Take.l0 n (bs b) f k) (if 4002 < b.length then (bs [], bs b, 4) else (bs [], bs b, 18)) := by
  intro m
  induction m with
  | zero =>
    intro k hm hk hn
    refine ev_to ?_ (take_end (b := b) (f := f) hk (by omega))
    by_cases h2 : 4002 < b.length
    · rw [if_pos (Or.inl h2), if_pos h2]
    · rw [if_neg (by omega), if_neg h2]
  | succ m ih =>
    intro k hm hk hn
    by_cases h1 : k + 1 < b.length
    · by_cases h2 : 4000 < k
      · exact ev_to (if_pos (by omega)).symm (take_far hk h1 h2)
      · exact take_scan hl h1 (by omega) (hn k (Nat.le_refl _) h1) (ih (k + 1) (by omega) (by omega) (fun j hj h => hn j (by omega) h))
    · refine ev_to ?_ (take_end (b := b) (f := f) hk h1)
      by_cases h2 : 4002 < b.length
      · rw [if_pos (Or.inl h2), if_pos h2]
      · rw [if_neg (by omega), if_neg h2]
/-- On to the next end of a line. -/
theorem take_to {b : Bytes} (hl : b.length ≤ 1099511627776) {f e : Nat} (he : e + 1 < b.length) {r : ByteArray × ByteArray × Int} : ∀ (m k : Nat), k + m = e → (∀ j, k ≤ j → j < e → (h : j + 1 < b.length) → ¬ (b[j] = 13 ∧ b[j + 1] = 10)) →
    (e ≤ 4000 → Ev (fun n => spec_l12Take.l0 n (bs b) f e) r) → (4000 < e → r = (bs [], bs b, 4)) → Ev (fun n => spec_l12Take.l0 n (bs b) f k) r := by
  intro m
  induction m with
  | zero =>
    intro k hm hn h1 h2
    obtain rfl : k = e := by omega
    by_cases h : k ≤ 4000
    · exact h1 h
    · rw [h2 (by omega)]; exact take_far (by omega) he (by omega)
  | succ m ih =>
    intro k hm hn h1 h2
    by_cases h : k ≤ 4000
    · exact take_scan hl (by omega) h (hn k (Nat.le_refl _) (by omega) (by omega)) (ih (k + 1) (by omega) (fun j hj hje h => hn j (by omega) hje h) h1 h2)
    · rw [h2 (by omega)]; exact take_far (by omega) (by omega) (by omega)
theorem bs_sub (b : Bytes) (i j : Nat) : (bs b).extract i j = bs ((b.take j).drop i) := bs_extract b i j
theorem take_ev (b : Bytes) (hl : b.length ≤ 1073741824) : ∀ (m at_ : Nat), at_ + m = 4000 → at_ ≤ b.length →
    ∃ (e : Nat) (c : Int), Ev (fun k => impl_takeCommand.l0 k (bs b) at_) ((e : Int), c) ∧ Ev (fun k => spec_l12Take.l0 k (bs b) at_ at_) (if c = 0 then (bs (b.take e), bs (b.drop (e + 2)), 0) else (bs [], bs b, c)) ∧ (c = 0 → e + 2 ≤ b.length) := by
  intro m
  induction m using Nat.strongRecOn with
  | _ m ih =>
  intro at_ hm hat
  have hsub : (bs b).extract at_ b.length = bs (b.drop at_) := by rw [bs_sub, List.take_of_length_le (Nat.le_refl _)]
  have hidx : strings_Index.f (bs (b.drop at_)) (⟨#[13, 10]⟩ : ByteArray) = some (Lib.index (b.drop at_) [13, 10]) := by
    unfold strings_Index.f
    rw [bs_size, List.length_drop, if_pos (by omega)]; rfl
  have enter : ∀ (r : Int × Int), Ev (fun k => if Lib.index (b.drop at_) [13, 10] < 0 then (if (b.length : Int) > 4002 then (some (0, 4)) else (some (0, 18))) else (if (wrap64 ((at_ : Int) + Lib.index (b.drop at_) [13, 10])) > 4000 then (some (0, 4)) else (if (at_ : Int) ≤ (wrap64 ((at_ : Int) + Lib.index (b.drop at_) [13, 10])) then (if (wrap64 ((at_ : Int) + Lib.index (b.drop at_) [13, 10])) ≤ (b.length : Int) then ((impl_literal.f k ((bs b).extract ((at_ : Int)).toNat ((wrap64 ((at_ : Int) + Lib.index (b.drop at_) [13, 10])) : Int).toNat)).bind fun bt176 => (if bt176.2 = true then (if bt176.1 > 4000 then (impl_takeCommand.j1 k (bs b) (wrap64 ((wrap64 ((wrap64 ((at_ : Int) + Lib.index (b.drop at_) [13, 10])) + 2)) + bt176.1)) true) else (impl_takeCommand.j1 k (bs b) (wrap64 ((wrap64 ((wrap64 ((at_ : Int) + Lib.index (b.drop at_) [13, 10])) + 2)) + bt176.1)) (decide ((wrap64 ((wrap64 ((wrap64 ((at_ : Int) + Lib.index (b.drop at_) [13, 10])) + 2)) + bt176.1)) > 4000)))) else (some (wrap64 ((at_ : Int) + Lib.index (b.drop at_) [13, 10]), 0)))) else none) else none))) r → Ev (fun k => impl_takeCommand.l0 k (bs b) at_) r := by
    intro r H
    refine Ev.step (fun _ => impl_takeCommand.l0.eq_2 ..) (ev_pos (by omega) (ev_pos (by rw [bs_size]; omega) ?_))
    rw [bs_size, Int.toNat_natCast, hsub]
    exact ev_bindc hidx H
  rcases Lib.index_spec (b.drop at_) [13, 10] with ⟨hi, hn⟩ | ⟨i, hi, hile, ho, hno⟩
  · rw [hi] at enter
    have hnone : ∀ j, at_ ≤ j → (h : j + 1 < b.length) → ¬ (b[j] = 13 ∧ b[j + 1] = 10) := by
      intro j hj h hx
      have := hn (j - at_) (by rw [List.length_drop]; omega)
      rw [Lib.occAt, List.drop_drop, show at_ + (j - at_) = j by omega, crlfAt.mpr ⟨h, hx⟩] at this
      cases this
    have hs := take_none (by omega) (f := at_) (by omega) b.length at_ (by omega) (by omega) hnone
    by_cases h2 : 4002 < b.length
    · rw [if_pos h2] at hs
      exact ⟨0, 4, enter _ (ev_pos (by omega) (ev_pos (by omega) (ev_some rfl))), hs, fun h => by omega⟩
    · rw [if_neg h2] at hs
      exact ⟨0, 18, enter _ (ev_pos (by omega) (ev_neg (by omega) (ev_some rfl))), hs, fun h => by omega⟩
  · obtain ⟨e, he⟩ : ∃ e, e = at_ + i := ⟨_, rfl⟩
    rw [hi, show ((at_ : Int) + (i : Int)) = (e : Int) by omega] at enter
    have hocc : ∃ h : e + 1 < b.length, b[e] = 13 ∧ b[e + 1] = 10 := by
      rw [Lib.occAt, List.drop_drop, ← he] at ho
      exact crlfAt.mp ho
    obtain ⟨hel, h13, h10⟩ := hocc
    have hnone : ∀ j, at_ ≤ j → j < e → (h : j + 1 < b.length) → ¬ (b[j] = 13 ∧ b[j + 1] = 10) := by
      intro j hj hje h hx
      have := hno (j - at_) (by omega)
      rw [Lib.occAt, List.drop_drop, show at_ + (j - at_) = j by omega, crlfAt.mpr ⟨h, hx⟩] at this
      cases this
    have scan := fun r => take_to (b := b) (by omega) (f := at_) (e := e) hel (r := r) (e - at_) at_ (by omega) hnone
    rw [w64 (x := (e : Int)) (by omega) (by omega), w64 (x := (e : Int) + 2) (by omega) (by omega)] at enter
    by_cases h4 : 4000 < e
    · exact ⟨0, 4, enter _ (ev_neg (by omega) (ev_pos (by omega) (ev_some rfl))), scan _ (fun h => by omega) (fun _ => rfl), fun h => by omega⟩
    have hline : (bs b).extract (at_ : Int).toNat (e : Int).toNat = bs ((b.take e).drop at_) := bs_sub ..
    have hll : ((b.take e).drop at_).length ≤ 1099511627776 := by simp; omega
    obtain ⟨n, hL, hn2⟩ := impl_literal_ev ((b.take e).drop at_) hll
    have hS := spec_literal ((b.take e).drop at_) hll
    rw [hline] at enter
    have body : ∀ r, Ev (fun k => if (litS ((b.take e).drop at_)).2 = true then (if (litS ((b.take e).drop at_)).1 > 4000 then (some (bs [], bs b, 4)) else (spec_l12Take.l0 k (bs b) (wrap64 ((e : Int) + 2 + (litS ((b.take e).drop at_)).1)) (wrap64 ((wrap64 ((wrap64 ((e : Int) + 2 + (litS ((b.take e).drop at_)).1)) - 1)) + 1)))) else (some (bs (b.take e), bs (b.drop (e + 2)), 0))) r →
        Ev (fun k => spec_l12Take.l0 k (bs b) at_ e) r := by
      intro r H
      refine Ev.step (fun _ => spec_l12Take.l0.eq_2 ..) ?_
      rw [w64n (by omega)]
      refine ev_pos (by rw [bs_size]; omega) (ev_neg (by omega) (ev_pos (by omega) (ev_pos (by rw [bs_size]; omega) ?_)))
      rw [bt_bs b e (by omega), bt_bs b (e + 1) hel, h13, h10]
      refine ev_pos rfl (ev_pos (by omega) ?_)
      refine Ev.step (fun _ => spec_l12Take.j1.eq_2 ..) (ev_neg (by decide) (ev_pos (by omega) (ev_pos (by omega) (ev_pos (by rw [bs_size]; omega) ?_))))
      rw [hline, w64 (x := (e : Int) + 2) (by omega) (by omega)]
      refine Ev.bind hS ?_
      have e1 : (bs b).extract 0 (e : Int).toNat = bs (b.take e) := by rw [bs_sub]; simp
      have e2 : (bs b).extract ((e : Int) + 2).toNat (bs b).size = bs (b.drop (e + 2)) := by rw [bs_sub, bs_size, List.take_of_length_le (Nat.le_refl _)]; rfl
      rw [e1, e2]
      cases hok : (litS ((b.take e).drop at_)).2 with
      | false =>
        rw [hok] at H
        exact ev_neg (by simp) (ev_pos (by omega) (ev_pos (by omega) (ev_pos (by rw [bs_size]; omega) (Ev.congr (fun k => (if_neg (by simp)).symm) H))))
      | true =>
        rw [hok] at H
        exact ev_pos rfl (Ev.congr (fun k => (if_pos rfl).symm) H)
    cases hlit : litS ((b.take e).drop at_) with
    | mk v ok =>
    rw [hlit] at body hL hn2
    cases ok with
    | false =>
      refine ⟨e, 0, enter _ (ev_neg (by omega) (ev_neg (by omega) (ev_pos (by omega) (ev_pos (by omega) (Ev.bind hL (ev_neg (by simp) (ev_some rfl))))))), ?_, fun _ => by omega⟩
      exact scan _ (fun _ => body _ (ev_neg (by simp) (ev_some rfl))) (fun h => by omega)
    | true =>
      obtain ⟨hv0, hv1⟩ := litS_bound hlit
      obtain rfl := hn2 rfl
      simp only at *
      obtain ⟨u, rfl⟩ := Int.eq_ofNat_of_zero_le hv0
      have hx : (e : Int) + 2 + (u : Int) = ((e + 2 + u : Nat) : Int) := by omega
      rw [hx] at body
      have inr := fun r H => enter r (ev_neg (by omega) (ev_neg (by omega) (ev_pos (by omega) (ev_pos (by omega) (Ev.bind hL H)))))
      simp only [] at inr
      rw [w64 (x := ((e + 2 + u : Nat) : Int)) (by omega) (by omega), w64 (x := ((e + 2 + u : Nat) : Int) - 1) (by omega) (by omega), w64 (x := ((e + 2 + u : Nat) : Int) - 1 + 1) (by omega) (by omega), Int.sub_add_cancel] at body
      have inr2 : ∀ r, Ev (fun k => if (u : Int) > 4000 then impl_takeCommand.j1 k (bs b) ((e + 2 + u : Nat) : Int) true else impl_takeCommand.j1 k (bs b) ((e + 2 + u : Nat) : Int) (decide (((e + 2 + u : Nat) : Int) > 4000))) r → Ev (fun k => impl_takeCommand.l0 k (bs b) at_) r := by
        intro r H
        refine inr r (ev_pos trivial ?_)
        rw [hx, w64 (x := ((e + 2 + u : Nat) : Int)) (by omega) (by omega)]
        exact H
      have four : Ev (fun k => impl_takeCommand.j1 k (bs b) ((e + 2 + u : Nat) : Int) true) (0, 4) := Ev.step (fun _ => impl_takeCommand.j1.eq_2 ..) (ev_pos rfl (ev_some rfl))
      by_cases hu : 4000 < u
      · exact ⟨0, 4, inr2 _ (ev_pos (by omega) four), scan _ (fun _ => body _ (ev_pos trivial (ev_pos (by omega) (ev_some rfl)))) (fun h => by omega), fun h => by omega⟩
      by_cases ha : 4000 < e + 2 + u
      · refine ⟨0, 4, inr2 _ (ev_neg (by omega) ?_), scan _ (fun _ => body _ (ev_pos trivial (ev_neg (by omega) ?_))) (fun h => by omega), fun h => by omega⟩
        · rw [decide_eq_true (by omega)]; exact four
        · by_cases h1 : e + 2 + u + 1 < b.length
          · exact take_far (by omega) h1 ha
          · exact ev_to (if_pos (Or.inr ha)) (take_end (by omega) h1)
      have dec : decide (((e + 2 + u : Nat) : Int) > 4000) = false := decide_eq_false (by omega)
      rw [dec] at inr2
      by_cases hb : b.length < e + 2 + u
      · refine ⟨0, 18, inr2 _ (ev_neg (by omega) (Ev.step (fun _ => impl_takeCommand.j1.eq_2 ..) (ev_neg (by simp) (ev_pos (by rw [bs_size]; omega) (ev_some rfl))))), scan _ (fun _ => body _ (ev_pos trivial (ev_neg (by omega) ?_))) (fun h => by omega), fun h => by omega⟩
        exact ev_to (if_neg (by omega)) (take_end (by omega) (by omega))
      · obtain ⟨e', c, h1, h2, h3⟩ := ih (4000 - (e + 2 + u)) (by omega) (e + 2 + u) (by omega) (by omega)
        exact ⟨e', c, inr2 _ (ev_neg (by omega) (Ev.step (fun _ => impl_takeCommand.j1.eq_2 ..) (ev_neg (by simp) (ev_neg (by rw [bs_size]; omega) h1)))), scan _ (fun _ => body _ (ev_pos trivial (ev_neg (by omega) h2))) (fun h => by omega), h3⟩
/-- TakeCommand: both ways alike. -/
theorem takeCommand_ev (b : Bytes) (hl : b.length ≤ 65536) : ∃ r, Ev (fun k => spec_l12Take.f k (bs b)) r ∧ Ev (fun k => impl_TakeCommand.f k (bs b)) r := by
  obtain ⟨e, c, h1, h2, h3⟩ := take_ev b (by omega) 4000 0 (by omega) (by omega)
  refine ⟨_, h2, ?_⟩
  unfold impl_TakeCommand.f impl_takeCommand.f
  refine ev_neg (by rw [bs_size]; omega) (Ev.bind h1 ?_)
  by_cases hc : c = 0
  · subst hc
    have := h3 rfl
    rw [w64 (x := (e : Int) + 2) (by omega) (by omega)]
    have e1 : (bs b).extract 0 (e : Int).toNat = bs (b.take e) := by rw [bs_sub]; simp
    have e2 : (bs b).extract ((e : Int) + 2).toNat (bs b).size = bs (b.drop (e + 2)) := by rw [bs_sub, bs_size, List.take_of_length_le (Nat.le_refl _)]; rfl
    rw [e1, e2]
    exact ev_to (if_pos rfl).symm (ev_pos rfl (ev_pos (by omega) (ev_pos (by rw [bs_size]; omega) (ev_pos (by omega) (ev_pos (by rw [bs_size]; omega) (ev_some rfl))))))
  · exact ev_to (if_neg hc).symm (ev_neg hc (ev_some rfl))
end Go.Proofs.YtnphhnhnmohfiaaDoor.PFnExactSayAll
