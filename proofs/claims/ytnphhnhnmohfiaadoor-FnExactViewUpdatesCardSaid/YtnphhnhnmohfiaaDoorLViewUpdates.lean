/- ViewUpdates: the reference's way and the program's come to the same. Plain. -/
import Derived.Test.YtnphhnhnmohfiaaDoorPFnExactViewUpdatesx5
import Derived.Test.YtnphhnhnmohfiaaDoorPFnExactViewUpdatesx8
import Derived.Test.YtnphhnhnmohfiaaDoorPFnExactViewUpdatesx9
import Derived.Test.YtnphhnhnmohfiaaDoorPFnExactViewUpdatesx11
import Derived.Test.YtnphhnhnmohfiaaDoorNumPure
import Derived.Test.YtnphhnhnmohfiaaDoorEv
set_option linter.unusedVariables false
set_option linter.unusedSimpArgs false
namespace Go.Proofs.YtnphhnhnmohfiaaDoor.PFnExactViewUpdates
open Go.RowKit Go.Proofs.YtnphhnhnmohfiaaDoorW.PrintWords
theorem within_f (a b c : Int) : impl_within.f a b c = some (inB a b c) := by
  unfold impl_within.f inB
  by_cases h : a ≥ b
  · rw [if_pos h, decide_eq_true (by omega : b ≤ a)]; rfl
  · rw [if_neg h, decide_eq_false (by omega : ¬ b ≤ a)]; rfl
theorem l01In_f (a b c : Int) : spec_l01In.f a b c = some (inB a b c) := by
  unfold spec_l01In.f inB
  by_cases h : a ≥ b
  · rw [if_pos h, decide_eq_true (by omega : b ≤ a)]; rfl
  · rw [if_neg h, decide_eq_false (by omega : ¬ b ≤ a)]; rfl
/-! Names. -/
def letS (c : UInt8) : Bool := (decide (97 ≤ c.toNat) && decide (c.toNat ≤ 122)) || (decide (65 ≤ c.toNat) && decide (c.toNat ≤ 90)) || decide (c.toNat = 95)
def letA (c : UInt8) : Bool := (decide (97 ≤ c.toNat) && decide (c.toNat ≤ 122)) || (decide (65 ≤ c.toNat) && decide (c.toNat ≤ 90))
def wordC (c : UInt8) : Bool := letS c || isD c
theorem letS_f (c : UInt8) : spec_l00Letter.f (c.toNat : Int) = some (letS c) := by
  unfold spec_l00Letter.f letS
  have h5 : (((c.toNat : Int) == 95) : Bool) = decide (c.toNat = 95) := by rw [Bool.eq_iff_iff]; simp; omega
  rw [h5]
  by_cases h1 : 97 ≤ c.toNat
  · rw [if_pos (by omega), decide_eq_true h1]
    by_cases h2 : c.toNat ≤ 122
    · rw [if_pos (by omega), decide_eq_true h2]; rfl
    · rw [if_neg (by omega), decide_eq_false h2]
      rw [if_pos (by omega), if_neg (by omega), decide_eq_false (by omega : ¬ c.toNat ≤ 90)]
      simp
  · rw [if_neg (by omega), decide_eq_false h1]
    by_cases h3 : 65 ≤ c.toNat
    · rw [if_pos (by omega), decide_eq_true h3]
      by_cases h4 : c.toNat ≤ 90
      · rw [if_pos (by omega), decide_eq_true h4]; rfl
      · rw [if_neg (by omega), decide_eq_false h4]; simp
    · rw [if_neg (by omega), decide_eq_false h3]; simp
theorem letA_f (c : UInt8) : impl_isLetter.f (c.toNat : Int) = some (letA c) := by
  unfold impl_isLetter.f letA
  by_cases h1 : 97 ≤ c.toNat
  · rw [if_pos (by omega), decide_eq_true h1]
    by_cases h2 : c.toNat ≤ 122
    · rw [if_pos (by omega), decide_eq_true h2]; rfl
    · rw [if_neg (by omega), decide_eq_false h2]
      rw [if_pos (by omega), decide_eq_false (by omega : ¬ (c.toNat : Int) ≤ 90), decide_eq_false (by omega : ¬ c.toNat ≤ 90)]
      simp
  · rw [if_neg (by omega), decide_eq_false h1]
    by_cases h3 : 65 ≤ c.toNat
    · rw [if_pos (by omega), decide_eq_true h3]
      have : decide ((c.toNat : Int) ≤ 90) = decide (c.toNat ≤ 90) := by rw [Bool.eq_iff_iff]; simp; omega
      rw [this]; simp
    · rw [if_neg (by omega), decide_eq_false h3]; simp
theorem digS_f (c : UInt8) : spec_l00Digit.f (c.toNat : Int) = some (isD c) := by
  unfold spec_l00Digit.f isD
  by_cases h : 48 ≤ c.toNat
  · rw [if_pos (by omega), decide_eq_true h]; simp; omega
  · rw [if_neg (by omega), decide_eq_false h]; rfl
theorem digI_f (c : UInt8) : impl_isDigit.f (c.toNat : Int) = some (isD c) := by
  unfold impl_isDigit.f isD
  by_cases h : 48 ≤ c.toNat
  · rw [if_pos (by omega), decide_eq_true h]; simp; omega
  · rw [if_neg (by omega), decide_eq_false h]; rfl
def nameB (l : Bytes) : Bool := decide (1 ≤ l.length) && decide (l.length ≤ 40) && (match l with | [] => false | c :: r => letS c && r.all wordC)
theorem nameS_l0 (l : Bytes) (hl : l.length ≤ 1099511627776) : ∀ (m i : Nat), i + m = l.length → Ev (fun k => spec_l00Word.l0 k (bs l) i) ((l.drop i).all wordC) := by
  intro m
  induction m with
  | zero => intro i hi; rw [List.drop_of_length_le (by omega)]; exact Ev.step (fun _ => spec_l00Word.l0.eq_2 ..) (ev_neg (by rw [bs_size]; omega) (ev_some rfl))
  | succ m ih =>
    intro i hi
    have hlt : i < l.length := by omega
    refine Ev.step (fun _ => spec_l00Word.l0.eq_2 ..) (ev_pos (by rw [bs_size]; omega) (ev_pos (by omega) ?_))
    rw [bt_bs l i hlt, drop_cons l i hlt, List.all_cons, w64n (by omega)]
    refine ev_bindc (letS_f _) ?_
    cases h1 : letS l[i] with
    | true => rw [wordC, h1]; exact ev_pos rfl (ih (i + 1) (by omega))
    | false =>
      refine ev_neg (by simp) (ev_bindc (digS_f _) ?_)
      cases h2 : isD l[i] with
      | true => rw [wordC, h1, h2]; exact ev_pos rfl (ih (i + 1) (by omega))
      | false => rw [wordC, h1, h2]; exact ev_neg (by simp) (ev_some rfl)
theorem nameI_l0 (l : Bytes) (hl : l.length ≤ 1099511627776) : ∀ (m i : Nat), i + m = l.length → Ev (fun k => impl_NameOK.l0 k (bs l) (l.length : Int) i) ((l.drop i).all wordC) := by
  intro m
  induction m with
  | zero => intro i hi; rw [List.drop_of_length_le (by omega)]; exact Ev.step (fun _ => impl_NameOK.l0.eq_2 ..) (ev_neg (by omega) (ev_some rfl))
  | succ m ih =>
    intro i hi
    have hlt : i < l.length := by omega
    have hS : letS l[i] = (letA l[i] || decide ((l[i]).toNat = 95)) := rfl
    refine Ev.step (fun _ => impl_NameOK.l0.eq_2 ..) (ev_pos (by omega) (ev_pos (by omega) (ev_pos (by rw [bs_size]; omega) ?_)))
    rw [bt_bs l i hlt, drop_cons l i hlt, List.all_cons, w64n (by omega)]
    refine ev_bindc (letA_f _) ?_
    cases h1 : letA l[i] with
    | true => rw [wordC, hS, h1]; exact ev_pos rfl (ih (i + 1) (by omega))
    | false =>
      refine ev_neg (by simp) (ev_bindc (digI_f _) ?_)
      cases h2 : isD l[i] with
      | true => rw [wordC, h2, Bool.or_true]; exact ev_pos rfl (ih (i + 1) (by omega))
      | false =>
        refine ev_neg (by simp) ?_
        by_cases h3 : (l[i]).toNat = 95
        · rw [wordC, hS, h1, h2, decide_eq_true h3]; exact ev_pos (by omega) (ih (i + 1) (by omega))
        · rw [wordC, hS, h1, h2, decide_eq_false h3]; exact ev_neg (by omega) (ev_some rfl)
theorem nameS_ev (t : ByteArray) (ht : t.size ≤ 1099511627776) : Ev (fun k => spec_NameOK.f k t) (nameB t.data.toList) := by
  obtain ⟨l, rfl⟩ := bs_ex t
  rw [bs_data]
  rw [bs_size] at ht
  unfold spec_NameOK.f
  refine Ev.bind (r := nameB l) ?_ (ev_some rfl)
  unfold spec_l00Word.f nameB
  rw [bs_size]
  have bad : Ev (fun k => spec_l00Word.j0 k (bs l) true) false := Ev.step (fun _ => spec_l00Word.j0.eq_2 ..) (ev_pos rfl (ev_some rfl))
  cases l with
  | nil => exact ev_pos (by simp) bad
  | cons c r =>
    refine ev_neg (by first | (simp; done) | (simp; omega)) ?_
    rw [decide_eq_true (by simp : 1 ≤ (c :: r).length), Bool.true_and]
    by_cases h2 : (c :: r).length ≤ 40
    · rw [decide_eq_true h2, Bool.true_and]
      refine ev_neg (by omega) (ev_pos (by first | (simp; done) | (simp; omega)) ?_)
      rw [bt_zero (c :: r) (by simp)]
      refine ev_bindc (letS_f _) ?_
      show Ev (fun k => spec_l00Word.j0 k (bs (c :: r)) (!letS c)) (letS c && r.all wordC)
      cases h3 : letS c with
      | true => exact Ev.step (fun _ => spec_l00Word.j0.eq_2 ..) (ev_neg (by simp) (nameS_l0 (c :: r) ht r.length 1 (by first | (simp; done) | (simp; omega))))
      | false => exact bad
    · rw [decide_eq_false h2, Bool.false_and]
      exact ev_pos (by omega) bad
theorem nameI_ev (t : ByteArray) (ht : t.size ≤ 1099511627776) : Ev (fun k => impl_NameOK.f k t) (nameB t.data.toList) := by
  obtain ⟨l, rfl⟩ := bs_ex t
  rw [bs_data]
  rw [bs_size] at ht
  unfold impl_NameOK.f nameB
  rw [bs_size]
  have bad : Ev (fun k => impl_NameOK.j0 k (bs l) true) false := Ev.step (fun _ => impl_NameOK.j0.eq_2 ..) (ev_pos rfl (ev_some rfl))
  refine ev_bindc (within_f _ _ _) ?_
  cases l with
  | nil => exact ev_neg (by simp [inB]) bad
  | cons c r =>
    rw [decide_eq_true (by simp : 1 ≤ (c :: r).length), Bool.true_and]
    by_cases h2 : (c :: r).length ≤ 40
    · rw [decide_eq_true h2, Bool.true_and]
      refine ev_pos (by unfold inB; rw [decide_eq_true (by first | (simp; done) | (simp; omega)), decide_eq_true (by omega)]; rfl) (ev_pos (by first | (simp; done) | (simp; omega)) ?_)
      rw [bt_zero (c :: r) (by simp)]
      refine ev_bindc (digI_f _) ?_
      show Ev (fun k => impl_NameOK.j0 k (bs (c :: r)) (isD c)) (letS c && r.all wordC)
      cases h3 : isD c with
      | true =>
        have : letS c = false := by rw [isD_iff] at h3; unfold letS; simp; omega
        rw [this]; exact bad
      | false =>
        refine Ev.step (fun _ => impl_NameOK.j0.eq_2 ..) (ev_neg (by simp) ?_)
        rw [bs_size]
        have := nameI_l0 (c :: r) ht (c :: r).length 0 (by omega)
        rw [List.drop_zero, List.all_cons, wordC, h3, Bool.or_false] at this
        exact this
    · rw [decide_eq_false h2, Bool.false_and]
      exact ev_neg (by unfold inB; rw [decide_eq_false (by omega : ¬ ((c :: r).length : Int) ≤ 40)]; simp) bad
/-! A box is right: both say the same; and what it says of the mails. -/
def hasB (l : List ByteArray) (x : ByteArray) : Bool := l.any (fun y => decide (y = x))
theorem hasB_cons (a : ByteArray) (l : List ByteArray) (x : ByteArray) : hasB (a :: l) x = (decide (a = x) || hasB l x) := rfl
theorem toList_inj {a b : ByteArray} : a.toList = b.toList ↔ a = b := by
  constructor
  · intro h; rw [ByteArray.toList_eq, ByteArray.toList_eq] at h; rw [← bs_of a, ← bs_of b, h]
  · rintro rfl; rfl
theorem hasS_ev (l : List ByteArray) (x : ByteArray) (hl : l.length ≤ 1099511627776) : Ev (fun k => spec_l06Has.f k l x) (hasB l x) := by
  have loop : ∀ (m i : Nat), i + m = l.length → Ev (fun k => spec_l06Has.l0 k l x i) (hasB (l.drop i) x) := by
    intro m
    induction m with
    | zero => intro i hi; rw [List.drop_of_length_le (by omega)]; exact Ev.step (fun _ => spec_l06Has.l0.eq_2 ..) (ev_neg (by omega) (ev_some rfl))
    | succ m ih =>
      intro i hi
      have hlt : i < l.length := by omega
      refine Ev.step (fun _ => spec_l06Has.l0.eq_2 ..) (ev_pos (by omega) (ev_pos (by omega) ?_))
      rw [rdOf_nat _ l i hlt, List.drop_eq_getElem_cons hlt, w64n (by omega)]
      by_cases h : l[i] = x
      · exact ev_pos (toList_inj.mpr h) (ev_some (by rw [hasB_cons, decide_eq_true h]; rfl))
      · refine ev_neg (fun e => h (toList_inj.mp e)) (ev_to ?_ (ih (i + 1) (by omega)))
        rw [hasB_cons, decide_eq_false h, Bool.false_or]
  unfold spec_l06Has.f
  exact loop l.length 0 (by omega)
theorem hasI_ev (l : List ByteArray) (x : ByteArray) (hl : l.length ≤ 1099511627776) : Ev (fun k => slices_Contains_string_string.f k l x) (hasB l x) := by
  have loop : ∀ (m i : Nat), i + m = l.length → ∃ r : Int, Ev (fun k => slices_Index_string_string.l0 k l x (l.length : Int) i) r ∧ decide (r ≥ 0) = hasB (l.drop i) x := by
    intro m
    induction m with
    | zero => intro i hi; rw [List.drop_of_length_le (by omega)]; exact ⟨-1, Ev.step (fun _ => slices_Index_string_string.l0.eq_2 ..) (ev_neg (by omega) (ev_some rfl)), rfl⟩
    | succ m ih =>
      intro i hi
      have hlt : i < l.length := by omega
      rw [List.drop_eq_getElem_cons hlt]
      by_cases h : l[i] = x
      · refine ⟨i, Ev.step (fun _ => slices_Index_string_string.l0.eq_2 ..) (ev_pos (by omega) (ev_pos (by omega) (ev_pos (by omega) ?_))), ?_⟩
        · rw [rdOf_nat _ l i hlt]
          exact ev_pos (toList_inj.mpr h.symm) (ev_some rfl)
        · rw [decide_eq_true (by omega : (i : Int) ≥ 0), hasB_cons, decide_eq_true h]; rfl
      · obtain ⟨r, h1, h2⟩ := ih (i + 1) (by omega)
        refine ⟨r, Ev.step (fun _ => slices_Index_string_string.l0.eq_2 ..) (ev_pos (by omega) (ev_pos (by omega) (ev_pos (by omega) ?_))), ?_⟩
        · rw [rdOf_nat _ l i hlt, w64n (by omega)]
          exact ev_neg (fun e => h (toList_inj.mp e).symm) h1
        · rw [h2, hasB_cons, decide_eq_false h, Bool.false_or]
  obtain ⟨r, h1, h2⟩ := loop l.length 0 (by omega)
  unfold slices_Contains_string_string.f slices_Index_string_string.f
  exact Ev.bind h1 (ev_some (by rw [h2, List.drop_zero]))
/-- The mails' uids rise from one that was before. -/
def riseB : Int → List S67 → Prop
  | _, [] => True
  | b, m :: r => b < m.f0 ∧ m.f0 ≤ 1000 ∧ riseB m.f0 r
theorem rd67 (l : List S67) (i : Nat) (h : i < l.length) : rd_T67 l (i : Int) = l[i] := by
  unfold rd_T67; simp [List.getD, List.getElem?_eq_getElem h]
theorem keys_both (n : ByteArray) (v x : Int) (ms : List S67) (l : List ByteArray) (hl : l.length ≤ 60) : ∀ (m i : Nat), i + m = l.length →
    ∃ r, Ev (fun k => spec_BoxOK.l1 k i n v x ms l) r ∧ Ev (fun k => impl_BoxOK.l1 k l (l.length : Int) i n v x ms l) r := by
  intro m
  induction m with
  | zero =>
    intro i hi
    exact ⟨true, Ev.step (fun _ => spec_BoxOK.l1.eq_2 ..) (ev_neg (by omega) (ev_some rfl)), Ev.step (fun _ => impl_BoxOK.l1.eq_2 ..) (ev_neg (by omega) (ev_some rfl))⟩
  | succ m ih =>
    intro i hi
    have hlt : i < l.length := by omega
    have hS := hasS_ev (l.take i) l[i] (by rw [List.length_take]; omega)
    have hI := hasI_ev (l.take i) l[i] (by rw [List.length_take]; omega)
    have hk : ∀ t : ByteArray, impl_keyOK.f t = some (inB (t.size : Int) 1 200) := by intro t; unfold impl_keyOK.f; rw [within_f]; rfl
    have inS : ∀ r, Ev (fun k => if inB ((l[i]).size : Int) 1 200 = true then (if (i : Int) ≤ (l.length : Int) then ((spec_l06Has.f k (l.take i) l[i]).bind fun t127 => (if t127 = true then (some false) else (spec_BoxOK.l1 k ((i + 1 : Nat) : Int) n v x ms l))) else (none)) else (some false)) r → Ev (fun k => spec_BoxOK.l1 k i n v x ms l) r := by
      intro r H
      refine Ev.step (fun _ => spec_BoxOK.l1.eq_2 ..) (ev_pos (by omega) (ev_pos (by omega) ?_))
      rw [rdOf_nat _ l i hlt, w64n (by omega), Int.toNat_natCast]
      exact ev_bindc (l01In_f _ _ _) H
    have inI : ∀ r, Ev (fun k => if inB ((l[i]).size : Int) 1 200 = true then (if (i : Int) ≤ (l.length : Int) then ((slices_Contains_string_string.f k (l.take i) l[i]).bind fun t214 => (if t214 = true then (some false) else (impl_BoxOK.l1 k l (l.length : Int) ((i + 1 : Nat) : Int) n v x ms l))) else (none)) else (some false)) r → Ev (fun k => impl_BoxOK.l1 k l (l.length : Int) i n v x ms l) r := by
      intro r H
      refine Ev.step (fun _ => impl_BoxOK.l1.eq_2 ..) (ev_pos (by omega) (ev_pos (by omega) (ev_pos (by omega) ?_)))
      rw [rdOf_nat _ l i hlt, w64n (by omega), Int.toNat_natCast]
      exact ev_bindc (hk _) H
    cases h1 : inB ((l[i]).size : Int) 1 200 with
    | false => rw [h1] at inS inI; exact ⟨false, inS _ (ev_neg (by simp) (ev_some rfl)), inI _ (ev_neg (by simp) (ev_some rfl))⟩
    | true =>
      rw [h1] at inS inI
      cases h2 : hasB (l.take i) l[i] with
      | true => rw [h2] at hS hI; exact ⟨false, inS _ (ev_pos rfl (ev_pos (by omega) (Ev.bind hS (ev_pos rfl (ev_some rfl))))), inI _ (ev_pos rfl (ev_pos (by omega) (Ev.bind hI (ev_pos rfl (ev_some rfl)))))⟩
      | false =>
        rw [h2] at hS hI
        obtain ⟨r, r1, r2⟩ := ih (i + 1) (by omega)
        exact ⟨r, inS _ (ev_pos rfl (ev_pos (by omega) (Ev.bind hS (ev_neg (by simp) r1)))), inI _ (ev_pos rfl (ev_pos (by omega) (Ev.bind hI (ev_neg (by simp) r2))))⟩
theorem inB_true {a b c : Int} : inB a b c = true ↔ b ≤ a ∧ a ≤ c := by simp [inB]
theorem inB_false {a b c : Int} : inB a b c = false ↔ a < b ∨ c < a := by rw [← Bool.not_eq_true, inB_true]; omega
theorem mails_both (n : ByteArray) (v x : Int) (hx : 1 ≤ x ∧ x ≤ 1001) (l : List S67) (ks : List ByteArray) (hk : ks.length ≤ 60) (hl : l.length ≤ 30) : ∀ (m i : Nat) (b : Int) (hi : i + m = l.length), 0 ≤ b → b ≤ 1000 → (∀ h : 0 < i, b = (l[i - 1]'(by omega)).f0 ) → (i = 0 → b = 0) →
    ∃ r, Ev (fun k => spec_BoxOK.l0 k i n v x l ks) r ∧ Ev (fun k => impl_BoxOK.l0 k b l (l.length : Int) i n v x l ks) r ∧ (r = true → riseB b (l.drop i)) := by
  intro m
  induction m with
  | zero =>
    intro i b hi h0 h1 hb hz
    obtain ⟨r, r1, r2⟩ := keys_both n v x l ks hk ks.length 0 (by omega)
    refine ⟨r, Ev.step (fun _ => spec_BoxOK.l0.eq_2 ..) (ev_neg (by omega) r1), Ev.step (fun _ => impl_BoxOK.l0.eq_2 ..) (ev_neg (by omega) r2), fun _ => ?_⟩
    rw [List.drop_of_length_le (by omega)]; trivial
  | succ m ih =>
    intro i b hi h0 h1 hb hz
    have hlt : i < l.length := by omega
    have hx1 : wrap64 (x - 1) = x - 1 := w64 (by omega) (by omega)
    rw [List.drop_eq_getElem_cons hlt]
    -- one step of either
    have inI : ∀ r, Ev (fun k => if inB (l[i]).f0 (b + 1) (x - 1) = true then ((impl_within.f (l[i]).f1 0 31).bind fun t210 => (if t210 = true then (if ((l[i]).f2.size : Int) > 4000 then (some false) else (impl_BoxOK.l0 k (l[i]).f0 l (l.length : Int) ((i + 1 : Nat) : Int) n v x l ks)) else (some false))) else (some false)) r → Ev (fun k => impl_BoxOK.l0 k b l (l.length : Int) i n v x l ks) r := by
      intro r H
      refine Ev.step (fun _ => impl_BoxOK.l0.eq_2 ..) (ev_pos (by omega) (ev_pos (by omega) (ev_pos (by omega) ?_)))
      rw [rd67 l i hlt, w64n (by omega), hx1, w64 (x := b + 1) (by omega) (by omega)]
      exact ev_bindc (within_f _ _ _) H
    have tailS : ∀ r, Ev (fun k => (spec_l01In.f (l[i]).f1 0 31).bind fun t121 => (if t121 = true then (if ((l[i]).f2.size : Int) > 4000 then (some false) else (spec_BoxOK.l0 k ((i + 1 : Nat) : Int) n v x l ks)) else (some false))) r → b < (l[i]).f0 → (l[i]).f0 ≤ x - 1 → Ev (fun k => spec_BoxOK.l0 k i n v x l ks) r := by
      intro r H hlo hhi
      refine Ev.step (fun _ => spec_BoxOK.l0.eq_2 ..) (ev_pos (by omega) (ev_pos (by omega) ?_))
      rw [rd67 l i hlt, w64n (by omega), hx1]
      refine ev_bindc (l01In_f _ _ _) (ev_pos (inB_true.mpr ⟨by omega, hhi⟩) ?_)
      by_cases hi0 : 0 < i
      · have e1 : wrap64 ((i : Int) - 1) = ((i - 1 : Nat) : Int) := by rw [w64 (by omega) (by omega)]; omega
        rw [e1, rd67 l (i - 1) (by omega), ← hb hi0]
        exact ev_pos (by omega) (ev_pos (by omega) (ev_pos (by omega) (ev_neg (by omega) H)))
      · exact ev_neg (by omega) H
    have badS : (¬ (b < (l[i]).f0) ∨ ¬ (l[i]).f0 ≤ x - 1) → Ev (fun k => spec_BoxOK.l0 k i n v x l ks) false := by
      intro hbad
      refine Ev.step (fun _ => spec_BoxOK.l0.eq_2 ..) (ev_pos (by omega) (ev_pos (by omega) ?_))
      rw [rd67 l i hlt, w64n (by omega), hx1]
      refine ev_bindc (l01In_f _ _ _) ?_
      cases hin : inB (l[i]).f0 1 (x - 1) with
      | false => exact ev_neg (by simp) (ev_some rfl)
      | true =>
        obtain ⟨q1, q2⟩ := inB_true.mp hin
        refine ev_pos rfl ?_
        have hi0 : 0 < i := by
          rcases Nat.eq_zero_or_pos i with h | h
          · have := hz h; omega
          · exact h
        have e1 : wrap64 ((i : Int) - 1) = ((i - 1 : Nat) : Int) := by rw [w64 (by omega) (by omega)]; omega
        rw [e1, rd67 l (i - 1) (by omega), ← hb hi0]
        exact ev_pos (by omega) (ev_pos (by omega) (ev_pos (by omega) (ev_pos (by omega) (ev_some rfl))))
    cases hin : inB (l[i]).f0 (b + 1) (x - 1) with
    | false =>
      rw [hin] at inI
      have := inB_false.mp hin
      exact ⟨false, badS (by omega), inI _ (ev_neg (by simp) (ev_some rfl)), fun h => by cases h⟩
    | true =>
      rw [hin] at inI
      obtain ⟨q1, q2⟩ := inB_true.mp hin
      cases hf : inB (l[i]).f1 0 31 with
      | false =>
        exact ⟨false, tailS _ (ev_bindc (l01In_f _ _ _) (ev_neg (by rw [hf]; simp) (ev_some rfl))) (by omega) q2, inI _ (ev_pos rfl (ev_bindc (within_f _ _ _) (ev_neg (by rw [hf]; simp) (ev_some rfl)))), fun h => by cases h⟩
      | true =>
        by_cases ht : ((l[i]).f2.size : Int) > 4000
        · exact ⟨false, tailS _ (ev_bindc (l01In_f _ _ _) (ev_pos hf (ev_pos ht (ev_some rfl)))) (by omega) q2, inI _ (ev_pos rfl (ev_bindc (within_f _ _ _) (ev_pos hf (ev_pos ht (ev_some rfl))))), fun h => by cases h⟩
        · obtain ⟨r, r1, r2, r3⟩ := ih (i + 1) (l[i]).f0 (by omega) (by omega) (by omega) (fun _ => rfl) (by omega)
          exact ⟨r, tailS _ (ev_bindc (l01In_f _ _ _) (ev_pos hf (ev_neg ht r1))) (by omega) q2, inI _ (ev_pos rfl (ev_bindc (within_f _ _ _) (ev_pos hf (ev_neg ht r2)))), fun h => ⟨by omega, by omega, r3 h⟩⟩
/-- A box: both say the same of it, and where it is right its mails' uids rise. -/
theorem box_both (n : ByteArray) (v x : Int) (l : List S67) (ks : List ByteArray) (hn : n.size ≤ 1099511627776) : ∃ r, Ev (fun k => spec_BoxOK.f k n v x l ks) r ∧ Ev (fun k => impl_BoxOK.f k n v x l ks) r ∧ (r = true → riseB 0 l ∧ l.length ≤ 30) := by
  unfold spec_BoxOK.f impl_BoxOK.f
  have bS : Ev (fun k => spec_BoxOK.j0 k true n v x l ks) false := Ev.step (fun _ => spec_BoxOK.j0.eq_2 ..) (ev_pos rfl (ev_some rfl))
  have bI : Ev (fun k => impl_BoxOK.j0 k true n v x l ks) false := Ev.step (fun _ => impl_BoxOK.j0.eq_2 ..) (ev_pos rfl (ev_some rfl))
  have bI1 : Ev (fun k => impl_BoxOK.j1 k true n v x l ks) false := Ev.step (fun _ => impl_BoxOK.j1.eq_2 ..) (ev_pos rfl (ev_some rfl))
  have hS := nameS_ev n hn
  have hI := nameI_ev n hn
  cases h1 : nameB n.data.toList with
  | false => rw [h1] at hS hI; exact ⟨false, Ev.bind hS (ev_neg (by simp) bS), Ev.bind hI (ev_neg (by simp) bI), fun h => by cases h⟩
  | true =>
    rw [h1] at hS hI
    cases h2 : inB v 1 1000000 with
    | false => exact ⟨false, Ev.bind hS (ev_pos rfl (ev_bindc (l01In_f _ _ _) (ev_neg (by rw [h2]; simp) bS))), Ev.bind hI (ev_pos rfl (ev_bindc (within_f _ _ _) (ev_neg (by rw [h2]; simp) bI))), fun h => by cases h⟩
    | true =>
      cases h3 : inB x 1 1001 with
      | false =>
        refine ⟨false, Ev.bind hS (ev_pos rfl (ev_bindc (l01In_f _ _ _) (ev_pos h2 (ev_bindc (l01In_f _ _ _) (ev_neg (by rw [h3]; simp) bS))))), Ev.bind hI (ev_pos rfl (ev_bindc (within_f _ _ _) (ev_pos h2 (ev_bindc (within_f _ _ _) ?_)))), fun h => by cases h⟩
        rw [h3]; exact bI
      | true =>
        have hx := inB_true.mp h3
        have hx1 : wrap64 (x - 1) = x - 1 := w64 (by omega) (by omega)
        have goS : ∀ r, Ev (fun k => if (l.length : Int) > 30 then (spec_BoxOK.j0 k true n v x l ks) else (if (ks.length : Int) > 60 then (spec_BoxOK.j0 k true n v x l ks) else (spec_BoxOK.j0 k ((ks.length : Int) != (x - 1)) n v x l ks))) r → Ev (fun k => (spec_NameOK.f k n).bind fun t114 => (if t114 = true then ((spec_l01In.f v 1 1000000).bind fun t115 => (if t115 = true then ((spec_l01In.f x 1 1001).bind fun t116 => (if t116 = true then (if (l.length : Int) > 30 then (spec_BoxOK.j0 k true n v x l ks) else (if (ks.length : Int) > 60 then (spec_BoxOK.j0 k true n v x l ks) else (spec_BoxOK.j0 k ((ks.length : Int) != (wrap64 (x - 1))) n v x l ks))) else (spec_BoxOK.j0 k true n v x l ks))) else (spec_BoxOK.j0 k true n v x l ks))) else (spec_BoxOK.j0 k true n v x l ks))) r := by
          intro r H
          rw [hx1]
          exact Ev.bind hS (ev_pos rfl (ev_bindc (l01In_f _ _ _) (ev_pos h2 (ev_bindc (l01In_f _ _ _) (ev_pos h3 H)))))
        have goI : ∀ r, Ev (fun k => if (l.length : Int) > 30 then (impl_BoxOK.j1 k true n v x l ks) else (if (ks.length : Int) > 60 then (impl_BoxOK.j1 k true n v x l ks) else (impl_BoxOK.j1 k ((ks.length : Int) != (x - 1)) n v x l ks))) r → Ev (fun k => (impl_NameOK.f k n).bind fun t204 => (if t204 = true then ((impl_within.f v 1 1000000).bind fun t205 => (if t205 = true then ((impl_within.f x 1 1001).bind fun t206 => (impl_BoxOK.j0 k (!t206) n v x l ks)) else (impl_BoxOK.j0 k true n v x l ks))) else (impl_BoxOK.j0 k true n v x l ks))) r := by
          intro r H
          refine Ev.bind hI (ev_pos rfl (ev_bindc (within_f _ _ _) (ev_pos h2 (ev_bindc (within_f _ _ _) ?_))))
          rw [h3]
          refine Ev.step (fun _ => impl_BoxOK.j0.eq_2 ..) (ev_neg (by simp) ?_)
          rw [hx1]; exact H
        by_cases h4 : (l.length : Int) > 30
        · exact ⟨false, goS _ (ev_pos h4 bS), goI _ (ev_pos h4 bI1), fun h => by cases h⟩
        by_cases h5 : (ks.length : Int) > 60
        · exact ⟨false, goS _ (ev_neg h4 (ev_pos h5 bS)), goI _ (ev_neg h4 (ev_pos h5 bI1)), fun h => by cases h⟩
        cases h6 : ((ks.length : Int) != (x - 1)) with
        | true => rw [h6] at goS goI; exact ⟨false, goS _ (ev_neg h4 (ev_neg h5 bS)), goI _ (ev_neg h4 (ev_neg h5 bI1)), fun h => by cases h⟩
        | false =>
          rw [h6] at goS goI
          obtain ⟨r, r1, r2, r3⟩ := mails_both n v x hx l ks (by omega) (by omega) l.length 0 0 (by omega) (by omega) (by omega) (fun h => by omega) (fun _ => rfl)
          refine ⟨r, goS _ (ev_neg h4 (ev_neg h5 (Ev.step (fun _ => spec_BoxOK.j0.eq_2 ..) (ev_neg (by simp) r1)))), goI _ (ev_neg h4 (ev_neg h5 (Ev.step (fun _ => impl_BoxOK.j1.eq_2 ..) (ev_neg (by simp) r2)))), fun h => ⟨?_, by omega⟩⟩
          have := r3 h
          rwa [List.drop_zero] at this
/-! Views. -/
/-- A view's uids rise from one that was before. -/
def riseI : Int → List Int → Prop
  | _, [] => True
  | b, u :: r => b < u ∧ u ≤ 1000 ∧ riseI u r
theorem rdI (l : List Int) (i : Nat) (h : i < l.length) : rd l (i : Int) = l[i] := by
  unfold rd; simp [List.getD, List.getElem?_eq_getElem h]
theorem view_both (l : List Int) (hl : l.length ≤ 4096) : ∀ (m i : Nat) (b : Int) (hi : i + m = l.length), 0 ≤ b → b ≤ 1000 → (∀ h : 0 < i, b = l[i - 1]'(by omega)) → (i = 0 → b = 0) →
    ∃ r, Ev (fun k => spec_l13View.l0 k l i) r ∧ Ev (fun k => impl_viewOK.l0 k b l (l.length : Int) i) r ∧ (r = true → riseI b (l.drop i)) := by
  intro m
  induction m with
  | zero =>
    intro i b hi h0 h1 hb hz
    refine ⟨true, Ev.step (fun _ => spec_l13View.l0.eq_2 ..) (ev_neg (by omega) (ev_some rfl)), Ev.step (fun _ => impl_viewOK.l0.eq_2 ..) (ev_neg (by omega) (ev_some rfl)), fun _ => ?_⟩
    rw [List.drop_of_length_le (by omega)]; trivial
  | succ m ih =>
    intro i b hi h0 h1 hb hz
    have hlt : i < l.length := by omega
    rw [List.drop_eq_getElem_cons hlt]
    have inI : ∀ r, Ev (fun k => if inB l[i] (b + 1) 1000 = true then (impl_viewOK.l0 k l[i] l (l.length : Int) ((i + 1 : Nat) : Int)) else (some false)) r → Ev (fun k => impl_viewOK.l0 k b l (l.length : Int) i) r := by
      intro r H
      refine Ev.step (fun _ => impl_viewOK.l0.eq_2 ..) (ev_pos (by omega) (ev_pos (by omega) (ev_pos (by omega) ?_)))
      rw [rdI l i hlt, w64n (by omega), w64 (x := b + 1) (by omega) (by omega)]
      exact ev_bindc (within_f _ _ _) H
    cases hin : inB l[i] (b + 1) 1000 with
    | true =>
      rw [hin] at inI
      obtain ⟨q1, q2⟩ := inB_true.mp hin
      obtain ⟨r, r1, r2, r3⟩ := ih (i + 1) l[i] (by omega) (by omega) (by omega) (fun _ => rfl) (by omega)
      refine ⟨r, ?_, inI _ (ev_pos rfl r2), fun h => ⟨by omega, by omega, r3 h⟩⟩
      refine Ev.step (fun _ => spec_l13View.l0.eq_2 ..) (ev_pos (by omega) (ev_pos (by omega) ?_))
      rw [rdI l i hlt, w64n (by omega)]
      refine ev_bindc (l01In_f _ _ _) (ev_pos (inB_true.mpr ⟨by omega, by omega⟩) ?_)
      by_cases hi0 : 0 < i
      · have e1 : wrap64 ((i : Int) - 1) = ((i - 1 : Nat) : Int) := by rw [w64 (by omega) (by omega)]; omega
        rw [e1, rdI l (i - 1) (by omega), ← hb hi0]
        exact ev_pos (by omega) (ev_pos (by omega) (ev_pos (by omega) (ev_neg (by omega) r1)))
      · exact ev_neg (by omega) r1
    | false =>
      rw [hin] at inI
      have hbad := inB_false.mp hin
      refine ⟨false, ?_, inI _ (ev_neg (by simp) (ev_some rfl)), fun h => by cases h⟩
      refine Ev.step (fun _ => spec_l13View.l0.eq_2 ..) (ev_pos (by omega) (ev_pos (by omega) ?_))
      rw [rdI l i hlt, w64n (by omega)]
      refine ev_bindc (l01In_f _ _ _) ?_
      cases hin2 : inB l[i] 1 1000 with
      | false => exact ev_neg (by simp) (ev_some rfl)
      | true =>
        obtain ⟨q1, q2⟩ := inB_true.mp hin2
        refine ev_pos rfl ?_
        have hi0 : 0 < i := by
          rcases Nat.eq_zero_or_pos i with h | h
          · have := hz h; omega
          · exact h
        have e1 : wrap64 ((i : Int) - 1) = ((i - 1 : Nat) : Int) := by rw [w64 (by omega) (by omega)]; omega
        rw [e1, rdI l (i - 1) (by omega), ← hb hi0]
        exact ev_pos (by omega) (ev_pos (by omega) (ev_pos (by omega) (ev_pos (by omega) (ev_some rfl))))
theorem viewOK_both (l : List Int) (hl : l.length ≤ 4096) : ∃ r, Ev (fun k => spec_l13View.f k l) r ∧ Ev (fun k => impl_viewOK.f k l) r ∧ (r = true → riseI 0 l) := by
  obtain ⟨r, r1, r2, r3⟩ := view_both l hl l.length 0 0 (by omega) (by omega) (by omega) (fun h => by omega) (fun _ => rfl)
  unfold spec_l13View.f impl_viewOK.f
  exact ⟨r, ev_neg (by omega) r1, r2, fun h => by have := r3 h; rwa [List.drop_zero] at this⟩
/-! A number's digits, and the place of a mail. -/
theorem digits_len : ∀ (n : Nat), n ≤ 1000000 → (Lib.decDigits n).length ≤ 20 := by
  have : ∀ (d n : Nat), n < 10 ^ (d + 1) → (Lib.decDigits n).length ≤ d + 1 := by
    intro d
    induction d with
    | zero => intro n h; rw [Lib.decDigits, dif_pos (by simpa using h)]; simp
    | succ d ih =>
      intro n h
      rw [Lib.decDigits]
      split
      · simp
      · have := ih (n / 10) (by rw [Nat.pow_succ] at h; omega)
        rw [List.length_append, List.length_singleton]; omega
  intro n hn
  exact Nat.le_trans (this 6 n (Nat.lt_of_le_of_lt hn (by decide))) (by omega)
theorem digits_ev : ∀ (n : Nat), n ≤ 1000000 → Ev (fun k => spec_l00Digits.f k (n : Int)) (bs (Lib.decDigits n)) := by
  intro n
  induction n using Nat.strongRecOn with
  | ind n ih =>
    intro hn
    refine Ev.step (fun _ => spec_l00Digits.f.eq_2 ..) (ev_neg (by omega) (ev_neg (by omega) ?_))
    rw [Lib.decDigits]
    by_cases h : n < 10
    · rw [dif_pos h]
      refine ev_pos (by omega) (ev_some ?_)
      rw [w64 (by omega) (by omega), strOf_one]
      have : (((48 + (n : Int)) % 256) : Int).toNat = 48 + n := by omega
      rw [this]
    · rw [dif_neg h]
      have e1 : wrap64 (Int.tdiv (n : Int) 10) = ((n / 10 : Nat) : Int) := by
        rw [Int.tdiv_eq_ediv_of_nonneg (by omega), w64 (by omega) (by omega)]; omega
      have e2 : wrap64 (48 + Int.tmod (n : Int) 10) % 256 = ((48 + n % 10 : Nat) : Int) := by
        rw [Int.tmod_eq_emod_of_nonneg (by omega), w64 (by omega) (by omega)]; omega
      rw [e1, e2]
      refine ev_neg (by omega) (Ev.bind (ih (n / 10) (by omega) (by omega)) (ev_bindc rfl ?_))
      rw [strOf_one, Int.toNat_natCast]
      have hlen : (Lib.decDigits (n / 10)).length ≤ 20 := digits_len _ (by omega)
      refine ev_pos (by rw [bs_size, bs_size]; simp; omega) (ev_some ?_)
      rw [bs_append]
theorem mailS_ev (n : ByteArray) (v x : Int) (l : List S67) (ks : List ByteArray) (hl : l.length ≤ 30) (u : Int) : Ev (fun k => spec_l09Mail.f k n v x l ks u) (idxU u l 0) := by
  have loop : ∀ (m i : Nat), i + m = l.length → Ev (fun k => spec_l09Mail.l0 k u i n v x l ks) (idxU u (l.drop i) i) := by
    intro m
    induction m with
    | zero => intro i hi; rw [List.drop_of_length_le (by omega)]; exact Ev.step (fun _ => spec_l09Mail.l0.eq_2 ..) (ev_neg (by omega) (ev_some rfl))
    | succ m ih =>
      intro i hi
      have hlt : i < l.length := by omega
      refine Ev.step (fun _ => spec_l09Mail.l0.eq_2 ..) (ev_pos (by omega) (ev_pos (by omega) ?_))
      rw [idxU_drop u l i hlt, w64n (by omega)]
      by_cases h : (rd_T67 l (i : Int)).f0 = u
      · rw [if_pos h]; exact ev_pos h (ev_some rfl)
      · rw [if_neg h]; exact ev_neg h (ih (i + 1) (by omega))
  unfold spec_l09Mail.f
  have := loop l.length 0 (by omega)
  rwa [List.drop_zero] at this
/-! What a session is told. -/
def exT (n : Nat) : Bytes := [42, 32] ++ Lib.decDigits n ++ [32, 69, 88, 80, 85, 78, 71, 69, 13, 10]
def esT (n : Nat) : Bytes := [42, 32] ++ Lib.decDigits n ++ [32, 69, 88, 73, 83, 84, 83, 13, 10]
theorem itoa_nat (n : Nat) : Lib.itoa (n : Int) = Lib.decDigits n := by unfold Lib.itoa; rw [if_neg (by omega), Int.toNat_natCast]
theorem itoaF (n : Nat) (h : n ≤ 1000000) : strconv_Itoa.f (n : Int) = some (bs (Lib.decDigits n)) := by
  unfold strconv_Itoa.f; rw [if_pos ⟨by omega, by omega⟩, itoa_nat]
theorem lineF (d w : Bytes) (hd : d.length ≤ 20) (hw : w.length ≤ 20) : impl_line.f [(⟨#[42]⟩ : ByteArray), bs d, bs w] = some (bs ([42, 32] ++ d ++ [32] ++ w ++ [13, 10])) := by
  have e : Lib.join ([(⟨#[42]⟩ : ByteArray), bs d, bs w].map (·.data.toList)) (⟨#[32]⟩ : ByteArray).data.toList = [42, 32] ++ d ++ [32] ++ w := by
    show Lib.join [[42], d, w] [32] = _
    simp [Lib.join, List.intercalate]
  unfold impl_line.f strings_Join.f
  rw [e, if_pos ⟨by simp, by simp, by simp; omega⟩, Option.bind_some, if_pos (by rw [bs_size]; simp; omega)]
  exact congrArg some (bs_append _ [13, 10])
theorem lineEx (n : Nat) (h : n ≤ 1000000) : impl_line.f [(⟨#[42]⟩ : ByteArray), bs (Lib.decDigits n), (⟨#[69, 88, 80, 85, 78, 71, 69]⟩ : ByteArray)] = some (bs (exT n)) := by
  rw [show (⟨#[69, 88, 80, 85, 78, 71, 69]⟩ : ByteArray) = bs [69, 88, 80, 85, 78, 71, 69] from rfl, lineF _ _ (digits_len n h) (by simp)]
  simp [exT]
theorem lineEs (n : Nat) (h : n ≤ 1000000) : impl_line.f [(⟨#[42]⟩ : ByteArray), bs (Lib.decDigits n), (⟨#[69, 88, 73, 83, 84, 83]⟩ : ByteArray)] = some (bs (esT n)) := by
  rw [show (⟨#[69, 88, 73, 83, 84, 83]⟩ : ByteArray) = bs [69, 88, 73, 83, 84, 83] from rfl, lineF _ _ (digits_len n h) (by simp)]
  simp [esT]
theorem exT_len (n : Nat) (h : n ≤ 1000000) : (exT n).length ≤ 40 := by have := digits_len n h; simp [exT]; omega
theorem esT_len (n : Nat) (h : n ≤ 1000000) : (esT n).length ≤ 40 := by have := digits_len n h; simp [esT]; omega
theorem riseB_drop : ∀ (l : List S67) (b : Int) (i : Nat) (h : i < l.length), riseB b l → (∀ q : 0 < i, (l[i - 1]'(by omega)).f0 < (l[i]).f0) ∧ b < (l[i]).f0
  | [], _, i, h, _ => absurd h (by simp)
  | m :: r, b, 0, h, hr => ⟨fun q => absurd q (by omega), hr.1⟩
  | m :: r, b, i + 1, h, hr => by
    have h' : i < r.length := by simpa using h
    obtain ⟨h1, h2⟩ := riseB_drop r m.f0 i h' hr.2.2
    refine ⟨fun _ => ?_, ?_⟩
    · cases i with
      | zero => simpa using h2
      | succ j => simpa using h1 (by omega)
    · have := hr.1; simp only [List.getElem_cons_succ]; omega
/-- The second half: the mails that are new, and how many there are then. -/
theorem new_both (n : ByteArray) (v x : Int) (l : List S67) (ks : List ByteArray) (hl : l.length ≤ 30) (hr : riseB 0 l) (out : Bytes) (ho : out.length ≤ 1000000) (was : Nat) (hwas : was ≤ 4096) (last : Int) (h0 : 0 ≤ last) :
    ∀ (m i : Nat) (now : List Int) (some_ : Bool) (hi : i + m = l.length), now.length ≤ was + i → (some_ = false → now.length = was ∧ (now = [] → last = 0) ∧ ∀ h : 0 < now.length, now[now.length - 1]'(by omega) = last) →
      (some_ = true → was < now.length ∧ ∃ h : 0 < now.length, last < now[now.length - 1]'(by omega) ∧ ∀ q : 0 < i, now[now.length - 1]'(by omega) ≤ (l[i - 1]'(by omega)).f0) → (some_ = true → 0 < i) →
      ∃ o now', Ev (fun k => spec_l13Updates.l1 k (bs out) now (was : Int) i n v x l ks) (bs o, now') ∧ Ev (fun k => impl_updates.l1 k (bs out) now last some_ l (l.length : Int) i n v x l ks) (bs o, now', n, v, x) ∧ now'.length ≤ 5000 := by
  intro m
  induction m with
  | zero =>
    intro i now some_ hi hn hf ht hsi
    have hend : ¬ (i : Int) < (l.length : Int) := by omega
    cases some_ with
    | false =>
      have := (hf rfl).1
      exact ⟨out, now, Ev.step (fun _ => spec_l13Updates.l1.eq_2 ..) (ev_neg hend (ev_pos (by omega) (ev_some rfl))), Ev.step (fun _ => impl_updates.l1.eq_2 ..) (ev_neg hend (ev_neg (by simp) (ev_some rfl))), by omega⟩
    | true =>
      have hw := (ht rfl).1
      have hd := digits_ev now.length (by omega)
      have hdl := digits_len now.length (by omega)
      have hel := esT_len now.length (by omega)
      have e1 : ((⟨#[42, 32]⟩ : ByteArray) ++ bs (Lib.decDigits now.length)) ++ (⟨#[32, 69, 88, 73, 83, 84, 83, 13, 10]⟩ : ByteArray) = bs (esT now.length) := by
        show (bs [42, 32] ++ bs _) ++ bs [32, 69, 88, 73, 83, 84, 83, 13, 10] = _
        rw [bs_append, bs_append]; rfl
      refine ⟨out ++ esT now.length, now, Ev.step (fun _ => spec_l13Updates.l1.eq_2 ..) (ev_neg hend (ev_neg (by omega) (Ev.bind hd ?_))), Ev.step (fun _ => impl_updates.l1.eq_2 ..) (ev_neg hend (ev_pos rfl (ev_bindc (itoaF _ (by omega)) (ev_bindc (lineEs _ (by omega)) (ev_pos (by rw [bs_size, bs_size]; omega) (ev_some ?_)))))), by omega⟩
      · simp only [e1]
        refine ev_pos (by rw [bs_size]; omega) (ev_pos ?_ (ev_pos (by rw [bs_size, bs_size]; omega) (ev_some ?_)))
        · show (bs [42, 32] ++ bs _).size + 9 ≤ _
          rw [bs_append, bs_size]; simp; omega
        · rw [bs_append]
      · rw [bs_append]
  | succ m ih =>
    intro i now some_ hi hn hf ht hsi
    have hlt : i < l.length := by omega
    obtain ⟨hup, hpos⟩ := riseB_drop l 0 i hlt hr
    have hb : (i : Int) < (l.length : Int) := by omega
    have inS : ∀ r, Ev (fun k => if (now.length : Int) = 0 then (if now.length < 17592186044416 then (spec_l13Updates.l1 k (bs out) (now ++ [(l[i]).f0]) (was : Int) ((i + 1 : Nat) : Int) n v x l ks) else (none)) else (if 0 ≤ (wrap64 ((now.length : Int) - 1)) then (if (wrap64 ((now.length : Int) - 1)) < (now.length : Int) then (if (l[i]).f0 > (rd now (wrap64 ((now.length : Int) - 1))) then (if now.length < 17592186044416 then (spec_l13Updates.l1 k (bs out) (now ++ [(l[i]).f0]) (was : Int) ((i + 1 : Nat) : Int) n v x l ks) else (none)) else (spec_l13Updates.l1 k (bs out) now (was : Int) ((i + 1 : Nat) : Int) n v x l ks)) else (none)) else (none))) r → Ev (fun k => spec_l13Updates.l1 k (bs out) now (was : Int) i n v x l ks) r := by
      intro r H
      refine Ev.step (fun _ => spec_l13Updates.l1.eq_2 ..) (ev_pos hb (ev_pos (by omega) ?_))
      rw [rd67 l i hlt, w64n (by omega)]; exact H
    have inI : ∀ r, Ev (fun k => if (l[i]).f0 > last then (if now.length < 17592186044416 then (impl_updates.l1 k (bs out) (now ++ [(l[i]).f0]) last true l (l.length : Int) ((i + 1 : Nat) : Int) n v x l ks) else (none)) else (impl_updates.l1 k (bs out) now last some_ l (l.length : Int) ((i + 1 : Nat) : Int) n v x l ks)) r → Ev (fun k => impl_updates.l1 k (bs out) now last some_ l (l.length : Int) i n v x l ks) r := by
      intro r H
      refine Ev.step (fun _ => impl_updates.l1.eq_2 ..) (ev_pos hb (ev_pos (by omega) (ev_pos hb ?_)))
      rw [rd67 l i hlt, w64n (by omega)]; exact H
    have put : last < (l[i]).f0 → (now = [] ∨ ∃ h : 0 < now.length, now[now.length - 1]'(by omega) < (l[i]).f0) → was ≤ now.length → ∃ o now', Ev (fun k => spec_l13Updates.l1 k (bs out) now (was : Int) i n v x l ks) (bs o, now') ∧ Ev (fun k => impl_updates.l1 k (bs out) now last some_ l (l.length : Int) i n v x l ks) (bs o, now', n, v, x) ∧ now'.length ≤ 5000 := by
      intro hl1 hl2 hl3
      obtain ⟨o, now', r1, r2, r3⟩ := ih (i + 1) (now ++ [(l[i]).f0]) true (by omega) (by simp; omega) (fun h => by cases h) (fun _ => ⟨by simp; omega, by simp, by simpa using hl1, fun _ => by simp⟩) (fun _ => by omega)
      refine ⟨o, now', inS _ ?_, inI _ (ev_pos (by omega) (ev_pos (by omega) r2)), r3⟩
      rcases hl2 with h | ⟨h, h2⟩
      · subst h; exact ev_pos (by simp) (ev_pos (by simp) r1)
      · have e1 : wrap64 ((now.length : Int) - 1) = ((now.length - 1 : Nat) : Int) := by rw [w64 (by omega) (by omega)]; omega
        rw [e1, rdI now (now.length - 1) (by omega)] at inS
        refine ev_neg (by omega) ?_
        rw [e1, rdI now (now.length - 1) (by omega)]
        exact ev_pos (by omega) (ev_pos (by omega) (ev_pos h2 (ev_pos (by omega) r1)))
    cases some_ with
    | true =>
      obtain ⟨hw, hq, hlast, hle⟩ := ht rfl
      have hi0 := hsi rfl
      have h1 := hle hi0
      have h2 := hup hi0
      exact put (by omega) (.inr ⟨hq, by omega⟩) (by omega)
    | false =>
      obtain ⟨hw, hnil, hlast⟩ := hf rfl
      by_cases hu : last < (l[i]).f0
      · refine put hu ?_ (by omega)
        by_cases hz : now = []
        · exact .inl hz
        · have hq : 0 < now.length := List.length_pos_iff.mpr hz
          exact .inr ⟨hq, by have := hlast hq; omega⟩
      · obtain ⟨o, now', r1, r2, r3⟩ := ih (i + 1) now false (by omega) (by omega) (fun _ => ⟨hw, hnil, hlast⟩) (fun h => by cases h) (fun h => by cases h)
        have hz : ¬ now = [] := fun h => by have := hnil h; omega
        have hq : 0 < now.length := List.length_pos_iff.mpr hz
        have e1 : wrap64 ((now.length : Int) - 1) = ((now.length - 1 : Nat) : Int) := by rw [w64 (by omega) (by omega)]; omega
        refine ⟨o, now', inS _ (ev_neg (by omega) ?_), inI _ (ev_neg (by omega) r2), r3⟩
        rw [e1, rdI now (now.length - 1) (by omega)]
        exact ev_pos (by omega) (ev_pos (by omega) (ev_neg (by have := hlast hq; omega) r1))
end Go.Proofs.YtnphhnhnmohfiaaDoor.PFnExactViewUpdates
