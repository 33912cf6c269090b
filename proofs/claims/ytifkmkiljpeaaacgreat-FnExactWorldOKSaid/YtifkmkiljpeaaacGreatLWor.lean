import Derived.Test.YtifkmkiljpeaaacGreatPFnExactWorldOKxD
import Derived.Test.YtifkmkiljpeaaacGreatPFnExactWorldOKxB
import Derived.Test.YtifkmkiljpeaaacGreatPFnExactWorldOKxE
import Derived.Test.YtifkmkiljpeaaacGreatPFnExactWorldOKxC
import Derived.Test.YtifkmkiljpeaaacGreatOwnB
set_option linter.unusedVariables false
set_option linter.unusedSimpArgs false
namespace Go.Proofs.YtifkmkiljpeaaacGreat.PFnExactWorldOK
open Go.RowKit Go.Proofs.YtifkmkiljpeaaacGreatW.PrintWords
theorem within_f (a b c : Int) : impl_within.f a b c = some (inB a b c) := by
  unfold impl_within.f inB
  by_cases h : a ≥ b
  · rw [if_pos h, decide_eq_true (by omega : b ≤ a)]; rfl
  · rw [if_neg h, decide_eq_false (by omega : ¬ b ≤ a)]; rfl
theorem l01In_f (a b c : Int) : spec_l01In.f a b c = some (inB a b c) := by
  unfold spec_l01In.f inB
  by_cases h : a ≥ b
  · rw [if_pos h, decide_eq_true (by omega : b ≤ a)]; rfl
  · rw [if_neg h, decide_eq_false (by omega : ¬ b ≤ a)]; rfl
def letS (c : UInt8) : Bool := (decide (97 ≤ c.toNat) && decide (c.toNat ≤ 122)) || (decide (65 ≤ c.toNat) && decide (c.toNat ≤ 90)) || decide (c.toNat = 95)
def letA (c : UInt8) : Bool := (decide (97 ≤ c.toNat) && decide (c.toNat ≤ 122)) || (decide (65 ≤ c.toNat) && decide (c.toNat ≤ 90))
def wordC (c : UInt8) : Bool := letS c || isD c
theorem letS_f (c : UInt8) : spec_l00Letter.f (c.toNat : Int) = some (letS c) := by
  unfold spec_l00Letter.f letS
  have h5 : (((c.toNat : Int) == 95) : Bool) = decide (c.toNat = 95) := by rw [Bool.eq_iff_iff]; simp; omega
  rw [h5]
  by_cases h1 : 97 ≤ c.toNat
  · rw [if_pos (by omega), decide_eq_true h1]
    by_cases h2 : c.toNat ≤ 122
    · rw [if_pos (by omega), decide_eq_true h2]; rfl
    · rw [if_neg (by omega), decide_eq_false h2]
      rw [if_pos (by omega), if_neg (by omega), decide_eq_false (by omega : ¬ c.toNat ≤ 90)]
      simp
  · rw [if_neg (by omega), decide_eq_false h1]
    by_cases h3 : 65 ≤ c.toNat
    · rw [if_pos (by omega), decide_eq_true h3]
      by_cases h4 : c.toNat ≤ 90
      · rw [if_pos (by omega), decide_eq_true h4]; rfl
      · rw [if_neg (by omega), decide_eq_false h4]; simp
    · rw [if_neg (by omega), decide_eq_false h3]; simp
theorem letA_f (c : UInt8) : impl_isLetter.f (c.toNat : Int) = some (letA c) := by
  unfold impl_isLetter.f letA
  by_cases h1 : 97 ≤ c.toNat
  · rw [if_pos (by omega), decide_eq_true h1]
    by_cases h2 : c.toNat ≤ 122
    · rw [if_pos (by omega), decide_eq_true h2]; rfl
    · rw [if_neg (by omega), decide_eq_false h2]
      rw [if_pos (by omega), decide_eq_false (by omega : ¬ (c.toNat : Int) ≤ 90), decide_eq_false (by omega : ¬ c.toNat ≤ 90)]
      simp
  · rw [if_neg (by omega), decide_eq_false h1]
    by_cases h3 : 65 ≤ c.toNat
    · rw [if_pos (by omega), decide_eq_true h3]
      have : decide ((c.toNat : Int) ≤ 90) = decide (c.toNat ≤ 90) := by rw [Bool.eq_iff_iff]; simp; omega
      rw [this]; simp
    · rw [if_neg (by omega), decide_eq_false h3]; simp
theorem digS_f (c : UInt8) : spec_l00Digit.f (c.toNat : Int) = some (isD c) := by
  unfold spec_l00Digit.f isD
  by_cases h : 48 ≤ c.toNat
  · rw [if_pos (by omega), decide_eq_true h]; simp; omega
  · rw [if_neg (by omega), decide_eq_false h]; rfl
theorem digI_f (c : UInt8) : impl_isDigit.f (c.toNat : Int) = some (isD c) := by
  unfold impl_isDigit.f isD
  by_cases h : 48 ≤ c.toNat
  · rw [if_pos (by omega), decide_eq_true h]; simp; omega
  · rw [if_neg (by omega), decide_eq_false h]; rfl
def nameB (l : Bytes) : Bool := decide (1 ≤ l.length) && decide (l.length ≤ 40) && (match l with | [] => false | c :: r => letS c && r.all wordC)
theorem nameS_l0 (l : Bytes) (hl : l.length ≤ 1099511627776) : ∀ (m i : Nat), i + m = l.length → Ev (fun k => spec_l00Word.l0 k (bs l) i) ((l.drop i).all wordC) := by
  intro m
  induction m with
  | zero => intro i hi; rw [List.drop_of_length_le (by omega)]; exact Ev.step (fun _ => spec_l00Word.l0.eq_2 ..) (ev_neg (by rw [bs_size]; omega) (ev_some rfl))
  | succ m ih =>
    intro i hi
    have hlt : i < l.length := by omega
    refine Ev.step (fun _ => spec_l00Word.l0.eq_2 ..) (ev_pos (by rw [bs_size]; omega) (ev_pos (by omega) ?_))
    rw [bt_bs l i hlt, drop_cons l i hlt, List.all_cons, w64n (by omega)]
    refine ev_bindc (letS_f _) ?_
    cases h1 : letS l[i] with
    | true => rw [wordC, h1]; exact ev_pos rfl (ih (i + 1) (by omega))
    | false =>
      refine ev_neg (by simp) (ev_bindc (digS_f _) ?_)
      cases h2 : isD l[i] with
      | true => rw [wordC, h1, h2]; exact ev_pos rfl (ih (i + 1) (by omega))
      | false => rw [wordC, h1, h2]; exact ev_neg (by simp) (ev_some rfl)
theorem nameI_l0 (l : Bytes) (hl : l.length ≤ 1099511627776) : ∀ (m i : Nat), i + m = l.length → Ev (fun k => impl_NameOK.l0 k (bs l) (l.length : Int) i) ((l.drop i).all wordC) := by
  intro m
  induction m with
  | zero => intro i hi; rw [List.drop_of_length_le (by omega)]; exact Ev.step (fun _ => impl_NameOK.l0.eq_2 ..) (ev_neg (by omega) (ev_some rfl))
  | succ m ih =>
    intro i hi
    have hlt : i < l.length := by omega
    have hS : letS l[i] = (letA l[i] || decide ((l[i]).toNat = 95)) := rfl
    refine Ev.step (fun _ => impl_NameOK.l0.eq_2 ..) (ev_pos (by omega) (ev_pos (by omega) (ev_pos (by rw [bs_size]; omega) ?_)))
    rw [bt_bs l i hlt, drop_cons l i hlt, List.all_cons, w64n (by omega)]
    refine ev_bindc (letA_f _) ?_
    cases h1 : letA l[i] with
    | true => rw [wordC, hS, h1]; exact ev_pos rfl (ih (i + 1) (by omega))
    | false =>
      refine ev_neg (by simp) (ev_bindc (digI_f _) ?_)
      cases h2 : isD l[i] with
      | true => rw [wordC, h2, Bool.or_true]; exact ev_pos rfl (ih (i + 1) (by omega))
      | false =>
        refine ev_neg (by simp) ?_
        by_cases h3 : (l[i]).toNat = 95
        · rw [wordC, hS, h1, h2, decide_eq_true h3]; exact ev_pos (by omega) (ih (i + 1) (by omega))
        · rw [wordC, hS, h1, h2, decide_eq_false h3]; exact ev_neg (by omega) (ev_some rfl)
theorem nameS_ev (t : ByteArray) (ht : t.size ≤ 1099511627776) : Ev (fun k => spec_NameOK.f k t) (nameB t.data.toList) := by
  obtain ⟨l, rfl⟩ := bs_ex t
  rw [bs_data]
  rw [bs_size] at ht
  unfold spec_NameOK.f
  refine Ev.bind (r := nameB l) ?_ (ev_some rfl)
  unfold spec_l00Word.f nameB
  rw [bs_size]
  have bad : Ev (fun k => spec_l00Word.j0 k (bs l) true) false := Ev.step (fun _ => spec_l00Word.j0.eq_2 ..) (ev_pos rfl (ev_some rfl))
  cases l with
  | nil => exact ev_pos (by simp) bad
  | cons c r =>
    refine ev_neg (by first | (simp; done) | (simp; omega)) ?_
    rw [decide_eq_true (by simp : 1 ≤ (c :: r).length), Bool.true_and]
    by_cases h2 : (c :: r).length ≤ 40
    · rw [decide_eq_true h2, Bool.true_and]
      refine ev_neg (by omega) (ev_pos (by first | (simp; done) | (simp; omega)) ?_)
      rw [bt_zero (c :: r) (by simp)]
      refine ev_bindc (letS_f _) ?_
      show Ev (fun k => spec_l00Word.j0 k (bs (c :: r)) (!letS c)) (letS c && r.all wordC)
      cases h3 : letS c with
      | true => exact Ev.step (fun _ => spec_l00Word.j0.eq_2 ..) (ev_neg (by simp) (nameS_l0 (c :: r) ht r.length 1 (by first | (simp; done) | (simp; omega))))
      | false => exact bad
    · rw [decide_eq_false h2, Bool.false_and]
      exact ev_pos (by omega) bad
theorem nameI_ev (t : ByteArray) (ht : t.size ≤ 1099511627776) : Ev (fun k => impl_NameOK.f k t) (nameB t.data.toList) := by
  obtain ⟨l, rfl⟩ := bs_ex t
  rw [bs_data]
  rw [bs_size] at ht
  unfold impl_NameOK.f nameB
  rw [bs_size]
  have bad : Ev (fun k => impl_NameOK.j0 k (bs l) true) false := Ev.step (fun _ => impl_NameOK.j0.eq_2 ..) (ev_pos rfl (ev_some rfl))
  refine ev_bindc (within_f _ _ _) ?_
  cases l with
  | nil => exact ev_neg (by simp [inB]) bad
  | cons c r =>
    rw [decide_eq_true (by simp : 1 ≤ (c :: r).length), Bool.true_and]
    by_cases h2 : (c :: r).length ≤ 40
    · rw [decide_eq_true h2, Bool.true_and]
      refine ev_pos (by unfold inB; rw [decide_eq_true (by first | (simp; done) | (simp; omega)), decide_eq_true (by omega)]; rfl) (ev_pos (by first | (simp; done) | (simp; omega)) ?_)
      rw [bt_zero (c :: r) (by simp)]
      refine ev_bindc (digI_f _) ?_
      show Ev (fun k => impl_NameOK.j0 k (bs (c :: r)) (isD c)) (letS c && r.all wordC)
      cases h3 : isD c with
      | true =>
        have : letS c = false := by rw [isD_iff] at h3; unfold letS; simp; omega
        rw [this]; exact bad
      | false =>
        refine Ev.step (fun _ => impl_NameOK.j0.eq_2 ..) (ev_neg (by simp) ?_)
        rw [bs_size]
        have := nameI_l0 (c :: r) ht (c :: r).length 0 (by omega)
        rw [List.drop_zero, List.all_cons, wordC, h3, Bool.or_false] at this
        exact this
    · rw [decide_eq_false h2, Bool.false_and]
      exact ev_neg (by unfold inB; rw [decide_eq_false (by omega : ¬ ((c :: r).length : Int) ≤ 40)]; simp) bad
def riseB : Int → List S109 → Prop
  | _, [] => True
  | b, m :: r => b < m.f0 ∧ m.f0 ≤ 1000 ∧ riseB m.f0 r
theorem rd67 (l : List S109) (i : Nat) (h : i < l.length) : rd_T109 l (i : Int) = l[i] := by
  unfold rd_T109; simp [List.getD, List.getElem?_eq_getElem h]
theorem keys_both (n : ByteArray) (v x : Int) (ms : List S109) (l : List ByteArray) (hl : l.length ≤ 60) : ∀ (m i : Nat), i + m = l.length →
    ∃ r, Ev (fun k => spec_BoxOK.l1 k i n v x ms l) r ∧ Ev (fun k => impl_BoxOK.l1 k l (l.length : Int) i n v x ms l) r := by
  intro m
  induction m with
  | zero =>
    intro i hi
    exact ⟨true, Ev.step (fun _ => spec_BoxOK.l1.eq_2 ..) (ev_neg (by omega) (ev_some rfl)), Ev.step (fun _ => impl_BoxOK.l1.eq_2 ..) (ev_neg (by omega) (ev_some rfl))⟩
  | succ m ih =>
    intro i hi
    have hlt : i < l.length := by omega
    have hS := hasS_ev (l.take i) l[i] (by rw [List.length_take]; omega)
    have hI := hasI_ev (l.take i) l[i] (by rw [List.length_take]; omega)
    have hk : ∀ t : ByteArray, impl_keyOK.f t = some (inB (t.size : Int) 1 200) := by intro t; unfold impl_keyOK.f; rw [within_f]; rfl
    have inS : ∀ r, Ev (fun k => if inB ((l[i]).size : Int) 1 200 = true then (if (i : Int) ≤ (l.length : Int) then ((spec_l06Has.f k (l.take i) l[i]).bind fun t127 => (if t127 = true then (some false) else (spec_BoxOK.l1 k ((i + 1 : Nat) : Int) n v x ms l))) else (none)) else (some false)) r → Ev (fun k => spec_BoxOK.l1 k i n v x ms l) r := by
      intro r H
      refine Ev.step (fun _ => spec_BoxOK.l1.eq_2 ..) (ev_pos (by omega) (ev_pos (by omega) ?_))
      rw [rdOf_nat _ l i hlt, w64n (by omega), Int.toNat_natCast]
      exact ev_bindc (l01In_f _ _ _) H
    have inI : ∀ r, Ev (fun k => if inB ((l[i]).size : Int) 1 200 = true then (if (i : Int) ≤ (l.length : Int) then ((slices_Contains_string_string.f k (l.take i) l[i]).bind fun t214 => (if t214 = true then (some false) else (impl_BoxOK.l1 k l (l.length : Int) ((i + 1 : Nat) : Int) n v x ms l))) else (none)) else (some false)) r → Ev (fun k => impl_BoxOK.l1 k l (l.length : Int) i n v x ms l) r := by
      intro r H
      refine Ev.step (fun _ => impl_BoxOK.l1.eq_2 ..) (ev_pos (by omega) (ev_pos (by omega) (ev_pos (by omega) ?_)))
      rw [rdOf_nat _ l i hlt, w64n (by omega), Int.toNat_natCast]
      exact ev_bindc (hk _) H
    cases h1 : inB ((l[i]).size : Int) 1 200 with
    | false => rw [h1] at inS inI; exact ⟨false, inS _ (ev_neg (by simp) (ev_some rfl)), inI _ (ev_neg (by simp) (ev_some rfl))⟩
    | true =>
      rw [h1] at inS inI
      cases h2 : hasB (l.take i) l[i] with
      | true => rw [h2] at hS hI; exact ⟨false, inS _ (ev_pos rfl (ev_pos (by omega) (Ev.bind hS (ev_pos rfl (ev_some rfl))))), inI _ (ev_pos rfl (ev_pos (by omega) (Ev.bind hI (ev_pos rfl (ev_some rfl)))))⟩
      | false =>
        rw [h2] at hS hI
        obtain ⟨r, r1, r2⟩ := ih (i + 1) (by omega)
        exact ⟨r, inS _ (ev_pos rfl (ev_pos (by omega) (Ev.bind hS (ev_neg (by simp) r1)))), inI _ (ev_pos rfl (ev_pos (by omega) (Ev.bind hI (ev_neg (by simp) r2))))⟩
theorem inB_true {a b c : Int} : inB a b c = true ↔ b ≤ a ∧ a ≤ c := by simp [inB]
theorem inB_false {a b c : Int} : inB a b c = false ↔ a < b ∨ c < a := by rw [← Bool.not_eq_true, inB_true]; omega
theorem mails_both (n : ByteArray) (v x : Int) (hx : 1 ≤ x ∧ x ≤ 1001) (l : List S109) (ks : List ByteArray) (hk : ks.length ≤ 60) (hl : l.length ≤ 30) : ∀ (m i : Nat) (b : Int) (hi : i + m = l.length), 0 ≤ b → b ≤ 1000 → (∀ h : 0 < i, b = (l[i - 1]'(by omega)).f0 ) → (i = 0 → b = 0) →
    ∃ r, Ev (fun k => spec_BoxOK.l0 k i n v x l ks) r ∧ Ev (fun k => impl_BoxOK.l0 k b l (l.length : Int) i n v x l ks) r ∧ (r = true → riseB b (l.drop i)) := by
  intro m
  induction m with
  | zero =>
    intro i b hi h0 h1 hb hz
    obtain ⟨r, r1, r2⟩ := keys_both n v x l ks hk ks.length 0 (by omega)
    refine ⟨r, Ev.step (fun _ => spec_BoxOK.l0.eq_2 ..) (ev_neg (by omega) r1), Ev.step (fun _ => impl_BoxOK.l0.eq_2 ..) (ev_neg (by omega) r2), fun _ => ?_⟩
    rw [List.drop_of_length_le (by omega)]; trivial
  | succ m ih =>
    intro i b hi h0 h1 hb hz
    have hlt : i < l.length := by omega
    have hx1 : wrap64 (x - 1) = x - 1 := w64 (by omega) (by omega)
    rw [List.drop_eq_getElem_cons hlt]
    have inI : ∀ r, Ev (fun k => if inB (l[i]).f0 (b + 1) (x - 1) = true then ((impl_within.f (l[i]).f1 0 31).bind fun t210 => (if t210 = true then (if ((l[i]).f2.size : Int) > 4000 then (some false) else (impl_BoxOK.l0 k (l[i]).f0 l (l.length : Int) ((i + 1 : Nat) : Int) n v x l ks)) else (some false))) else (some false)) r → Ev (fun k => impl_BoxOK.l0 k b l (l.length : Int) i n v x l ks) r := by
      intro r H
      refine Ev.step (fun _ => impl_BoxOK.l0.eq_2 ..) (ev_pos (by omega) (ev_pos (by omega) (ev_pos (by omega) ?_)))
      rw [rd67 l i hlt, w64n (by omega), hx1, w64 (x := b + 1) (by omega) (by omega)]
      exact ev_bindc (within_f _ _ _) H
    have tailS : ∀ r, Ev (fun k => (spec_l01In.f (l[i]).f1 0 31).bind fun t121 => (if t121 = true then (if ((l[i]).f2.size : Int) > 4000 then (some false) else (spec_BoxOK.l0 k ((i + 1 : Nat) : Int) n v x l ks)) else (some false))) r → b < (l[i]).f0 → (l[i]).f0 ≤ x - 1 → Ev (fun k => spec_BoxOK.l0 k i n v x l ks) r := by
      intro r H hlo hhi
      refine Ev.step (fun _ => spec_BoxOK.l0.eq_2 ..) (ev_pos (by omega) (ev_pos (by omega) ?_))
      rw [rd67 l i hlt, w64n (by omega), hx1]
      refine ev_bindc (l01In_f _ _ _) (ev_pos (inB_true.mpr ⟨by omega, hhi⟩) ?_)
      by_cases hi0 : 0 < i
      · have e1 : wrap64 ((i : Int) - 1) = ((i - 1 : Nat) : Int) := by rw [w64 (by omega) (by omega)]; omega
        rw [e1, rd67 l (i - 1) (by omega), ← hb hi0]
        exact ev_pos (by omega) (ev_pos (by omega) (ev_pos (by omega) (ev_neg (by omega) H)))
      · exact ev_neg (by omega) H
    have badS : (¬ (b < (l[i]).f0) ∨ ¬ (l[i]).f0 ≤ x - 1) → Ev (fun k => spec_BoxOK.l0 k i n v x l ks) false := by
      intro hbad
      refine Ev.step (fun _ => spec_BoxOK.l0.eq_2 ..) (ev_pos (by omega) (ev_pos (by omega) ?_))
      rw [rd67 l i hlt, w64n (by omega), hx1]
      refine ev_bindc (l01In_f _ _ _) ?_
      cases hin : inB (l[i]).f0 1 (x - 1) with
      | false => exact ev_neg (by simp) (ev_some rfl)
      | true =>
        obtain ⟨q1, q2⟩ := inB_true.mp hin
        refine ev_pos rfl ?_
        have hi0 : 0 < i := by
          rcases Nat.eq_zero_or_pos i with h | h
          · have := hz h; omega
          · exact h
        have e1 : wrap64 ((i : Int) - 1) = ((i - 1 : Nat) : Int) := by rw [w64 (by omega) (by omega)]; omega
        rw [e1, rd67 l (i - 1) (by omega), ← hb hi0]
        exact ev_pos (by omega) (ev_pos (by omega) (ev_pos (by omega) (ev_pos (by omega) (ev_some rfl))))
    cases hin : inB (l[i]).f0 (b + 1) (x - 1) with
    | false =>
      rw [hin] at inI
      have := inB_false.mp hin
      exact ⟨false, badS (by omega), inI _ (ev_neg (by simp) (ev_some rfl)), fun h => by cases h⟩
    | true =>
      rw [hin] at inI
      obtain ⟨q1, q2⟩ := inB_true.mp hin
      cases hf : inB (l[i]).f1 0 31 with
      | false =>
        exact ⟨false, tailS _ (ev_bindc (l01In_f _ _ _) (ev_neg (by rw [hf]; simp) (ev_some rfl))) (by omega) q2, inI _ (ev_pos rfl (ev_bindc (within_f _ _ _) (ev_neg (by rw [hf]; simp) (ev_some rfl)))), fun h => by cases h⟩
      | true =>
        by_cases ht : ((l[i]).f2.size : Int) > 4000
        · exact ⟨false, tailS _ (ev_bindc (l01In_f _ _ _) (ev_pos hf (ev_pos ht (ev_some rfl)))) (by omega) q2, inI _ (ev_pos rfl (ev_bindc (within_f _ _ _) (ev_pos hf (ev_pos ht (ev_some rfl))))), fun h => by cases h⟩
        · obtain ⟨r, r1, r2, r3⟩ := ih (i + 1) (l[i]).f0 (by omega) (by omega) (by omega) (fun _ => rfl) (by omega)
          exact ⟨r, tailS _ (ev_bindc (l01In_f _ _ _) (ev_pos hf (ev_neg ht r1))) (by omega) q2, inI _ (ev_pos rfl (ev_bindc (within_f _ _ _) (ev_pos hf (ev_neg ht r2)))), fun h => ⟨by omega, by omega, r3 h⟩⟩
theorem box_both (n : ByteArray) (v x : Int) (l : List S109) (ks : List ByteArray) (hn : n.size ≤ 1099511627776) : ∃ r, Ev (fun k => spec_BoxOK.f k n v x l ks) r ∧ Ev (fun k => impl_BoxOK.f k n v x l ks) r ∧ (r = true → riseB 0 l ∧ l.length ≤ 30) := by
  unfold spec_BoxOK.f impl_BoxOK.f
  have bS : Ev (fun k => spec_BoxOK.j0 k true n v x l ks) false := Ev.step (fun _ => spec_BoxOK.j0.eq_2 ..) (ev_pos rfl (ev_some rfl))
  have bI : Ev (fun k => impl_BoxOK.j0 k true n v x l ks) false := Ev.step (fun _ => impl_BoxOK.j0.eq_2 ..) (ev_pos rfl (ev_some rfl))
  have bI1 : Ev (fun k => impl_BoxOK.j1 k true n v x l ks) false := Ev.step (fun _ => impl_BoxOK.j1.eq_2 ..) (ev_pos rfl (ev_some rfl))
  have hS := nameS_ev n hn
  have hI := nameI_ev n hn
  cases h1 : nameB n.data.toList with
  | false => rw [h1] at hS hI; exact ⟨false, Ev.bind hS (ev_neg (by simp) bS), Ev.bind hI (ev_neg (by simp) bI), fun h => by cases h⟩
  | true =>
    rw [h1] at hS hI
    cases h2 : inB v 1 1000000 with
    | false => exact ⟨false, Ev.bind hS (ev_pos rfl (ev_bindc (l01In_f _ _ _) (ev_neg (by rw [h2]; simp) bS))), Ev.bind hI (ev_pos rfl (ev_bindc (within_f _ _ _) (ev_neg (by rw [h2]; simp) bI))), fun h => by cases h⟩
    | true =>
      cases h3 : inB x 1 1001 with
      | false =>
        refine ⟨false, Ev.bind hS (ev_pos rfl (ev_bindc (l01In_f _ _ _) (ev_pos h2 (ev_bindc (l01In_f _ _ _) (ev_neg (by rw [h3]; simp) bS))))), Ev.bind hI (ev_pos rfl (ev_bindc (within_f _ _ _) (ev_pos h2 (ev_bindc (within_f _ _ _) ?_)))), fun h => by cases h⟩
        rw [h3]; exact bI
      | true =>
        have hx := inB_true.mp h3
        have hx1 : wrap64 (x - 1) = x - 1 := w64 (by omega) (by omega)
        have goS : ∀ r, Ev (fun k => if (l.length : Int) > 30 then (spec_BoxOK.j0 k true n v x l ks) else (if (ks.length : Int) > 60 then (spec_BoxOK.j0 k true n v x l ks) else (spec_BoxOK.j0 k ((ks.length : Int) != (x - 1)) n v x l ks))) r → Ev (fun k => (spec_NameOK.f k n).bind fun t114 => (if t114 = true then ((spec_l01In.f v 1 1000000).bind fun t115 => (if t115 = true then ((spec_l01In.f x 1 1001).bind fun t116 => (if t116 = true then (if (l.length : Int) > 30 then (spec_BoxOK.j0 k true n v x l ks) else (if (ks.length : Int) > 60 then (spec_BoxOK.j0 k true n v x l ks) else (spec_BoxOK.j0 k ((ks.length : Int) != (wrap64 (x - 1))) n v x l ks))) else (spec_BoxOK.j0 k true n v x l ks))) else (spec_BoxOK.j0 k true n v x l ks))) else (spec_BoxOK.j0 k true n v x l ks))) r := by
          intro r H
          rw [hx1]
          exact Ev.bind hS (ev_pos rfl (ev_bindc (l01In_f _ _ _) (ev_pos h2 (ev_bindc (l01In_f _ _ _) (ev_pos h3 H)))))
        have goI : ∀ r, Ev (fun k => if (l.length : Int) > 30 then (impl_BoxOK.j1 k true n v x l ks) else (if (ks.length : Int) > 60 then (impl_BoxOK.j1 k true n v x l ks) else (impl_BoxOK.j1 k ((ks.length : Int) != (x - 1)) n v x l ks))) r → Ev (fun k => (impl_NameOK.f k n).bind fun t204 => (if t204 = true then ((impl_within.f v 1 1000000).bind fun t205 => (if t205 = true then ((impl_within.f x 1 1001).bind fun t206 => (impl_BoxOK.j0 k (!t206) n v x l ks)) else (impl_BoxOK.j0 k true n v x l ks))) else (impl_BoxOK.j0 k true n v x l ks))) r := by
          intro r H
          refine Ev.bind hI (ev_pos rfl (ev_bindc (within_f _ _ _) (ev_pos h2 (ev_bindc (within_f _ _ _) ?_))))
          rw [h3]
          refine Ev.step (fun _ => impl_BoxOK.j0.eq_2 ..) (ev_neg (by simp) ?_)
          rw [hx1]; exact H
        by_cases h4 : (l.length : Int) > 30
        · exact ⟨false, goS _ (ev_pos h4 bS), goI _ (ev_pos h4 bI1), fun h => by cases h⟩
        by_cases h5 : (ks.length : Int) > 60
        · exact ⟨false, goS _ (ev_neg h4 (ev_pos h5 bS)), goI _ (ev_neg h4 (ev_pos h5 bI1)), fun h => by cases h⟩
        cases h6 : ((ks.length : Int) != (x - 1)) with
        | true => rw [h6] at goS goI; exact ⟨false, goS _ (ev_neg h4 (ev_neg h5 bS)), goI _ (ev_neg h4 (ev_neg h5 bI1)), fun h => by cases h⟩
        | false =>
          rw [h6] at goS goI
          obtain ⟨r, r1, r2, r3⟩ := mails_both n v x hx l ks (by omega) (by omega) l.length 0 0 (by omega) (by omega) (by omega) (fun h => by omega) (fun _ => rfl)
          refine ⟨r, goS _ (ev_neg h4 (ev_neg h5 (Ev.step (fun _ => spec_BoxOK.j0.eq_2 ..) (ev_neg (by simp) r1)))), goI _ (ev_neg h4 (ev_neg h5 (Ev.step (fun _ => impl_BoxOK.j1.eq_2 ..) (ev_neg (by simp) r2)))), fun h => ⟨?_, by omega⟩⟩
          have := r3 h
          rwa [List.drop_zero] at this
theorem findS_take (l : List S98) (hl : l.length ≤ 1048576) (i : Nat) (u : ByteArray) : Ev (fun k => spec_l09Find.f k (l.take i) u) (idxN u (l.take i) 0) := by
  have loop : ∀ (q : List S98), q.length ≤ 1048576 → ∀ (m i : Nat), i + m = q.length → Ev (fun k => spec_l09Find.l0 k q u i) (idxN u (q.drop i) i) := by
    intro q hq m
    induction m with
    | zero => intro i hi; rw [List.drop_of_length_le (by omega)]; exact Ev.step (fun _ => spec_l09Find.l0.eq_2 ..) (ev_neg (by omega) (ev_some rfl))
    | succ m ih =>
      intro i hi
      have hlt : i < q.length := by omega
      refine Ev.step (fun _ => spec_l09Find.l0.eq_2 ..) (ev_pos (by omega) (ev_pos (by omega) ?_))
      rw [idxN_drop u q i hlt, w64n (by omega)]
      by_cases h : (rd_T98 q (i : Int)).f0.toList = u.toList
      · rw [if_pos h]; exact ev_pos h (ev_some rfl)
      · rw [if_neg h]; exact ev_neg h (ih (i + 1) (by omega))
  have hq : (l.take i).length ≤ 1048576 := by rw [List.length_take]; omega
  unfold spec_l09Find.f
  have := loop (l.take i) hq (l.take i).length 0 (by omega)
  rwa [List.drop_zero] at this
theorem idxN_take (u : ByteArray) : ∀ (l : List S98) (i : Nat) (j : Int), 0 ≤ j → i < l.length → (h : i < l.length) → l[i].f0 = u → (0 ≤ idxN u (l.take i) j ∧ idxN u l j ≠ j + i) ∨ (idxN u (l.take i) j < 0 ∧ idxN u l j = j + i)
  | [], i, j, _, h, _, _ => by simp at h
  | m :: r, 0, j, hj, _, h, e => by
    refine .inr ⟨by simp [idxN], ?_⟩
    unfold idxN
    simp at e
    rw [if_pos (by rw [e])]; simp
  | m :: r, i + 1, j, hj, h1, h, e => by
    rw [List.take_succ_cons]
    unfold idxN
    by_cases hm : m.f0.toList = u.toList
    · rw [if_pos hm, if_pos hm]; exact .inl ⟨hj, by omega⟩
    · rw [if_neg hm, if_neg hm]
      rcases idxN_take u r i (j + 1) (by omega) (by simpa using h) (by simpa using h) (by simpa using e) with ⟨a, b⟩ | ⟨a, b⟩
      · exact .inl ⟨a, by omega⟩
      · exact .inr ⟨a, by omega⟩
def SmallS (l : List S98) : Prop := l.length ≤ 4 ∧ ∀ b ∈ l, b.f3.length ≤ 30 ∧ b.f4.length ≤ 60
theorem store_both (l : List S98) (hn : ∀ b ∈ l, b.f0.size ≤ 1099511627776) : ∃ r, Ev (fun k => spec_StoreOK.f k l) r ∧ Ev (fun k => impl_StoreOK.f k l) r ∧ (r = true → l.length ≤ 4) := by
  unfold spec_StoreOK.f impl_StoreOK.f
  by_cases h4 : (l.length : Int) > 4
  · refine ⟨false, ?_, ev_pos h4 (ev_some rfl), fun h => by cases h⟩
    by_cases h5 : (l.length : Int) > 4096
    · exact ev_pos h5 (ev_some rfl)
    · exact ev_neg h5 (ev_pos h4 (ev_some rfl))
  have loop : ∀ (m i : Nat), i + m = l.length → ∃ r, Ev (fun k => spec_StoreOK.l0 k l i) r ∧ Ev (fun k => impl_StoreOK.l0 k l l (l.length : Int) i) r := by
    intro m
    induction m with
    | zero => intro i hi; exact ⟨true, Ev.step (fun _ => spec_StoreOK.l0.eq_2 ..) (ev_neg (by omega) (ev_some rfl)), Ev.step (fun _ => impl_StoreOK.l0.eq_2 ..) (ev_neg (by omega) (ev_some rfl))⟩
    | succ m ih =>
      intro i hi
      have hlt : i < l.length := by omega
      obtain ⟨b, b1, b2, -⟩ := box_both l[i].f0 l[i].f1 l[i].f2 l[i].f3 l[i].f4 (hn _ (List.getElem_mem hlt))
      have hF := findS_take l (by omega) i l[i].f0
      have hI : impl_boxIndex.f l l[i].f0 = some (idxN l[i].f0 l 0) := by unfold impl_boxIndex.f; rw [if_pos (by omega)]
      have inS : ∀ r, Ev (fun k => if b = true then (if l[i].f1 = ((i + 1 : Nat) : Int) then (if (i : Int) ≤ (l.length : Int) then ((spec_l09Find.f k (l.take i) l[i].f0).bind fun t146 => (if t146 ≥ 0 then (some false) else (spec_StoreOK.l0 k l ((i + 1 : Nat) : Int)))) else (none)) else (some false)) else (some false)) r → Ev (fun k => spec_StoreOK.l0 k l i) r := by
        intro r H
        refine Ev.step (fun _ => spec_StoreOK.l0.eq_2 ..) (ev_pos (by omega) (ev_pos (by omega) ?_))
        rw [rdBox l i hlt, w64n (by omega), Int.toNat_natCast]
        exact Ev.bind b1 H
      have inI : ∀ r, Ev (fun k => if b = true then (if l[i].f1 = ((i + 1 : Nat) : Int) then ((impl_boxIndex.f l l[i].f0).bind fun t308 => (if t308 = (i : Int) then (impl_StoreOK.l0 k l l (l.length : Int) ((i + 1 : Nat) : Int)) else (some false))) else (some false)) else (some false)) r → Ev (fun k => impl_StoreOK.l0 k l l (l.length : Int) i) r := by
        intro r H
        refine Ev.step (fun _ => impl_StoreOK.l0.eq_2 ..) (ev_pos (by omega) (ev_pos (by omega) (ev_pos (by omega) ?_)))
        rw [rdBox l i hlt, w64n (by omega)]
        exact Ev.bind b2 H
      cases b with
      | false => exact ⟨false, inS _ (ev_neg (by simp) (ev_some rfl)), inI _ (ev_neg (by simp) (ev_some rfl))⟩
      | true =>
        by_cases hv : l[i].f1 = ((i + 1 : Nat) : Int)
        · obtain ⟨r, r1, r2⟩ := ih (i + 1) (by omega)
          rcases idxN_take l[i].f0 l i 0 (by omega) hlt hlt rfl with ⟨a, c⟩ | ⟨a, c⟩
          · exact ⟨false, inS _ (ev_pos rfl (ev_pos hv (ev_pos (by omega) (Ev.bind hF (ev_pos a (ev_some rfl)))))), inI _ (ev_pos rfl (ev_pos hv (ev_bindc hI (ev_neg (by omega) (ev_some rfl)))))⟩
          · exact ⟨r, inS _ (ev_pos rfl (ev_pos hv (ev_pos (by omega) (Ev.bind hF (ev_neg (by omega) r1))))), inI _ (ev_pos rfl (ev_pos hv (ev_bindc hI (ev_pos (by omega) r2))))⟩
        · exact ⟨false, inS _ (ev_pos rfl (ev_neg hv (ev_some rfl))), inI _ (ev_pos rfl (ev_neg hv (ev_some rfl)))⟩
  obtain ⟨r, r1, r2⟩ := loop l.length 0 (by omega)
  exact ⟨r, ev_neg (by omega) (ev_neg h4 r1), ev_neg h4 r2, fun _ => by omega⟩
end Go.Proofs.YtifkmkiljpeaaacGreat.PFnExactWorldOK
