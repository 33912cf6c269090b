/- Texts laid together: YtifkmkiljpeaaadGreatLCom, YtifkmkiljpeaaadGreatLComR, YtifkmkiljpeaaadGreatLComL, YtifkmkiljpeaaadGreatLComM. -/
import Derived.Test.YtifkmkiljpeaaadGreatPFnExactCommitxA
import Derived.Test.YtifkmkiljpeaaadGreatPFnExactCommitxB
import Derived.Test.YtifkmkiljpeaaadGreatPFnExactCommitxC
import Derived.Test.YtifkmkiljpeaaadGreatPFnExactCommitxD
import Derived.Test.YtifkmkiljpeaaadGreatPFnExactCommitxE
import Derived.Test.YtifkmkiljpeaaadGreatPFnExactCommitxI
import Derived.Test.YtifkmkiljpeaaadGreatPFnExactCommitxJ
import Derived.Test.YtifkmkiljpeaaadGreatPFnExactCommitxF
import Derived.Test.YtifkmkiljpeaaadGreatOwnB
section
set_option linter.unusedVariables false
set_option linter.unusedSimpArgs false
namespace Go.Proofs.YtifkmkiljpeaaadGreat.PFnExactCommit
open Go.RowKit Go.Proofs.YtifkmkiljpeaaadGreatW.PrintWords
theorem within_f (a b c : Int) : da.f a b c = some (inB a b c) := by
  unfold da.f inB
  by_cases h : a ≥ b
  · rw [if_pos h, decide_eq_true (by omega : b <= a)]; rfl
  rw [if_neg h, decide_eq_false (by omega : ¬ b <= a)]; rfl
theorem l01In_f (a b c : Int) : cf.f a b c = some (inB a b c) := by
  unfold cf.f inB
  by_cases h : a ≥ b
  · rw [if_pos h, decide_eq_true (by omega : b <= a)]; rfl
  rw [if_neg h, decide_eq_false (by omega : ¬ b <= a)]; rfl
def letS (c : UInt8) : Bool := (decide (97 <= c.toNat) && decide (c.toNat <= 122)) || (decide (65 <= c.toNat) && decide (c.toNat <= 90)) || decide (c.toNat = 95)
def letA (c : UInt8) : Bool := (decide (97 <= c.toNat) && decide (c.toNat <= 122)) || (decide (65 <= c.toNat) && decide (c.toNat <= 90))
def wordC (c : UInt8) : Bool := letS c || isD c
theorem letS_f (c : UInt8) : fw.f (c.toNat : Int) = some (letS c) := by
  unfold fw.f letS
  have h5 : (((c.toNat : Int) == 95) : Bool) = decide (c.toNat = 95) := by rw [Bool.eq_iff_iff]; simp; omega
  rw [h5]
  by_cases h1 : 97 <= c.toNat
  · rw [if_pos (by omega), decide_eq_true h1]
    by_cases h2 : c.toNat <= 122
    · rw [if_pos (by omega), decide_eq_true h2]; rfl
    rw [if_neg (by omega), decide_eq_false h2]
    rw [if_pos (by omega), if_neg (by omega), decide_eq_false (by omega : ¬ c.toNat <= 90)]
    simp
  rw [if_neg (by omega), decide_eq_false h1]
  by_cases h3 : 65 <= c.toNat
  · rw [if_pos (by omega), decide_eq_true h3]
    by_cases h4 : c.toNat <= 90
    · rw [if_pos (by omega), decide_eq_true h4]; rfl
    rw [if_neg (by omega), decide_eq_false h4]; simp
  rw [if_neg (by omega), decide_eq_false h3]; simp
theorem letA_f (c : UInt8) : gn.f (c.toNat : Int) = some (letA c) := by
  unfold gn.f letA
  by_cases h1 : 97 <= c.toNat
  · rw [if_pos (by omega), decide_eq_true h1]
    by_cases h2 : c.toNat <= 122
    · rw [if_pos (by omega), decide_eq_true h2]; rfl
    rw [if_neg (by omega), decide_eq_false h2]
    rw [if_pos (by omega), decide_eq_false (by omega : ¬ (c.toNat : Int) <= 90), decide_eq_false (by omega : ¬ c.toNat <= 90)]
    simp
  rw [if_neg (by omega), decide_eq_false h1]
  by_cases h3 : 65 <= c.toNat
  · rw [if_pos (by omega), decide_eq_true h3]
    have : decide ((c.toNat : Int) <= 90) = decide (c.toNat <= 90) := by rw [Bool.eq_iff_iff]; simp; omega
    rw [this]; simp
  rw [if_neg (by omega), decide_eq_false h3]; simp
theorem digS_f (c : UInt8) : spec_l00Digit.f (c.toNat : Int) = some (isD c) := by
  unfold spec_l00Digit.f isD
  by_cases h : 48 <= c.toNat
  · rw [if_pos (by omega), decide_eq_true h]; simp; omega
  rw [if_neg (by omega), decide_eq_false h]; rfl
theorem digI_f (c : UInt8) : gw.f (c.toNat : Int) = some (isD c) := by
  unfold gw.f isD
  by_cases h : 48 <= c.toNat
  · rw [if_pos (by omega), decide_eq_true h]; simp; omega
  rw [if_neg (by omega), decide_eq_false h]; rfl
def nameB (l : Bytes) : Bool := decide (1 <= l.length) && decide (l.length <= 40) && (match l with | [] => false | c :: r => letS c && r.all wordC)
theorem nameS_l0 (l : Bytes) (hl : l.length <= 1099511627776) : ∀ (m i : Nat), i + m = l.length -> Ev (fun k => dh.l0 k (bs l) i) ((l.drop i).all wordC) := by
  intro m
  induction m with
  | zero => intro i hi; rw [List.drop_of_length_le (by omega)]; exact Ev.step (fun _ => dh.l0.eq_2 ..) (bv (by rw [ee]; omega) (bq rfl))
  | succ m ih =>
    intro i hi
    have hlt : i < l.length := by omega
    refine Ev.step (fun _ => dh.l0.eq_2 ..) (bp (by rw [ee]; omega) (bp (by omega) ?_))
    rw [bt_bs l i hlt, drop_cons l i hlt, List.all_cons, w64n (by omega)]
    refine cj (letS_f _) ?_
    cases h1 : letS l[i] with
    | true => rw [wordC, h1]; exact bp rfl (ih (i + 1) (by omega))
    | false =>
      refine bv (by simp) (cj (digS_f _) ?_)
      cases h2 : isD l[i] with
      | true => rw [wordC, h1, h2]; exact bp rfl (ih (i + 1) (by omega))
      | false => rw [wordC, h1, h2]; exact bv (by simp) (bq rfl)
theorem nameI_l0 (l : Bytes) (hl : l.length <= 1099511627776) : ∀ (m i : Nat), i + m = l.length -> Ev (fun k => cw.l0 k (bs l) (l.length : Int) i) ((l.drop i).all wordC) := by
  intro m
  induction m with
  | zero => intro i hi; rw [List.drop_of_length_le (by omega)]; exact Ev.step (fun _ => cw.l0.eq_2 ..) (bv (by omega) (bq rfl))
  | succ m ih =>
    intro i hi
    have hlt : i < l.length := by omega
    have hS : letS l[i] = (letA l[i] || decide ((l[i]).toNat = 95)) := rfl
    refine Ev.step (fun _ => cw.l0.eq_2 ..) (bp (by omega) (bp (by omega) (bp (by rw [ee]; omega) ?_)))
    rw [bt_bs l i hlt, drop_cons l i hlt, List.all_cons, w64n (by omega)]
    refine cj (letA_f _) ?_
    cases h1 : letA l[i] with
    | true => rw [wordC, hS, h1]; exact bp rfl (ih (i + 1) (by omega))
    | false =>
      refine bv (by simp) (cj (digI_f _) ?_)
      cases h2 : isD l[i] with
      | true => rw [wordC, h2, Bool.or_true]; exact bp rfl (ih (i + 1) (by omega))
      | false =>
        refine bv (by simp) ?_
        by_cases h3 : (l[i]).toNat = 95
        · rw [wordC, hS, h1, h2, decide_eq_true h3]; exact bp (by omega) (ih (i + 1) (by omega))
        rw [wordC, hS, h1, h2, decide_eq_false h3]; exact bv (by omega) (bq rfl)
theorem nameS_ev (t : ByteArray) (ht : t.size <= 1099511627776) : Ev (fun k => fq.f k t) (nameB t.data.toList) := by
  obtain ⟨l, rfl⟩ := bs_ex t
  rw [bs_data]
  rw [ee] at ht
  unfold fq.f
  refine Ev.bind (r := nameB l) ?_ (bq rfl)
  unfold dh.f nameB
  rw [ee]
  have bad : Ev (fun k => dh.j0 k (bs l) true) false := Ev.step (fun _ => dh.j0.eq_2 ..) (bp rfl (bq rfl))
  cases l with
  | nil => exact bp (by simp) bad
  | cons c r =>
    refine bv (by first | (simp; done) | (simp; omega)) ?_
    rw [decide_eq_true (by simp : 1 <= (c :: r).length), Bool.true_and]
    by_cases h2 : (c :: r).length <= 40
    · rw [decide_eq_true h2, Bool.true_and]
      refine bv (by omega) (bp (by first | (simp; done) | (simp; omega)) ?_)
      rw [bt_zero (c :: r) (by simp)]
      refine cj (letS_f _) ?_
      show Ev (fun k => dh.j0 k (bs (c :: r)) (!letS c)) (letS c && r.all wordC)
      cases h3 : letS c with
      | true => exact Ev.step (fun _ => dh.j0.eq_2 ..) (bv (by simp) (nameS_l0 (c :: r) ht r.length 1 (by first | (simp; done) | (simp; omega))))
      | false => exact bad
    rw [decide_eq_false h2, Bool.false_and]
    exact bp (by omega) bad
theorem nameI_ev (t : ByteArray) (ht : t.size <= 1099511627776) : Ev (fun k => cw.f k t) (nameB t.data.toList) := by
  obtain ⟨l, rfl⟩ := bs_ex t
  rw [bs_data]
  rw [ee] at ht
  unfold cw.f nameB
  rw [ee]
  have bad : Ev (fun k => cw.j0 k (bs l) true) false := Ev.step (fun _ => cw.j0.eq_2 ..) (bp rfl (bq rfl))
  refine cj (within_f _ _ _) ?_
  cases l with
  | nil => exact bv (by simp [inB]) bad
  | cons c r =>
    rw [decide_eq_true (by simp : 1 <= (c :: r).length), Bool.true_and]
    by_cases h2 : (c :: r).length <= 40
    · rw [decide_eq_true h2, Bool.true_and]
      refine bp (by unfold inB; rw [decide_eq_true (by first | (simp; done) | (simp; omega)), decide_eq_true (by omega)]; rfl) (bp (by first | (simp; done) | (simp; omega)) ?_)
      rw [bt_zero (c :: r) (by simp)]
      refine cj (digI_f _) ?_
      show Ev (fun k => cw.j0 k (bs (c :: r)) (isD c)) (letS c && r.all wordC)
      cases h3 : isD c with
      | true =>
        have : letS c = false := by rw [isD_iff] at h3; unfold letS; simp; omega
        rw [this]; exact bad
      | false =>
        refine Ev.step (fun _ => cw.j0.eq_2 ..) (bv (by simp) ?_)
        rw [ee]
        have := nameI_l0 (c :: r) ht (c :: r).length 0 (by omega)
        rw [List.drop_zero, List.all_cons, wordC, h3, Bool.or_false] at this
        exact this
    rw [decide_eq_false h2, Bool.false_and]
    exact bv (by unfold inB; rw [decide_eq_false (by omega : ¬ ((c :: r).length : Int) <= 40)]; simp) bad
def riseB : Int -> List S113 -> Prop
  | _, [] => True
  | b, m :: r => b < m.f0 /\ m.f0 <= 1000 /\ riseB m.f0 r
theorem rd67 (l : List S113) (i : Nat) (h : i < l.length) : ar l (i : Int) = l[i] := by
  unfold ar; simp [List.getD, List.getElem?_eq_getElem h]
theorem keys_both (n : ByteArray) (v x : Int) (ms : List S113) (l : List ByteArray) (hl : l.length <= 60) : ∀ (m i : Nat), i + m = l.length ->
    ∃ r, Ev (fun k => bw.l1 k i n v x ms l) r /\ Ev (fun k => cg.l1 k l (l.length : Int) i n v x ms l) r := by
  intro m
  induction m with
  | zero =>
    intro i hi
    exact ⟨true, Ev.step (fun _ => bw.l1.eq_2 ..) (bv (by omega) (bq rfl)), Ev.step (fun _ => cg.l1.eq_2 ..) (bv (by omega) (bq rfl))⟩
  | succ m ih =>
    intro i hi
    have hlt : i < l.length := by omega
    have hS := hasS_ev (l.take i) l[i] (by rw [List.length_take]; omega)
    have hI := hasI_ev (l.take i) l[i] (by rw [List.length_take]; omega)
    have hk : ∀ t : ByteArray, impl_keyOK.f t = some (inB (t.size : Int) 1 200) := by intro t; unfold impl_keyOK.f; rw [within_f]; rfl
    have inS : ∀ r, Ev (fun k => if inB ((l[i]).size : Int) 1 200 = true then (if (i : Int) <= (l.length : Int) then ((ev.f k (l.take i) l[i]).bind fun t127 => (if t127 = true then (some false) else (bw.l1 k ((i + 1 : Nat) : Int) n v x ms l))) else (none)) else (some false)) r -> Ev (fun k => bw.l1 k i n v x ms l) r := by
      intro r H
      refine Ev.step (fun _ => bw.l1.eq_2 ..) (bp (by omega) (bp (by omega) ?_))
      rw [rdOf_nat _ l i hlt, w64n (by omega), Int.toNat_natCast]
      exact cj (l01In_f _ _ _) H
    have inI : ∀ r, Ev (fun k => if inB ((l[i]).size : Int) 1 200 = true then (if (i : Int) <= (l.length : Int) then ((dc.f k (l.take i) l[i]).bind fun t214 => (if t214 = true then (some false) else (cg.l1 k l (l.length : Int) ((i + 1 : Nat) : Int) n v x ms l))) else (none)) else (some false)) r -> Ev (fun k => cg.l1 k l (l.length : Int) i n v x ms l) r := by
      intro r H
      refine Ev.step (fun _ => cg.l1.eq_2 ..) (bp (by omega) (bp (by omega) (bp (by omega) ?_)))
      rw [rdOf_nat _ l i hlt, w64n (by omega), Int.toNat_natCast]
      exact cj (hk _) H
    cases h1 : inB ((l[i]).size : Int) 1 200 with
    | false => rw [h1] at inS inI; exact ⟨false, inS _ (bv (by simp) (bq rfl)), inI _ (bv (by simp) (bq rfl))⟩
    | true =>
      rw [h1] at inS inI
      cases h2 : hasB (l.take i) l[i] with
      | true => rw [h2] at hS hI; exact ⟨false, inS _ (bp rfl (bp (by omega) (Ev.bind hS (bp rfl (bq rfl))))), inI _ (bp rfl (bp (by omega) (Ev.bind hI (bp rfl (bq rfl)))))⟩
      | false =>
        rw [h2] at hS hI
        obtain ⟨r, r1, r2⟩ := ih (i + 1) (by omega)
        exact ⟨r, inS _ (bp rfl (bp (by omega) (Ev.bind hS (bv (by simp) r1)))), inI _ (bp rfl (bp (by omega) (Ev.bind hI (bv (by simp) r2))))⟩
theorem inB_true {a b c : Int} : inB a b c = true ↔ b <= a /\ a <= c := by simp [inB]
theorem inB_false {a b c : Int} : inB a b c = false ↔ a < b ∨ c < a := by rw [← Bool.not_eq_true, inB_true]; omega
theorem mails_both (n : ByteArray) (v x : Int) (hx : 1 <= x /\ x <= 1001) (l : List S113) (ks : List ByteArray) (hk : ks.length <= 60) (hl : l.length <= 30) : ∀ (m i : Nat) (b : Int) (hi : i + m = l.length), 0 <= b -> b <= 1000 -> (∀ h : 0 < i, b = (l[i - 1]'(by omega)).f0 ) -> (i = 0 -> b = 0) ->
    ∃ r, Ev (fun k => bw.l0 k i n v x l ks) r /\ Ev (fun k => cg.l0 k b l (l.length : Int) i n v x l ks) r /\ (r = true -> riseB b (l.drop i)) := by
  intro m
  induction m with
  | zero =>
    intro i b hi h0 h1 hb hz
    obtain ⟨r, r1, r2⟩ := keys_both n v x l ks hk ks.length 0 (by omega)
    refine ⟨r, Ev.step (fun _ => bw.l0.eq_2 ..) (bv (by omega) r1), Ev.step (fun _ => cg.l0.eq_2 ..) (bv (by omega) r2), fun _ => ?_⟩
    rw [List.drop_of_length_le (by omega)]; trivial
  | succ m ih =>
    intro i b hi h0 h1 hb hz
    have hlt : i < l.length := by omega
    have hx1 : wrap64 (x - 1) = x - 1 := w64 (by omega) (by omega)
    rw [List.drop_eq_getElem_cons hlt]
    have inI : ∀ r, Ev (fun k => if inB (l[i]).f0 (b + 1) (x - 1) = true then ((da.f (l[i]).f1 0 31).bind fun t210 => (if t210 = true then (if ((l[i]).f2.size : Int) > 4000 then (some false) else (cg.l0 k (l[i]).f0 l (l.length : Int) ((i + 1 : Nat) : Int) n v x l ks)) else (some false))) else (some false)) r -> Ev (fun k => cg.l0 k b l (l.length : Int) i n v x l ks) r := by
      intro r H
      refine Ev.step (fun _ => cg.l0.eq_2 ..) (bp (by omega) (bp (by omega) (bp (by omega) ?_)))
      rw [rd67 l i hlt, w64n (by omega), hx1, w64 (x := b + 1) (by omega) (by omega)]
      exact cj (within_f _ _ _) H
    have tailS : ∀ r, Ev (fun k => (cf.f (l[i]).f1 0 31).bind fun t121 => (if t121 = true then (if ((l[i]).f2.size : Int) > 4000 then (some false) else (bw.l0 k ((i + 1 : Nat) : Int) n v x l ks)) else (some false))) r -> b < (l[i]).f0 -> (l[i]).f0 <= x - 1 -> Ev (fun k => bw.l0 k i n v x l ks) r := by
      intro r H hlo hhi
      refine Ev.step (fun _ => bw.l0.eq_2 ..) (bp (by omega) (bp (by omega) ?_))
      rw [rd67 l i hlt, w64n (by omega), hx1]
      refine cj (l01In_f _ _ _) (bp (inB_true.mpr ⟨by omega, hhi⟩) ?_)
      by_cases hi0 : 0 < i
      · have e1 : wrap64 ((i : Int) - 1) = ((i - 1 : Nat) : Int) := by rw [w64 (by omega) (by omega)]; omega
        rw [e1, rd67 l (i - 1) (by omega), ← hb hi0]
        exact bp (by omega) (bp (by omega) (bp (by omega) (bv (by omega) H)))
      exact bv (by omega) H
    have badS : (¬ (b < (l[i]).f0) ∨ ¬ (l[i]).f0 <= x - 1) -> Ev (fun k => bw.l0 k i n v x l ks) false := by
      intro hbad
      refine Ev.step (fun _ => bw.l0.eq_2 ..) (bp (by omega) (bp (by omega) ?_))
      rw [rd67 l i hlt, w64n (by omega), hx1]
      refine cj (l01In_f _ _ _) ?_
      cases hin : inB (l[i]).f0 1 (x - 1) with
      | false => exact bv (by simp) (bq rfl)
      | true =>
        obtain ⟨q1, q2⟩ := inB_true.mp hin
        refine bp rfl ?_
        have hi0 : 0 < i := by
          rcases Nat.eq_zero_or_pos i with h | h
          · have := hz h; omega
          exact h
        have e1 : wrap64 ((i : Int) - 1) = ((i - 1 : Nat) : Int) := by rw [w64 (by omega) (by omega)]; omega
        rw [e1, rd67 l (i - 1) (by omega), ← hb hi0]
        exact bp (by omega) (bp (by omega) (bp (by omega) (bp (by omega) (bq rfl))))
    cases hin : inB (l[i]).f0 (b + 1) (x - 1) with
    | false =>
      rw [hin] at inI
      have := inB_false.mp hin
      exact ⟨false, badS (by omega), inI _ (bv (by simp) (bq rfl)), fun h => by cases h⟩
    | true =>
      rw [hin] at inI
      obtain ⟨q1, q2⟩ := inB_true.mp hin
      cases hf : inB (l[i]).f1 0 31 with
      | false =>
        exact ⟨false, tailS _ (cj (l01In_f _ _ _) (bv (by rw [hf]; simp) (bq rfl))) (by omega) q2, inI _ (bp rfl (cj (within_f _ _ _) (bv (by rw [hf]; simp) (bq rfl)))), fun h => by cases h⟩
      | true =>
        by_cases ht : ((l[i]).f2.size : Int) > 4000
        · exact ⟨false, tailS _ (cj (l01In_f _ _ _) (bp hf (bp ht (bq rfl)))) (by omega) q2, inI _ (bp rfl (cj (within_f _ _ _) (bp hf (bp ht (bq rfl))))), fun h => by cases h⟩
        obtain ⟨r, r1, r2, r3⟩ := ih (i + 1) (l[i]).f0 (by omega) (by omega) (by omega) (fun _ => rfl) (by omega)
        exact ⟨r, tailS _ (cj (l01In_f _ _ _) (bp hf (bv ht r1))) (by omega) q2, inI _ (bp rfl (cj (within_f _ _ _) (bp hf (bv ht r2)))), fun h => ⟨by omega, by omega, r3 h⟩⟩
theorem box_both (n : ByteArray) (v x : Int) (l : List S113) (ks : List ByteArray) (hn : n.size <= 1099511627776) : ∃ r, Ev (fun k => bw.f k n v x l ks) r /\ Ev (fun k => cg.f k n v x l ks) r /\ (r = true -> riseB 0 l /\ l.length <= 30) := by
  unfold bw.f cg.f
  have bS : Ev (fun k => bw.j0 k true n v x l ks) false := Ev.step (fun _ => bw.j0.eq_2 ..) (bp rfl (bq rfl))
  have bI : Ev (fun k => cg.j0 k true n v x l ks) false := Ev.step (fun _ => cg.j0.eq_2 ..) (bp rfl (bq rfl))
  have bI1 : Ev (fun k => cg.j1 k true n v x l ks) false := Ev.step (fun _ => cg.j1.eq_2 ..) (bp rfl (bq rfl))
  have hS := nameS_ev n hn
  have hI := nameI_ev n hn
  cases h1 : nameB n.data.toList with
  | false => rw [h1] at hS hI; exact ⟨false, Ev.bind hS (bv (by simp) bS), Ev.bind hI (bv (by simp) bI), fun h => by cases h⟩
  | true =>
    rw [h1] at hS hI
    cases h2 : inB v 1 1000000 with
    | false => exact ⟨false, Ev.bind hS (bp rfl (cj (l01In_f _ _ _) (bv (by rw [h2]; simp) bS))), Ev.bind hI (bp rfl (cj (within_f _ _ _) (bv (by rw [h2]; simp) bI))), fun h => by cases h⟩
    | true =>
      cases h3 : inB x 1 1001 with
      | false =>
        refine ⟨false, Ev.bind hS (bp rfl (cj (l01In_f _ _ _) (bp h2 (cj (l01In_f _ _ _) (bv (by rw [h3]; simp) bS))))), Ev.bind hI (bp rfl (cj (within_f _ _ _) (bp h2 (cj (within_f _ _ _) ?_)))), fun h => by cases h⟩
        rw [h3]; exact bI
      | true =>
        have hx := inB_true.mp h3
        have hx1 : wrap64 (x - 1) = x - 1 := w64 (by omega) (by omega)
        have goS : ∀ r, Ev (fun k => if (l.length : Int) > 30 then (bw.j0 k true n v x l ks) else (if (ks.length : Int) > 60 then (bw.j0 k true n v x l ks) else (bw.j0 k ((ks.length : Int) != (x - 1)) n v x l ks))) r -> Ev (fun k => (fq.f k n).bind fun t114 => (if t114 = true then ((cf.f v 1 1000000).bind fun t115 => (if t115 = true then ((cf.f x 1 1001).bind fun t116 => (if t116 = true then (if (l.length : Int) > 30 then (bw.j0 k true n v x l ks) else (if (ks.length : Int) > 60 then (bw.j0 k true n v x l ks) else (bw.j0 k ((ks.length : Int) != (wrap64 (x - 1))) n v x l ks))) else (bw.j0 k true n v x l ks))) else (bw.j0 k true n v x l ks))) else (bw.j0 k true n v x l ks))) r := by
          intro r H
          rw [hx1]
          exact Ev.bind hS (bp rfl (cj (l01In_f _ _ _) (bp h2 (cj (l01In_f _ _ _) (bp h3 H)))))
        have goI : ∀ r, Ev (fun k => if (l.length : Int) > 30 then (cg.j1 k true n v x l ks) else (if (ks.length : Int) > 60 then (cg.j1 k true n v x l ks) else (cg.j1 k ((ks.length : Int) != (x - 1)) n v x l ks))) r -> Ev (fun k => (cw.f k n).bind fun t204 => (if t204 = true then ((da.f v 1 1000000).bind fun t205 => (if t205 = true then ((da.f x 1 1001).bind fun t206 => (cg.j0 k (!t206) n v x l ks)) else (cg.j0 k true n v x l ks))) else (cg.j0 k true n v x l ks))) r := by
          intro r H
          refine Ev.bind hI (bp rfl (cj (within_f _ _ _) (bp h2 (cj (within_f _ _ _) ?_))))
          rw [h3]
          refine Ev.step (fun _ => cg.j0.eq_2 ..) (bv (by simp) ?_)
          rw [hx1]; exact H
        by_cases h4 : (l.length : Int) > 30
        · exact ⟨false, goS _ (bp h4 bS), goI _ (bp h4 bI1), fun h => by cases h⟩
        by_cases h5 : (ks.length : Int) > 60
        · exact ⟨false, goS _ (bv h4 (bp h5 bS)), goI _ (bv h4 (bp h5 bI1)), fun h => by cases h⟩
        cases h6 : ((ks.length : Int) != (x - 1)) with
        | true => rw [h6] at goS goI; exact ⟨false, goS _ (bv h4 (bv h5 bS)), goI _ (bv h4 (bv h5 bI1)), fun h => by cases h⟩
        | false =>
          rw [h6] at goS goI
          obtain ⟨r, r1, r2, r3⟩ := mails_both n v x hx l ks (by omega) (by omega) l.length 0 0 (by omega) (by omega) (by omega) (fun h => by omega) (fun _ => rfl)
          refine ⟨r, goS _ (bv h4 (bv h5 (Ev.step (fun _ => bw.j0.eq_2 ..) (bv (by simp) r1)))), goI _ (bv h4 (bv h5 (Ev.step (fun _ => cg.j1.eq_2 ..) (bv (by simp) r2)))), fun h => ⟨?_, by omega⟩⟩
          have := r3 h
          rwa [List.drop_zero] at this
theorem findS_take (l : List S82) (hl : l.length <= 1048576) (i : Nat) (u : ByteArray) : Ev (fun k => dq.f k (l.take i) u) (idxN u (l.take i) 0) := by
  have loop : ∀ (q : List S82), q.length <= 1048576 -> ∀ (m i : Nat), i + m = q.length -> Ev (fun k => dq.l0 k q u i) (idxN u (q.drop i) i) := by
    intro q hq m
    induction m with
    | zero => intro i hi; rw [List.drop_of_length_le (by omega)]; exact Ev.step (fun _ => dq.l0.eq_2 ..) (bv (by omega) (bq rfl))
    | succ m ih =>
      intro i hi
      have hlt : i < q.length := by omega
      refine Ev.step (fun _ => dq.l0.eq_2 ..) (bp (by omega) (bp (by omega) ?_))
      rw [idxN_drop u q i hlt, w64n (by omega)]
      by_cases h : (ax q (i : Int)).f0.toList = u.toList
      · rw [if_pos h]; exact bp h (bq rfl)
      rw [if_neg h]; exact bv h (ih (i + 1) (by omega))
  have hq : (l.take i).length <= 1048576 := by rw [List.length_take]; omega
  unfold dq.f
  have := loop (l.take i) hq (l.take i).length 0 (by omega)
  rwa [List.drop_zero] at this
theorem idxN_take (u : ByteArray) : ∀ (l : List S82) (i : Nat) (j : Int), 0 <= j -> i < l.length -> (h : i < l.length) -> l[i].f0 = u -> (0 <= idxN u (l.take i) j /\ idxN u l j ≠ j + i) ∨ (idxN u (l.take i) j < 0 /\ idxN u l j = j + i)
  | [], i, j, _, h, _, _ => by simp at h
  | m :: r, 0, j, hj, _, h, e => by
    refine .inr ⟨by simp [idxN], ?_⟩
    unfold idxN
    simp at e
    rw [if_pos (by rw [e])]; simp
  | m :: r, i + 1, j, hj, h1, h, e => by
    rw [List.take_succ_cons]
    unfold idxN
    by_cases hm : m.f0.toList = u.toList
    · rw [if_pos hm, if_pos hm]; exact .inl ⟨hj, by omega⟩
    rw [if_neg hm, if_neg hm]
    rcases idxN_take u r i (j + 1) (by omega) (by simpa using h) (by simpa using h) (by simpa using e) with ⟨a, b⟩ | ⟨a, b⟩
    · exact .inl ⟨a, by omega⟩
    exact .inr ⟨a, by omega⟩
def SmallS (l : List S82) : Prop := l.length <= 4 /\ ∀ b ∈ l, b.f3.length <= 30 /\ b.f4.length <= 60
theorem store_both (l : List S82) (hn : ∀ b ∈ l, b.f0.size <= 1099511627776) : ∃ r, Ev (fun k => cy.f k l) r /\ Ev (fun k => eu.f k l) r /\ (r = true -> l.length <= 4) := by
  unfold cy.f eu.f
  by_cases h4 : (l.length : Int) > 4
  · refine ⟨false, ?_, bp h4 (bq rfl), fun h => by cases h⟩
    by_cases h5 : (l.length : Int) > 4096
    · exact bp h5 (bq rfl)
    exact bv h5 (bp h4 (bq rfl))
  have loop : ∀ (m i : Nat), i + m = l.length -> ∃ r, Ev (fun k => cy.l0 k l i) r /\ Ev (fun k => eu.l0 k l l (l.length : Int) i) r := by
    intro m
    induction m with
    | zero => intro i hi; exact ⟨true, Ev.step (fun _ => cy.l0.eq_2 ..) (bv (by omega) (bq rfl)), Ev.step (fun _ => eu.l0.eq_2 ..) (bv (by omega) (bq rfl))⟩
    | succ m ih =>
      intro i hi
      have hlt : i < l.length := by omega
      obtain ⟨b, b1, b2, -⟩ := box_both l[i].f0 l[i].f1 l[i].f2 l[i].f3 l[i].f4 (hn _ (List.getElem_mem hlt))
      have hF := findS_take l (by omega) i l[i].f0
      have hI : gp.f l l[i].f0 = some (idxN l[i].f0 l 0) := by unfold gp.f; rw [if_pos (by omega)]
      have inS : ∀ r, Ev (fun k => if b = true then (if l[i].f1 = ((i + 1 : Nat) : Int) then (if (i : Int) <= (l.length : Int) then ((dq.f k (l.take i) l[i].f0).bind fun t146 => (if t146 ≥ 0 then (some false) else (cy.l0 k l ((i + 1 : Nat) : Int)))) else (none)) else (some false)) else (some false)) r -> Ev (fun k => cy.l0 k l i) r := by
        intro r H
        refine Ev.step (fun _ => cy.l0.eq_2 ..) (bp (by omega) (bp (by omega) ?_))
        rw [rdBox l i hlt, w64n (by omega), Int.toNat_natCast]
        exact Ev.bind b1 H
      have inI : ∀ r, Ev (fun k => if b = true then (if l[i].f1 = ((i + 1 : Nat) : Int) then ((gp.f l l[i].f0).bind fun t308 => (if t308 = (i : Int) then (eu.l0 k l l (l.length : Int) ((i + 1 : Nat) : Int)) else (some false))) else (some false)) else (some false)) r -> Ev (fun k => eu.l0 k l l (l.length : Int) i) r := by
        intro r H
        refine Ev.step (fun _ => eu.l0.eq_2 ..) (bp (by omega) (bp (by omega) (bp (by omega) ?_)))
        rw [rdBox l i hlt, w64n (by omega)]
        exact Ev.bind b2 H
      cases b with
      | false => exact ⟨false, inS _ (bv (by simp) (bq rfl)), inI _ (bv (by simp) (bq rfl))⟩
      | true =>
        by_cases hv : l[i].f1 = ((i + 1 : Nat) : Int)
        · obtain ⟨r, r1, r2⟩ := ih (i + 1) (by omega)
          rcases idxN_take l[i].f0 l i 0 (by omega) hlt hlt rfl with ⟨a, c⟩ | ⟨a, c⟩
          · exact ⟨false, inS _ (bp rfl (bp hv (bp (by omega) (Ev.bind hF (bp a (bq rfl)))))), inI _ (bp rfl (bp hv (cj hI (bv (by omega) (bq rfl)))))⟩
          exact ⟨r, inS _ (bp rfl (bp hv (bp (by omega) (Ev.bind hF (bv (by omega) r1))))), inI _ (bp rfl (bp hv (cj hI (bp (by omega) r2))))⟩
        exact ⟨false, inS _ (bp rfl (bv hv (bq rfl))), inI _ (bp rfl (bv hv (bq rfl)))⟩
  obtain ⟨r, r1, r2⟩ := loop l.length 0 (by omega)
  exact ⟨r, bv (by omega) (bv h4 r1), bv h4 r2, fun _ => by omega⟩
end Go.Proofs.YtifkmkiljpeaaadGreat.PFnExactCommit
end
section
set_option linter.unusedVariables false
set_option linter.unusedSimpArgs false
namespace Go.Proofs.YtifkmkiljpeaaadGreat.PFnExactCommit
open Go.RowKit Go.Proofs.YtifkmkiljpeaaadGreatW.PrintWords
theorem numL3 (l : Bytes) (h : l.length <= 3) : ff l < 16777216 := Nat.lt_of_lt_of_le (numL_lt l) (Nat.pow_le_pow_right (by decide) h : 256 ^ l.length <= 256 ^ 3)
theorem numS_ev (l : Bytes) (h : l.length <= 3) : Ev (fun k => cr.f k (bs l)) (ff l : Int) := by
  have loop : ∀ (m i : Nat), i + m = l.length -> Ev (fun k => cr.l0 k (bs l) (ff (l.take i) : Int) i) (ff l : Int) := by
    intro m
    induction m with
    | zero => intro i hi; rw [List.take_of_length_le (by omega)]; exact Ev.step (fun _ => cr.l0.eq_2 ..) (bv (by rw [ee]; omega) (bq rfl))
    | succ m ih =>
      intro i hi
      have hlt : i < l.length := by omega
      have h3 := numL3 (l.take i) (by rw [List.length_take]; omega)
      have hc := (l[i]).toNat_lt
      refine Ev.step (fun _ => cr.l0.eq_2 ..) (bp (by rw [ee]; omega) (bp (by omega) ?_))
      have e := numL_snoc l i hlt
      rw [bt_bs l i hlt, w64n (by omega), w64 (x := (ff (l.take i) : Int) * 256) (by omega) (by omega), w64 (x := ((l[i]).toNat : Int)) (by omega) (by omega), w64 (by omega) (by omega)]
      have := ih (i + 1) (by omega)
      rw [e] at this
      rw [show ((ff (l.take i) : Int) * 256 + ((l[i]).toNat : Int)) = ((ff (l.take i) * 256 + (l[i]).toNat : Nat) : Int) by omega]
      exact this
  unfold cr.f
  exact loop l.length 0 (by omega)
theorem numI_ev (l : Bytes) (h : l.length <= 3) : Ev (fun k => ez.f k (bs l)) (ff l : Int) := by
  have loop : ∀ (m i : Nat), i + m = l.length -> Ev (fun k => ez.l0 k (bs l) (ff (l.take i) : Int) (l.length : Int) i) (ff l : Int) := by
    intro m
    induction m with
    | zero => intro i hi; rw [List.take_of_length_le (by omega)]; exact Ev.step (fun _ => ez.l0.eq_2 ..) (bv (by omega) (bq rfl))
    | succ m ih =>
      intro i hi
      have hlt : i < l.length := by omega
      have h3 := numL3 (l.take i) (by rw [List.length_take]; omega)
      have hc := (l[i]).toNat_lt
      refine Ev.step (fun _ => ez.l0.eq_2 ..) (bp (by omega) (bp (by omega) (bp (by rw [ee]; omega) ?_)))
      have e := numL_snoc l i hlt
      have := ih (i + 1) (by omega)
      rw [e] at this
      generalize ff (l.take i) = m at *
      have hor : bits .or .i64 ((m : Int) * 256) ((l[i]).toNat : Int) = ((m * 256 + (l[i]).toNat : Nat) : Int) := by
        rw [bits_join .i64 63 (by decide) (fun n h0 h1 => by rw [IntKind.wrap_i64]; omega) 8 _ _ (by omega) (by omega) (by omega) (by omega) (by omega) (by omega)]
        omega
      rw [bt_bs l i hlt, w64n (by omega), w64 (x := (m : Int) * 256) (by omega) (by omega), w64 (x := ((l[i]).toNat : Int)) (by omega) (by omega), hor]
      exact this
  unfold ez.f
  rw [ee]
  exact loop l.length 0 (by omega)
theorem recsS_ev (d : Bytes) (hd : d.length <= 65000) : Ev (fun k => ck.f k (bs d)) ((recs d).1.map bs, ((recs d).2.1 : Int), (recs d).2.2) := by
  have loop : ∀ (m at_ : Nat) (acc : List Bytes), d.length - at_ <= m -> at_ <= d.length -> acc.length <= at_ -> recs d = (acc ++ (recs (d.drop at_)).1, at_ + (recs (d.drop at_)).2.1, (recs (d.drop at_)).2.2) ->
      Ev (fun k => ck.l0 k (bs d) (acc.map bs) at_) ((recs d).1.map bs, ((recs d).2.1 : Int), (recs d).2.2) := by
    intro m
    induction m with
    | zero =>
      intro at_ acc hm ha hl hr
      have hdn : d.drop at_ = [] := List.drop_of_length_le (by omega)
      rw [recs_at_end hr hdn]
      exact Ev.step (fun _ => ck.l0.eq_2 ..) (bv (by rw [ee]; omega) (bq rfl))
    | succ m ih =>
      intro at_ acc hm ha hl hr
      by_cases hlt : at_ < d.length
      · have hne : d.drop at_ ≠ [] := by intro e; have := congrArg List.length e; simp at this; omega
        have hdl : (d.drop at_).length = d.length - at_ := List.length_drop
        refine Ev.step (fun _ => ck.l0.eq_2 ..) (bp (by rw [ee]; omega) ?_)
        have w7 : wrap64 ((at_ : Int) + 7) = ((at_ + 7 : Nat) : Int) := by rw [w64 (by omega) (by omega)]; omega
        have w3 : wrap64 ((at_ : Int) + 3) = ((at_ + 3 : Nat) : Int) := by rw [w64 (by omega) (by omega)]; omega
        rw [w7, w3, ee]
        clear w7 w3
        by_cases h7 : d.length - at_ < 7
        · have hra : recAt (d.drop at_) = .inl 18 := by unfold recAt; rw [if_pos (by omega)]
          rw [recs_at_stop hr hne hra]
          exact bp (by omega) (bq rfl)
        refine bv (by omega) (bp (by omega) (bp (by omega) (bp (by omega) ?_)))
        have e3 : (bs d).extract (at_ : Int).toNat ((at_ + 3 : Nat) : Int).toNat = bs ((d.drop at_).take 3) := by
          rw [bs_extract, Int.toNat_natCast, Int.toNat_natCast, List.drop_take]; congr 2; omega
        have hN := numS_ev ((d.drop at_).take 3) (by rw [List.length_take]; omega)
        have hN3 := numL3 ((d.drop at_).take 3) (by rw [List.length_take]; omega)
        rw [e3]
        refine Ev.bind hN (cj (l01In_f _ _ _) ?_)
        cases hin : inB (ff ((d.drop at_).take 3) : Int) 1 20000 with
        | false =>
          have hra : recAt (d.drop at_) = .inl 8 := by unfold recAt; rw [if_neg (by omega), if_pos hin]
          rw [recs_at_stop hr hne hra]
          exact bv (by simp) (bq rfl)
        | true =>
          have hnr := inB_iff.mp hin
          refine bp rfl ?_
          have hra0 : recAt (d.drop at_) = if (d.drop at_).length < 7 + ff ((d.drop at_).take 3) then .inl 18 else if (frameL (((d.drop at_).drop 7).take (ff ((d.drop at_).take 3)))).isPrefixOf (d.drop at_) then .inr (((d.drop at_).drop 7).take (ff ((d.drop at_).take 3))) else .inl 8 := by
            unfold recAt; rw [if_neg (by omega), if_neg (by rw [hin]; simp)]
          generalize ff ((d.drop at_).take 3) = n at *
          have w7n : wrap64 (((at_ + 7 : Nat) : Int) + (n : Int)) = ((at_ + 7 + n : Nat) : Int) := by rw [w64 (by omega) (by omega)]; omega
          have wn : wrap64 ((at_ : Int) + wrap64 (7 + (n : Int))) = ((at_ + (7 + n) : Nat) : Int) := by rw [w64 (x := 7 + (n : Int)) (by omega) (by omega), w64 (by omega) (by omega)]; omega
          rw [w7n, wn]
          clear w7n wn
          by_cases hsh : d.length - at_ < 7 + n
          · rw [if_pos (by omega)] at hra0
            rw [recs_at_stop hr hne hra0]
            exact bp (by omega) (bq rfl)
          rw [if_neg (by omega)] at hra0
          have er : (bs d).extract ((at_ + 7 : Nat) : Int).toNat ((at_ + 7 + n : Nat) : Int).toNat = bs (((d.drop at_).drop 7).take n) := by
            rw [bs_extract, Int.toNat_natCast, Int.toNat_natCast, List.drop_take, List.drop_drop]; congr 2; omega
          have ef : (bs d).extract (at_ : Int).toNat ((at_ + 7 + n : Nat) : Int).toNat = bs ((d.drop at_).take (7 + n)) := by
            rw [bs_extract, Int.toNat_natCast, Int.toNat_natCast, List.drop_take]; congr 2; omega
          have hrl : (((d.drop at_).drop 7).take n).length = n := by rw [List.length_take, List.length_drop, hdl]; omega
          rw [er, ef]
          generalize hr0 : ((d.drop at_).drop 7).take n = r at *
          have hF : fp.f (bs r) = some (bs (frameL r)) := by unfold fp.f; rw [if_pos (by rw [ee]; omega)]; rfl
          refine bv (by omega) (bp (by omega) (bp (by omega) (bp (by omega) (cj hF (bp (by omega) ?_)))))
          have hpre : (frameL r).isPrefixOf (d.drop at_) = true ↔ frameL r = (d.drop at_).take (7 + n) := by
            rw [List.isPrefixOf_iff_prefix, List.prefix_iff_eq_take, frameL_length, hrl]
          by_cases hp : frameL r = (d.drop at_).take (7 + n)
          · have hra : recAt (d.drop at_) = .inr r := by rw [hra0, if_pos (hpre.mpr hp)]
            have hr2 := recs_from hr hra
            rw [hrl] at hr2
            refine bp (by rw [bs_toList, bs_toList]; exact hp) (bp (by rw [List.length_map]; omega) ?_)
            have := ih (at_ + (7 + n)) (acc ++ [r]) (by omega) (by omega) (by simp; omega) hr2
            rw [List.map_append] at this
            exact this
          have hra : recAt (d.drop at_) = .inl 8 := by rw [hra0, if_neg (fun h => hp (hpre.mp h))]
          rw [recs_at_stop hr hne hra]
          exact bv (by rw [bs_toList, bs_toList]; exact hp) (bq rfl)
      have hdn : d.drop at_ = [] := List.drop_of_length_le (by omega)
      rw [recs_at_end hr hdn]
      exact Ev.step (fun _ => ck.l0.eq_2 ..) (bv (by rw [ee]; omega) (bq rfl))
  unfold ck.f
  exact loop d.length 0 [] (by omega) (by omega) (by simp) (by simp)
theorem recsN_ok (k : Nat) : ∀ t : Bytes, t.length < k -> (∀ r ∈ (recsN k t).1, 1 <= r.length /\ r.length <= 20000) /\ ((recsN k t).1.length <= t.length) /\ ((recsN k t).2.2 = 0 -> (recsN k t).2.1 = t.length) := by
  induction k with
  | zero => intro t h; omega
  | succ k ih =>
    intro t hk
    unfold recsN
    by_cases ht : t = []
    · rw [if_pos ht]; subst ht; exact ⟨by simp, by simp, by simp⟩
    rw [if_neg ht]
    cases hr : recAt t with
    | inl c =>
      refine ⟨by simp, by simp, ?_⟩
      intro h
      exfalso
      dsimp only at h
      revert hr
      unfold recAt
      split; · intro e; injection e with e; omega
      split; · intro e; injection e with e; omega
      split; · intro e; injection e with e; omega
      split
      · intro e; cases e
      intro e; injection e with e; omega
    | inr r =>
      have hl := recAt_len hr
      obtain ⟨i1, i2, i3⟩ := ih (t.drop (7 + r.length)) (by simp; omega)
      simp only [List.length_drop] at i2 i3
      refine ⟨?_, ?_, ?_⟩
      · intro x hx
        rcases List.mem_cons.mp hx with rfl | hx
        · exact ⟨hl.1, hl.2.1⟩
        exact i1 x hx
      · simp only [List.length_cons]; omega
      intro h
      have := i3 h
      dsimp only
      omega
theorem recs_ok (t : Bytes) : (∀ r ∈ (recs t).1, 1 <= r.length /\ r.length <= 20000) /\ ((recs t).1.length <= t.length) /\ ((recs t).2.2 = 0 -> (recs t).2.1 = t.length) := recsN_ok _ t (by omega)
def mutB (k u m f : Int) (nm : ByteArray) (l : List S84) : Bool := nameB nm.data.toList && decide (l.length <= 20) && l.all itemB && kindB k u m f l.length
theorem mutI_ev (k u m f : Int) (nm : ByteArray) (l : List S84) (hn : nm.size <= 1099511627776) (hl : l.length <= 1048576) : Ev (fun r => gj.f r k u m f nm l) (mutB k u m f nm l) := by
  unfold gj.f
  exact bp (by omega) (Ev.bind (nameI_ev nm hn) (bq rfl))
theorem kindS_ev (k u m f : Int) (nm : ByteArray) (l : List S84) (b : Bool) (hb : b = (decide (k = 1) || decide (k = 4))) : Ev (fun r => ci.j2 r k b k u m f nm l) (kindB k u m f l.length) := by
  have bare : ∀ (x : Bool), (if u = 0 then (if m = 0 then (if f = 0 then some x else some false) else some false) else some false) = some (bareB u m f && x) := by
    intro x
    unfold bareB
    by_cases h1 : u = 0 <;> by_cases h2 : m = 0 <;> by_cases h3 : f = 0 <;> simp [h1, h2, h3]
  refine Ev.step (fun _ => ci.j2.eq_2 ..) ?_
  have e0 : ((l.length : Int) == 0) = decide (l.length = 0) := by rw [Bool.eq_iff_iff]; simp
  have e1 : decide ((l.length : Int) > 0) = decide (0 < l.length) := by rw [Bool.eq_iff_iff]; simp
  rw [e0, e1]
  by_cases h14 : k = 1 ∨ k = 4
  · refine bp (by rw [hb]; simpa using h14) (ev_to (r := bareB u m f && decide (l.length = 0)) (by unfold kindB; rw [if_pos h14]) ?_)
    rw [bare]; exact bq rfl
  refine bv (by rw [hb]; simpa using h14) ?_
  by_cases h2 : k = 2
  · refine bp h2 (ev_to (r := bareB u m f && decide (0 < l.length)) (by unfold kindB; rw [if_neg h14, if_pos h2]) ?_)
    rw [bare]; exact bq rfl
  refine bv h2 ?_
  by_cases h3 : k = 3
  · refine bp h3 (ev_to (r := decide (l.length = 0) && inB u 1 1000 && inB m 1 3 && inB f 0 31) (by unfold kindB; rw [if_neg h14, if_neg h2, if_pos h3]; rfl) (cj (l01In_f _ _ _) ?_))
    cases q1 : inB u 1 1000 with
    | false => exact bv (by simp) (bq (by simp))
    | true =>
      refine bp rfl (cj (l01In_f _ _ _) ?_)
      cases q2 : inB m 1 3 with
      | false => exact bv (by simp) (bq (by simp))
      | true =>
        refine bp rfl (cj (l01In_f _ _ _) ?_)
        cases q3 : inB f 0 31 with
        | false => exact bv (by simp) (bq (by simp))
        | true => exact bp rfl (bq (by simp))
  exact bv h3 (bq (by unfold kindB; rw [if_neg h14, if_neg h2, if_neg h3]))
theorem itemsS_ev (k u m f : Int) (nm : ByteArray) (l : List S84) (hl : l.length <= 1048576) : ∀ (n i : Nat), i + n = l.length -> Ev (fun r => ci.l0 r i k u m f nm l) ((l.drop i).all itemB && kindB k u m f l.length) := by
  intro n
  induction n with
  | zero =>
    intro i hi
    rw [List.drop_of_length_le (by omega), List.all_nil, Bool.true_and]
    refine Ev.step (fun _ => ci.l0.eq_2 ..) (bv (by omega) ?_)
    by_cases h1 : k = 1
    · exact bp h1 (kindS_ev k u m f nm l _ (by simp [h1]))
    exact bv h1 (kindS_ev k u m f nm l _ (by simp [h1]; rfl))
  | succ n ih =>
    intro i hi
    have hlt : i < l.length := by omega
    refine Ev.step (fun _ => ci.l0.eq_2 ..) (bp (by omega) (bp (by omega) ?_))
    rw [rdItem l i hlt, w64n (by omega), List.drop_eq_getElem_cons hlt, List.all_cons]
    refine cj (l01In_f _ _ _) ?_
    have e : itemB l[i] = (inB (l[i].f0.size : Int) 1 200 && decide ((l[i].f1.size : Int) <= 4000)) := rfl
    rw [e]
    cases q1 : inB (l[i].f0.size : Int) 1 200 with
    | false => exact bv (by simp) (bq (by simp))
    | true =>
      refine bp rfl ?_
      by_cases h4 : (l[i].f1.size : Int) > 4000
      · rw [decide_eq_false (by omega)]; exact bp h4 (bq (by simp))
      rw [decide_eq_true (by omega : (l[i].f1.size : Int) <= 4000)]
      refine bv h4 (ev_to ?_ (ih (i + 1) (by omega)))
      simp
theorem mutS_ev (k u m f : Int) (nm : ByteArray) (l : List S84) (hn : nm.size <= 1099511627776) (hl : l.length <= 1048576) : Ev (fun r => ci.f r k u m f nm l) (mutB k u m f nm l) := by
  unfold ci.f mutB
  refine Ev.bind (nameS_ev nm hn) ?_
  cases nameB nm.data.toList with
  | false => exact bv (by simp) (Ev.step (fun _ => ci.j0.eq_2 ..) (bp rfl (bq (by simp))))
  | true =>
    refine bp rfl (Ev.step (fun _ => ci.j0.eq_2 ..) ?_)
    by_cases h20 : l.length <= 20
    · rw [decide_eq_true h20]
      refine bv (by simp; omega) (ev_to ?_ (itemsS_ev k u m f nm l hl l.length 0 (by omega)))
      simp
    rw [decide_eq_false h20]
    exact bp (by simp; omega) (bq (by simp))
theorem mutB_items {k u m f : Int} {nm : ByteArray} {l : List S84} (h : mutB k u m f nm l = true) : l.length <= 20 := by
  unfold mutB at h
  simp only [Bool.and_eq_true, decide_eq_true_eq] at h
  exact h.1.1.2
def takeT (d : Bytes) (b : Bool) (n : Nat) : Bytes × Bytes × Bool := if n <= d.length then (d.take n, d.drop n, b) else ([], d, true)
theorem takeT_len (d : Bytes) (b : Bool) (n : Nat) : (takeT d b n).1.length <= n /\ (takeT d b n).2.1.length <= d.length := by
  unfold takeT; split <;> simp <;> omega
theorem takeT_ok {d : Bytes} {b : Bool} {n : Nat} (h : (takeT d b n).2.2 = false) : b = false /\ n <= d.length /\ takeT d b n = (d.take n, d.drop n, false) := by
  unfold takeT at h ⊢
  split at h
  · next hn => dsimp only at h; subst h; rw [if_pos hn]; exact ⟨rfl, hn, rfl⟩
  cases h
theorem takeT_yes {d : Bytes} {n : Nat} (h : n <= d.length) : takeT d false n = (d.take n, d.drop n, false) := if_pos h
theorem taker_text_f (d : Bytes) (b : Bool) (n : Nat) (hd : d.length <= 1048576) : fb.f (bs d) b (n : Int) = some (bs (takeT d b n).1, bs (takeT d b n).2.1, (takeT d b n).2.2) := by
  unfold fb.f takeT
  rw [ee]
  by_cases h : n <= d.length
  · rw [if_neg (by omega), if_pos (by omega), if_pos (by omega), if_pos h, Int.toNat_natCast, bs_extract, bs_extract, List.take_of_length_le (Nat.le_refl d.length), List.drop_zero]
  rw [if_pos (by omega), if_neg h]; rfl
theorem taker_number_ev (d : Bytes) (b : Bool) (n : Nat) (hd : d.length <= 1048576) (hn : n <= 3) : Ev (fun k => db.f k (bs d) b (n : Int)) ((ff (takeT d b n).1 : Int), bs (takeT d b n).2.1, (takeT d b n).2.2) := by
  unfold db.f
  exact cj (taker_text_f d b n hd) (Ev.bind (numI_ev _ (by have := (takeT_len d b n).1; omega)) (bq rfl))
def itemsR : Nat -> Bytes -> List S84 -> Option (List S84 × Bytes)
  | 0, d, acc => some (acc, d)
  | n + 1, d, acc => if d.length < 4 then none else if (d.drop 4).length < ff (d.take 2) + ff ((d.drop 2).take 2) then none
    else itemsR n ((d.drop 4).drop (ff (d.take 2) + ff ((d.drop 2).take 2))) (acc ++ [⟨bs ((d.drop 4).take (ff (d.take 2))), bs (((d.drop 4).drop (ff (d.take 2))).take (ff ((d.drop 2).take 2)))⟩])
theorem numL2 (l : Bytes) (h : l.length <= 2) : ff l < 65536 := Nat.lt_of_lt_of_le (numL_lt l) (Nat.pow_le_pow_right (by decide) h : 256 ^ l.length <= 256 ^ 2)
section
variable (kind uid mode flags : Int) (nm : ByteArray)
theorem readS_items (d : Bytes) (hd : d.length <= 20000) (hnm : nm.size <= 1099511627776) : ∀ (n at_ : Nat) (acc : List S84), at_ <= d.length -> acc.length + n <= 255 ->
    (itemsR n (d.drop at_) acc = none -> Ev (fun k => bz.l0 k (bs d) at_ n kind uid mode flags nm acc) (0, 0, 0, 0, (⟨#[]⟩ : ByteArray), [], false)) /\
    (∀ l r, itemsR n (d.drop at_) acc = some (l, r) -> Ev (fun k => bz.l0 k (bs d) at_ n kind uid mode flags nm acc) (kind, uid, mode, flags, nm, l, if r = [] then mutB kind uid mode flags nm l else false)) := by
  intro n
  induction n with
  | zero =>
    intro at_ acc ha hn
    refine ⟨fun h => (by unfold itemsR at h; cases h), fun l r h => ?_⟩
    unfold itemsR at h
    injection h with h
    injection h with h1 h2
    subst h1
    refine Ev.step (fun _ => bz.l0.eq_2 ..) (bv (by omega) ?_)
    by_cases he : at_ = d.length
    · have : r = [] := by rw [← h2, he]; exact List.drop_length
      rw [if_pos this]
      exact bp (by rw [ee]; omega) (Ev.bind (mutS_ev kind uid mode flags nm acc hnm (by omega)) (bq rfl))
    have : r ≠ [] := by rw [← h2]; intro e; have := congrArg List.length e; simp at this; omega
    rw [if_neg this]
    exact bv (by rw [ee]; omega) (bq rfl)
  | succ n ih =>
    intro at_ acc ha hn
    have hdl : (d.drop at_).length = d.length - at_ := List.length_drop
    have w4 : wrap64 ((at_ : Int) + 4) = ((at_ + 4 : Nat) : Int) := by rw [w64 (by omega) (by omega)]; omega
    have w2 : wrap64 ((at_ : Int) + 2) = ((at_ + 2 : Nat) : Int) := by rw [w64 (by omega) (by omega)]; omega
    have wn : wrap64 (((n + 1 : Nat) : Int) - 1) = (n : Int) := by rw [w64 (by omega) (by omega)]; omega
    by_cases h4 : d.length - at_ < 4
    · have e : itemsR (n + 1) (d.drop at_) acc = none := by unfold itemsR; rw [if_pos (by omega)]
      rw [e]
      refine ⟨fun _ => Ev.step (fun _ => bz.l0.eq_2 ..) (bp (by clear w4 w2 wn; omega) ?_), fun l r h => by cases h⟩
      rw [w4, ee]
      exact bp (by clear w4 w2 wn; omega) (bq rfl)
    have e1 : (bs d).extract (at_ : Int).toNat ((at_ + 2 : Nat) : Int).toNat = bs ((d.drop at_).take 2) := by
      rw [bs_extract, Int.toNat_natCast, Int.toNat_natCast, List.drop_take]; congr 2; clear w4 w2 wn; omega
    have e2 : (bs d).extract ((at_ + 2 : Nat) : Int).toNat ((at_ + 4 : Nat) : Int).toNat = bs (((d.drop at_).drop 2).take 2) := by
      rw [bs_extract, Int.toNat_natCast, Int.toNat_natCast, List.drop_take, List.drop_drop]; congr 2; clear w4 w2 wn; omega
    have hA := numS_ev ((d.drop at_).take 2) (by rw [List.length_take]; clear w4 w2 wn; omega)
    have hB := numS_ev (((d.drop at_).drop 2).take 2) (by rw [List.length_take]; clear w4 w2 wn; omega)
    have hA2 := numL2 ((d.drop at_).take 2) (by rw [List.length_take]; clear w4 w2 wn; omega)
    have hB2 := numL2 (((d.drop at_).drop 2).take 2) (by rw [List.length_take]; clear w4 w2 wn; omega)
    have hir : itemsR (n + 1) (d.drop at_) acc = if ((d.drop at_).drop 4).length < ff ((d.drop at_).take 2) + ff (((d.drop at_).drop 2).take 2) then none else itemsR n (((d.drop at_).drop 4).drop (ff ((d.drop at_).take 2) + ff (((d.drop at_).drop 2).take 2))) (acc ++ [⟨bs (((d.drop at_).drop 4).take (ff ((d.drop at_).take 2))), bs ((((d.drop at_).drop 4).drop (ff ((d.drop at_).take 2))).take (ff (((d.drop at_).drop 2).take 2)))⟩]) := by
      rw [itemsR, if_neg (by clear w4 w2 wn; omega)]
    generalize ff ((d.drop at_).take 2) = a at *
    generalize ff (((d.drop at_).drop 2).take 2) = b at *
    have wa : wrap64 (((at_ + 4 : Nat) : Int) + (a : Int)) = ((at_ + 4 + a : Nat) : Int) := by clear w4 w2 wn; rw [w64 (by omega) (by omega)]; omega
    have wab : wrap64 (((at_ + 4 + a : Nat) : Int) + (b : Int)) = ((at_ + 4 + a + b : Nat) : Int) := by clear w4 w2 wn wa; rw [w64 (by omega) (by omega)]; omega
    have wab2 : wrap64 (((at_ + 4 : Nat) : Int) + wrap64 ((a : Int) + (b : Int))) = ((at_ + 4 + (a + b) : Nat) : Int) := by clear w4 w2 wn wa wab; rw [w64 (x := (a : Int) + (b : Int)) (by omega) (by omega), w64 (by omega) (by omega)]; omega
    have hdd : ((d.drop at_).drop 4).length = d.length - at_ - 4 := by rw [List.length_drop, hdl]
    have go : ∀ q, Ev (fun k => if ((at_ + 4 + a + b : Nat) : Int) > (d.length : Int) then some (0, 0, 0, 0, (⟨#[]⟩ : ByteArray), ([] : List S84), false) else bz.l0 k (bs d) ((at_ + 4 + (a + b) : Nat) : Int) (n : Int) kind uid mode flags nm (acc ++ [⟨(bs d).extract ((at_ + 4 : Nat) : Int).toNat ((at_ + 4 + a : Nat) : Int).toNat, (bs d).extract ((at_ + 4 + a : Nat) : Int).toNat ((at_ + 4 + a + b : Nat) : Int).toNat⟩])) q -> Ev (fun k => bz.l0 k (bs d) at_ ((n + 1 : Nat) : Int) kind uid mode flags nm acc) q := by
      intro q H
      refine Ev.step (fun _ => bz.l0.eq_2 ..) (bp (by clear w4 w2 wn wa wab wab2; omega) ?_)
      rw [w4, w2, ee, e1, e2]
      refine bv (by clear w4 w2 wn wa wab wab2; omega) (bp (by clear w4 w2 wn wa wab wab2; omega) (bp (by clear w4 w2 wn wa wab wab2; omega) (bp (by clear w4 w2 wn wa wab wab2; omega) (Ev.bind hA (bp (by clear w4 w2 wn wa wab wab2; omega) (bp (by clear w4 w2 wn wa wab wab2; omega) (bp (by clear w4 w2 wn wa wab wab2; omega) (Ev.bind hB ?_))))))))
      rw [wa, wab, wab2, wn]
      clear w4 w2 wn wa wab wab2
      by_cases hs : ((at_ + 4 + a + b : Nat) : Int) > (d.length : Int)
      · exact bp hs (ev_to (ev_one (bp hs (bq rfl)) H) (bq rfl))
      refine bv hs (bp (by omega) (bp (by omega) (bp (by omega) (bp (by omega) (bp (by omega) (bp (by omega) (bp (by omega) ?_)))))))
      obtain ⟨K, H⟩ := H
      exact ⟨K, fun k hk => (if_neg hs).symm.trans (H k hk)⟩
    clear w4 w2 wn wa wab wab2 hA hB
    rw [hir, hdd]
    by_cases hs : d.length - at_ - 4 < a + b
    · rw [if_pos hs]
      exact ⟨fun _ => go _ (bp (by omega) (bq rfl)), fun l r h => by cases h⟩
    rw [if_neg hs]
    have e3 : (bs d).extract ((at_ + 4 : Nat) : Int).toNat ((at_ + 4 + a : Nat) : Int).toNat = bs (((d.drop at_).drop 4).take a) := by
      rw [bs_extract, Int.toNat_natCast, Int.toNat_natCast, List.drop_take, List.drop_drop]; congr 2; omega
    have e4 : (bs d).extract ((at_ + 4 + a : Nat) : Int).toNat ((at_ + 4 + a + b : Nat) : Int).toNat = bs ((((d.drop at_).drop 4).drop a).take b) := by
      rw [bs_extract, Int.toNat_natCast, Int.toNat_natCast, List.drop_take, List.drop_drop, List.drop_drop]; congr 2 <;> first | omega | (congr 1; omega)
    have e5 : ((d.drop at_).drop 4).drop (a + b) = d.drop (at_ + 4 + (a + b)) := by rw [List.drop_drop, List.drop_drop]; congr 1; omega
    have h2 := ih (at_ + 4 + (a + b)) (acc ++ [⟨bs (((d.drop at_).drop 4).take a), bs ((((d.drop at_).drop 4).drop a).take b)⟩]) (by omega) (by simp; omega)
    rw [e5]
    rw [e3, e4] at go
    exact ⟨fun h => go _ (bv (by omega) (h2.1 h)), fun l r h => go _ (bv (by omega) (h2.2 l r h))⟩
theorem readI_bad (N i : Int) (r : ByteArray) (acc : List S84) : Ev (fun k => br.l0 k N i r true kind uid mode flags nm acc) (kind, uid, mode, flags, nm, acc, false) := by
  refine Ev.step (fun _ => br.l0.eq_2 ..) ?_
  by_cases h : i < N
  · exact bp h (Ev.step (fun _ => br.j1.eq_2 ..) (bv (by simp) (bp rfl (bq rfl))))
  exact bv h (Ev.step (fun _ => br.j1.eq_2 ..) (bv (by simp) (bp rfl (bq rfl))))
theorem readI_items (hnm : nm.size <= 1099511627776) (N : Nat) (hN : N <= 255) : ∀ (n i : Nat) (r : Bytes) (acc : List S84), i + n = N -> r.length <= 20000 -> acc.length + n <= 255 ->
    (itemsR n r acc = none -> ∃ q1 q2 q3 q4 q5 q6, Ev (fun k => br.l0 k N i (bs r) false kind uid mode flags nm acc) (q1, q2, q3, q4, q5, q6, false)) /\
    (∀ l r', itemsR n r acc = some (l, r') -> Ev (fun k => br.l0 k N i (bs r) false kind uid mode flags nm acc) (kind, uid, mode, flags, nm, l, if r' = [] then mutB kind uid mode flags nm l else false)) := by
  intro n
  induction n with
  | zero =>
    intro i r acc hi hr hn
    refine ⟨fun h => (by unfold itemsR at h; cases h), fun l r' h => ?_⟩
    unfold itemsR at h
    injection h with h
    injection h with h1 h2
    subst h1
    subst h2
    refine Ev.step (fun _ => br.l0.eq_2 ..) (bv (by omega) (Ev.step (fun _ => br.j1.eq_2 ..) (bv (by simp) (bv (by simp) ?_))))
    by_cases he : r = []
    · rw [if_pos he]
      exact bp (by rw [bs_toList]; exact he) (Ev.bind (mutI_ev kind uid mode flags nm acc hnm (by omega)) (bq rfl))
    rw [if_neg he]
    exact bv (by rw [bs_toList]; exact he) (bq rfl)
  | succ n ih =>
    intro i r acc hi hr hn
    have t1 := taker_number_ev r false 2 (by omega) (by omega)
    have l1 := takeT_len r false 2
    obtain ⟨T1, hT1⟩ : ∃ T, takeT r false 2 = T := ⟨_, rfl⟩
    rw [hT1] at t1 l1
    have t2 := taker_number_ev T1.2.1 T1.2.2 2 (by omega) (by omega)
    have l2 := takeT_len T1.2.1 T1.2.2 2
    obtain ⟨T2, hT2⟩ : ∃ T, takeT T1.2.1 T1.2.2 2 = T := ⟨_, rfl⟩
    rw [hT2] at t2 l2
    have t3 := taker_text_f T2.2.1 T2.2.2 (ff T1.1) (by omega)
    have l3 := takeT_len T2.2.1 T2.2.2 (ff T1.1)
    obtain ⟨T3, hT3⟩ : ∃ T, takeT T2.2.1 T2.2.2 (ff T1.1) = T := ⟨_, rfl⟩
    rw [hT3] at t3 l3
    have t4 := taker_text_f T3.2.1 T3.2.2 (ff T2.1) (by omega)
    have l4 := takeT_len T3.2.1 T3.2.2 (ff T2.1)
    obtain ⟨T4, hT4⟩ : ∃ T, takeT T3.2.1 T3.2.2 (ff T2.1) = T := ⟨_, rfl⟩
    rw [hT4] at t4 l4
    have go : ∀ q, Ev (fun k => br.l0 k N ((i + 1 : Nat) : Int) (bs T4.2.1) T4.2.2 kind uid mode flags nm (acc ++ [⟨bs T3.1, bs T4.1⟩])) q -> Ev (fun k => br.l0 k N i (bs r) false kind uid mode flags nm acc) q := by
      intro q H
      refine Ev.step (fun _ => br.l0.eq_2 ..) (bp (by omega) (Ev.step (fun _ => br.j1.eq_2 ..) (bp rfl (Ev.bind t1 (Ev.bind t2 (cj t3 (cj t4 (bp (by omega) ?_))))))))
      rw [w64n (by omega)]
      exact H
    cases hb : T4.2.2 with
    | true =>
      rw [hb] at go
      refine ⟨fun _ => ⟨_, _, _, _, _, _, go _ (readI_bad kind uid mode flags nm _ _ _ _)⟩, fun l r' h => ?_⟩
      exfalso
      unfold itemsR at h
      split at h; · cases h
      next h4 =>
      rw [takeT_yes (by omega)] at hT1
      subst hT1
      dsimp only at hT2
      rw [takeT_yes (by rw [List.length_drop]; omega)] at hT2
      subst hT2
      dsimp only at hT3 hT4
      split at h; · cases h
      next hs =>
      rw [List.length_drop] at hs
      rw [takeT_yes (by rw [List.length_drop, List.length_drop]; omega)] at hT3
      subst hT3
      dsimp only at hT4
      rw [takeT_yes (by rw [List.length_drop, List.length_drop, List.length_drop]; omega)] at hT4
      subst hT4
      cases hb
    | false =>
      rw [hb] at go
      rw [← hT4] at hb
      obtain ⟨b3, c4, e4⟩ := takeT_ok hb
      rw [← hT3] at b3
      obtain ⟨b2, c3, e3⟩ := takeT_ok b3
      rw [← hT2] at b2
      obtain ⟨b1, c2, e2⟩ := takeT_ok b2
      rw [← hT1] at b1
      obtain ⟨-, c1, e1⟩ := takeT_ok b1
      rw [e1] at hT1
      subst hT1
      dsimp only at e2 c2 hT2
      rw [e2] at hT2
      subst hT2
      dsimp only at e3 c3 hT3
      rw [e3] at hT3
      subst hT3
      dsimp only at e4 c4 hT4
      rw [e4] at hT4
      subst hT4
      dsimp only at go
      simp only [List.length_drop] at c2 c3 c4
      have hir : itemsR (n + 1) r acc = itemsR n ((((r.drop 2).drop 2).drop (ff (r.take 2))).drop (ff ((r.drop 2).take 2))) (acc ++ [⟨bs (((r.drop 2).drop 2).take (ff (r.take 2))), bs ((((r.drop 2).drop 2).drop (ff (r.take 2))).take (ff ((r.drop 2).take 2)))⟩]) := by
        rw [itemsR, if_neg (by omega), if_neg (by rw [List.length_drop]; omega)]
        simp only [List.drop_drop]
        congr 2
        omega
      have h2 := ih (i + 1) ((((r.drop 2).drop 2).drop (ff (r.take 2))).drop (ff ((r.drop 2).take 2))) (acc ++ [⟨bs (((r.drop 2).drop 2).take (ff (r.take 2))), bs ((((r.drop 2).drop 2).drop (ff (r.take 2))).take (ff ((r.drop 2).take 2)))⟩]) (by omega) (by simp only [List.length_drop]; omega) (by simp; omega)
      rw [hir]
      refine ⟨fun h => ?_, fun l r' h => go _ (h2.2 l r' h)⟩
      obtain ⟨q1, q2, q3, q4, q5, q6, hq⟩ := h2.1 h
      exact ⟨q1, q2, q3, q4, q5, q6, go _ hq⟩
end
theorem numL_one (d : Bytes) (k : Nat) (h : k < d.length) : ff ((d.drop k).take 1) = (d[k]).toNat := by
  rw [List.drop_eq_getElem_cons h, List.take_succ_cons, List.take_zero]; simp [ff]
theorem read_both (d : Bytes) (hd : d.length <= 20000) : ∃ p1 p2 p3 p4 p5 p6 b q1 q2 q3 q4 q5 q6, Ev (fun k => bz.f k (bs d)) (p1, p2, p3, p4, p5, p6, b) /\ Ev (fun k => br.f k (bs d)) (q1, q2, q3, q4, q5, q6, b) /\
    (b = true -> q1 = p1 /\ q2 = p2 /\ q3 = p3 /\ q4 = p4 /\ q5 = p5 /\ q6 = p6 /\ p6.length <= 20) := by
  have t1 := taker_number_ev d false 1 (by omega) (by omega)
  have l1 := takeT_len d false 1
  obtain ⟨T1, hT1⟩ : ∃ T, takeT d false 1 = T := ⟨_, rfl⟩
  rw [hT1] at t1 l1
  have t2 := taker_number_ev T1.2.1 T1.2.2 1 (by omega) (by omega)
  have l2 := takeT_len T1.2.1 T1.2.2 1
  obtain ⟨T2, hT2⟩ : ∃ T, takeT T1.2.1 T1.2.2 1 = T := ⟨_, rfl⟩
  rw [hT2] at t2 l2
  have t3 := taker_number_ev T2.2.1 T2.2.2 1 (by omega) (by omega)
  have l3 := takeT_len T2.2.1 T2.2.2 1
  obtain ⟨T3, hT3⟩ : ∃ T, takeT T2.2.1 T2.2.2 1 = T := ⟨_, rfl⟩
  rw [hT3] at t3 l3
  have t4 := taker_number_ev T3.2.1 T3.2.2 1 (by omega) (by omega)
  have l4 := takeT_len T3.2.1 T3.2.2 1
  obtain ⟨T4, hT4⟩ : ∃ T, takeT T3.2.1 T3.2.2 1 = T := ⟨_, rfl⟩
  rw [hT4] at t4 l4
  have t5 := taker_number_ev T4.2.1 T4.2.2 1 (by omega) (by omega)
  have l5 := takeT_len T4.2.1 T4.2.2 1
  obtain ⟨T5, hT5⟩ : ∃ T, takeT T4.2.1 T4.2.2 1 = T := ⟨_, rfl⟩
  rw [hT5] at t5 l5
  have t6 := taker_number_ev T5.2.1 T5.2.2 2 (by omega) (by omega)
  have l6 := takeT_len T5.2.1 T5.2.2 2
  obtain ⟨T6, hT6⟩ : ∃ T, takeT T5.2.1 T5.2.2 2 = T := ⟨_, rfl⟩
  rw [hT6] at t6 l6
  have t7 := taker_text_f T6.2.1 T6.2.2 (ff T5.1) (by omega)
  have l7 := takeT_len T6.2.1 T6.2.2 (ff T5.1)
  obtain ⟨T7, hT7⟩ : ∃ T, takeT T6.2.1 T6.2.2 (ff T5.1) = T := ⟨_, rfl⟩
  rw [hT7] at t7 l7
  have goI : ∀ q, Ev (fun k => br.l0 k (ff T4.1 : Int) 0 (bs T7.2.1) T7.2.2 (ff T1.1 : Int) (ff T6.1 : Int) (ff T2.1 : Int) (ff T3.1 : Int) (bs T7.1) []) q -> Ev (fun k => br.f k (bs d)) q := by
    intro q H
    unfold br.f
    exact bv (by rw [ee]; omega) (Ev.bind t1 (Ev.bind t2 (Ev.bind t3 (Ev.bind t4 (Ev.bind t5 (Ev.bind t6 (cj t7 H)))))))
  have badS : (d.length < 7 ∨ ∃ h : 4 < d.length, d.length < 7 + (d[4]).toNat) -> Ev (fun k => bz.f k (bs d)) (0, 0, 0, 0, (⟨#[]⟩ : ByteArray), [], false) := by
    intro hbad
    unfold bz.f
    by_cases h7 : d.length < 7
    · exact bp (by rw [ee]; omega) (Ev.step (fun _ => bz.j0.eq_2 ..) (bp rfl (bq rfl)))
    rcases hbad with h | ⟨h4, h⟩
    · omega
    refine bv (by rw [ee]; omega) (bp (by rw [ee]; omega) ?_)
    have hc := (d[4]).toNat_lt
    have e4 : bt (bs d) 4 = ((d[4]).toNat : Int) := bt_bs d 4 h4
    rw [e4, ee, w64 (x := ((d[4]).toNat : Int)) (by omega) (by omega), w64 (by omega) (by omega), decide_eq_true (by omega)]
    exact Ev.step (fun _ => bz.j0.eq_2 ..) (bp rfl (bq rfl))
  cases hb : T7.2.2 with
  | true =>
    rw [hb] at goI
    refine ⟨_, _, _, _, _, _, _, _, _, _, _, _, _, badS ?_, goI _ (readI_bad _ _ _ _ _ _ _ _ _), fun h => by cases h⟩
    by_cases h7 : d.length < 7
    · exact .inl h7
    refine .inr ⟨by omega, ?_⟩
    by_cases hs : d.length < 7 + (d[4]).toNat
    · exact hs
    exfalso
    rw [takeT_yes (by omega)] at hT1; subst hT1; dsimp only at hT2
    rw [takeT_yes (by simp only [List.length_drop]; omega)] at hT2; subst hT2; dsimp only at hT3
    rw [takeT_yes (by simp only [List.length_drop]; omega)] at hT3; subst hT3; dsimp only at hT4
    rw [takeT_yes (by simp only [List.length_drop]; omega)] at hT4; subst hT4; dsimp only at hT5
    rw [takeT_yes (by simp only [List.length_drop]; omega)] at hT5; subst hT5; dsimp only at hT6 hT7
    rw [takeT_yes (by simp only [List.length_drop]; omega)] at hT6; subst hT6; dsimp only at hT7
    have e5 : ff (((((d.drop 1).drop 1).drop 1).drop 1).take 1) = (d[4]).toNat := by
      simp only [List.drop_drop, Nat.reduceAdd]
      exact numL_one d 4 (by omega)
    rw [takeT_yes (by rw [e5]; simp only [List.length_drop]; omega)] at hT7
    subst hT7
    cases hb
  | false =>
    rw [hb] at goI
    rw [← hT7] at hb
    obtain ⟨b6, c7, e7⟩ := takeT_ok hb
    rw [← hT6] at b6
    obtain ⟨b5, c6, e6⟩ := takeT_ok b6
    rw [← hT5] at b5
    obtain ⟨b4, c5, e5⟩ := takeT_ok b5
    rw [← hT4] at b4
    obtain ⟨b3, c4, e4⟩ := takeT_ok b4
    rw [← hT3] at b3
    obtain ⟨b2, c3, e3⟩ := takeT_ok b3
    rw [← hT2] at b2
    obtain ⟨b1, c2, e2⟩ := takeT_ok b2
    rw [← hT1] at b1
    obtain ⟨-, c1, e1⟩ := takeT_ok b1
    rw [e1] at hT1; subst hT1; dsimp only at e2 c2 hT2
    rw [e2] at hT2; subst hT2; dsimp only at e3 c3 hT3
    rw [e3] at hT3; subst hT3; dsimp only at e4 c4 hT4
    rw [e4] at hT4; subst hT4; dsimp only at e5 c5 hT5
    rw [e5] at hT5; subst hT5; dsimp only at e6 c6 hT6 c7 e7 hT7
    rw [e6] at hT6; subst hT6; dsimp only at c7 e7 hT7
    rw [e7] at hT7; subst hT7; dsimp only at goI
    simp only [List.length_drop] at c2 c3 c4 c5 c6 c7
    simp only [List.drop_drop, Nat.reduceAdd] at c7 goI
    clear t1 t2 t3 t4 t5 t6 t7 l1 l2 l3 l4 l5 l6 l7 e1 e2 e3 e4 e5 e6 e7 b1 b2 b3 b4 b5 b6
    have n0 : ff (d.take 1) = (d[0]).toNat := numL_one d 0 (by omega)
    have n1 : ff ((d.drop 1).take 1) = (d[1]).toNat := numL_one d 1 (by omega)
    have n2 : ff ((d.drop 2).take 1) = (d[2]).toNat := numL_one d 2 (by omega)
    have n3 : ff ((d.drop 3).take 1) = (d[3]).toNat := numL_one d 3 (by omega)
    have n4 : ff ((d.drop 4).take 1) = (d[4]).toNat := numL_one d 4 (by omega)
    rw [n4] at c7
    rw [n0, n1, n2, n3, n4] at goI
    have h3 := (d[3]).toNat_lt
    have h4 := (d[4]).toNat_lt
    have hu := numS_ev ((d.drop 5).take 2) (by rw [List.length_take]; omega)
    generalize ff ((d.drop 5).take 2) = u at *
    have goS : ∀ q, Ev (fun k => bz.l0 k (bs d) ((7 + (d[4]).toNat : Nat) : Int) ((d[3]).toNat : Int) ((d[0]).toNat : Int) (u : Int) ((d[1]).toNat : Int) ((d[2]).toNat : Int) (bs ((d.drop 7).take (d[4]).toNat)) []) q -> Ev (fun k => bz.f k (bs d)) q := by
      intro q H
      unfold bz.f
      have i0 : bt (bs d) 0 = ((d[0]).toNat : Int) := bt_bs d 0 (by omega)
      have i1 : bt (bs d) 1 = ((d[1]).toNat : Int) := bt_bs d 1 (by omega)
      have i2 : bt (bs d) 2 = ((d[2]).toNat : Int) := bt_bs d 2 (by omega)
      have i3 : bt (bs d) 3 = ((d[3]).toNat : Int) := bt_bs d 3 (by omega)
      have i4 : bt (bs d) 4 = ((d[4]).toNat : Int) := bt_bs d 4 (by omega)
      have q0 := (d[0]).toNat_lt
      have q1 := (d[1]).toNat_lt
      have q2 := (d[2]).toNat_lt
      have w7 : wrap64 (7 + wrap64 (bt (bs d) 4)) = ((7 + (d[4]).toNat : Nat) : Int) := by
        rw [i4, w64 (x := ((d[4]).toNat : Int)) (by omega) (by omega), w64 (by omega) (by omega)]; omega
      refine bv (by rw [ee]; omega) (bp (by rw [ee]; omega) ?_)
      rw [w7, ee, decide_eq_false (by clear w7; omega)]
      refine Ev.step (fun _ => bz.j0.eq_2 ..) (bv (by simp) ?_)
      rw [w7, ee, i0, i1, i2, i3]
      clear w7 i0 i1 i2 i3 i4
      have x1 : (bs d).extract 5 7 = bs ((d.drop 5).take 2) := by rw [bs_extract, List.drop_take]
      have x2 : (bs d).extract 7 (((7 + (d[4]).toNat : Nat) : Int)).toNat = bs ((d.drop 7).take (d[4]).toNat) := by
        rw [bs_extract, Int.toNat_natCast, List.drop_take]; congr 2; omega
      rw [x1, x2, w64 (x := ((d[0]).toNat : Int)) (by omega) (by omega), w64 (x := ((d[1]).toNat : Int)) (by omega) (by omega), w64 (x := ((d[2]).toNat : Int)) (by omega) (by omega), w64 (x := ((d[3]).toNat : Int)) (by omega) (by omega)]
      exact bp (by omega) (bp (by omega) (bp (by omega) (bp (by omega) (bp (by omega) (bp (by omega) (Ev.bind hu (bp (by omega) (bp (by omega) (bp (by omega) H)))))))))
    have hnm : (bs ((d.drop 7).take (d[4]).toNat)).size <= 1099511627776 := by rw [ee, List.length_take]; omega
    have hS := readS_items ((d[0]).toNat : Int) (u : Int) ((d[1]).toNat : Int) ((d[2]).toNat : Int) (bs ((d.drop 7).take (d[4]).toNat)) d hd hnm (d[3]).toNat (7 + (d[4]).toNat) [] (by omega) (by simp; omega)
    have hI := readI_items ((d[0]).toNat : Int) (u : Int) ((d[1]).toNat : Int) ((d[2]).toNat : Int) (bs ((d.drop 7).take (d[4]).toNat)) hnm (d[3]).toNat (by omega) (d[3]).toNat 0 (d.drop (7 + (d[4]).toNat)) [] (by omega) (by rw [List.length_drop]; omega) (by simp; omega)
    cases ho : itemsR (d[3]).toNat (d.drop (7 + (d[4]).toNat)) [] with
    | none =>
      obtain ⟨q1, q2, q3, q4, q5, q6, hq⟩ := hI.1 ho
      exact ⟨_, _, _, _, _, _, _, _, _, _, _, _, _, goS _ (hS.1 ho), goI _ hq, fun h => by cases h⟩
    | some o =>
      obtain ⟨l, r⟩ := o
      refine ⟨_, _, _, _, _, _, _, _, _, _, _, _, _, goS _ (hS.2 l r ho), goI _ (hI.2 l r ho), fun h => ⟨rfl, rfl, rfl, rfl, rfl, rfl, ?_⟩⟩
      split at h
      · exact mutB_items h
      cases h
end Go.Proofs.YtifkmkiljpeaaadGreat.PFnExactCommit
end
section
set_option linter.unusedVariables false
set_option linter.unusedSimpArgs false
namespace Go.Proofs.YtifkmkiljpeaaadGreat.PFnExactCommit
open Go.RowKit Go.Proofs.YtifkmkiljpeaaadGreatW.PrintWords
theorem addL_small : ∀ (l : List S84) (b : S82), b.f3.length <= 30 /\ b.f4.length <= 60 -> (addL b l).1.f3.length <= 30 /\ (addL b l).1.f4.length <= 60
  | [], b, h => h
  | x :: r, b, h => by
    unfold addL
    split; · exact h
    split; · exact h
    split; · exact h
    exact addL_small r _ ⟨by simp; omega, by simp; omega⟩
theorem small_set {xs : List S82} (h : SmallS xs) (i : Nat) {b : S82} (hb : b.f3.length <= 30 /\ b.f4.length <= 60) : SmallS (xs.set i b) := by
  refine ⟨by rw [List.length_set]; exact h.1, fun y hy => ?_⟩
  rcases List.mem_or_eq_of_mem_set hy with hy | rfl
  · exact h.2 y hy
  exact hb
theorem mutL_small {xs : List S82} (h : SmallS xs) (k u m f : Int) (nm : ByteArray) (l : List S84) (h0 : (gi xs k u m f nm l).2 = 0) : SmallS (gi xs k u m f nm l).1 := by
  have hrd : ∀ i : Nat, i < xs.length -> (ax xs (i : Int)).f3.length <= 30 /\ (ax xs (i : Int)).f4.length <= 60 := fun i hi => by rw [rdBox xs i hi]; exact h.2 _ (List.getElem_mem hi)
  unfold gi at h0 ⊢
  split
  · next hk =>
    rw [if_pos hk] at h0
    split
    · exact h
    split
    · exact h
    refine ⟨by have := h.1; simp; omega, fun y hy => ?_⟩
    rcases List.mem_append.mp hy with hy | hy
    · exact h.2 y hy
    rw [List.mem_singleton] at hy; subst hy; exact ⟨by simp, by simp⟩
  split
  · exact h
  next hn =>
  rcases idxN_lt nm xs 0 with hx | ⟨i, hi, -, hil⟩
  · exact absurd (by simpa using hx) hn
  have hi' : idxN nm xs 0 = (i : Int) := by simpa using hi
  have hil' : i < xs.length := by omega
  have hb := hrd i hil'
  rw [hi']
  rw [Int.toNat_natCast]
  split
  · exact small_set h i (addL_small l _ hb)
  split
  · refine small_set h i ?_
    unfold flagsL
    split
    · exact hb
    exact ⟨by simpa using hb.1, hb.2⟩
  exact small_set h i ⟨Nat.le_trans (List.length_filter_le _ _) hb.1, hb.2⟩
theorem replF_both : ∀ (rs : List Bytes), (∀ r ∈ rs, r.length <= 20000) -> ∀ xs, SmallS xs -> ∃ o, Ev (fun k => replF (bz.f k) (rs.map bs) xs) o /\ Ev (fun k => replF (br.f k) (rs.map bs) xs) o /\ (∀ ys, o = some ys -> SmallS ys)
  | [], _, xs, h => ⟨some xs, bq rfl, bq rfl, fun ys e => by injection e with e; exact e ▸ h⟩
  | r :: rs, hr, xs, h => by
    obtain ⟨p1, p2, p3, p4, p5, p6, b, q1, q2, q3, q4, q5, q6, hS, hI, hb⟩ := read_both r (hr r (List.mem_cons_self ..))
    simp only [List.map_cons, replF]
    cases b with
    | false => exact ⟨none, Ev.bind hS (bv (by simp) (bq rfl)), Ev.bind hI (bv (by simp) (bq rfl)), fun ys e => by cases e⟩
    | true =>
      obtain ⟨rfl, rfl, rfl, rfl, rfl, rfl, h20⟩ := hb rfl
      have hsm : SmallB xs /\ q6.length <= 1048576 := ⟨⟨by have := h.1; omega, fun b hb => by have := h.2 b hb; omega⟩, by omega⟩
      by_cases h0 : (gi xs q1 q2 q3 q4 q5 q6).2 = 0
      · obtain ⟨o, o1, o2, o3⟩ := replF_both rs (fun x hx => hr x (List.mem_cons_of_mem _ hx)) _ (mutL_small h q1 q2 q3 q4 q5 q6 h0)
        exact ⟨o, Ev.bind hS (bp rfl (bp hsm (bp h0 o1))), Ev.bind hI (bp rfl (bp hsm (bp h0 o2))), o3⟩
      exact ⟨none, Ev.bind hS (bp rfl (bp hsm (bv h0 (bq rfl)))), Ev.bind hI (bp rfl (bp hsm (bv h0 (bq rfl)))), fun ys e => by cases e⟩
theorem replay_both (room : Int) (d : Bytes) (sure : Int) (hd : d.length <= 65000) : ∃ xs n c, Ev (fun k => gv.f k (bs d)) (xs, n, c) /\ Ev (fun k => fy.f k room (bs d) sure) (xs, n, c) /\ SmallS xs := by
  have hR := recsS_ev d hd
  obtain ⟨k1, k2, -⟩ := recs_ok d
  have hQ : eo.f room (bs d) sure = some ((recs d).1.map bs, ((recs d).2.1 : Int), (recs d).2.2) := by unfold eo.f; rw [if_pos (by rw [ee]; omega)]; rfl
  have hlen : ((recs d).1.map bs).length <= 1048576 := by rw [List.length_map]; omega
  have h0 : SmallS ([] : List S82) := ⟨by simp, by simp⟩
  obtain ⟨o, o1, o2, o3⟩ := replF_both (recs d).1 (fun r hr => (k1 r hr).2) [] h0
  unfold gv.f fy.f
  cases o with
  | none => exact ⟨[], 0, 3, Ev.bind hR (bp hlen (Ev.bind o1 (bq rfl))), cj hQ (bp hlen (Ev.bind o2 (bq rfl))), h0⟩
  | some xs =>
    by_cases h8 : (recs d).2.2 = 8
    · exact ⟨[], 0, 8, Ev.bind hR (bp hlen (Ev.bind o1 (bp h8 (bq rfl)))), cj hQ (bp hlen (Ev.bind o2 (bp h8 (bq rfl)))), h0⟩
    exact ⟨xs, _, 0, Ev.bind hR (bp hlen (Ev.bind o1 (bv h8 (bq rfl)))), cj hQ (bp hlen (Ev.bind o2 (bv h8 (bq rfl)))), o3 xs rfl⟩
def eqM (a b : S113) : Bool := (a.f0 == b.f0) && ((a.f1 == b.f1) && (a.f2.toList == b.f2.toList))
def sameM : List S113 -> List S113 -> Bool
  | a :: x, b :: y => eqM a b && sameM x y
  | _, _ => true
def sameK : List ByteArray -> List ByteArray -> Bool
  | a :: x, b :: y => (a.toList == b.toList) && sameK x y
  | _, _ => true
theorem neqM (a b : S113) : (!(a.f0 == b.f0) || (!(a.f1 == b.f1) || (!(a.f2.toList == b.f2.toList)))) = !(eqM a b) := by
  unfold eqM
  cases (a.f0 == b.f0) <;> cases (a.f1 == b.f1) <;> cases (a.f2.toList == b.f2.toList) <;> rfl
theorem sameM_drop {x y : List S113} {i : Nat} (hx : i < x.length) (hy : i < y.length) : sameM (x.drop i) (y.drop i) = (eqM x[i] y[i] && sameM (x.drop (i + 1)) (y.drop (i + 1))) := by
  rw [List.drop_eq_getElem_cons hx, List.drop_eq_getElem_cons hy, sameM]
theorem sameK_drop {x y : List ByteArray} {i : Nat} (hx : i < x.length) (hy : i < y.length) : sameK (x.drop i) (y.drop i) = ((x[i].toList == y[i].toList) && sameK (x.drop (i + 1)) (y.drop (i + 1))) := by
  rw [List.drop_eq_getElem_cons hx, List.drop_eq_getElem_cons hy, sameK]
section
variable (l0 l1 : List S82) (p : Int) (n : ByteArray) (v x : Int) (ms : List S113) (ks : List ByteArray) (n' : ByteArray) (v' x' : Int) (ms' : List S113) (ks' : List ByteArray)
theorem sameS_l2 (hk : ks.length = ks'.length) (hl : ks.length <= 1048576) : ∀ (m i : Nat), i + m = ks.length ->
    (sameK (ks.drop i) (ks'.drop i) = false -> Ev (fun k => ca.l2 k l0 l1 p i n v x ms ks n' v' x' ms' ks') false) /\
    (sameK (ks.drop i) (ks'.drop i) = true -> ∀ r, Ev (fun k => ca.l0 k l0 l1 (wrap64 (p + 1))) r -> Ev (fun k => ca.l2 k l0 l1 p i n v x ms ks n' v' x' ms' ks') r) := by
  intro m
  induction m with
  | zero =>
    intro i hi
    rw [List.drop_of_length_le (by omega)]
    exact ⟨fun h => (by simp [sameK] at h), fun _ r H => Ev.step (fun _ => ca.l2.eq_2 ..) (bv (by omega) H)⟩
  | succ m ih =>
    intro i hi
    have hx : i < ks.length := by omega
    have hy : i < ks'.length := by omega
    rw [sameK_drop hx hy]
    obtain ⟨i1, i2⟩ := ih (i + 1) (by omega)
    by_cases h : ks[i].toList = ks'[i].toList
    · rw [beq_iff_eq.mpr h, Bool.true_and]
      have go : ∀ r, Ev (fun k => ca.l2 k l0 l1 p ((i + 1 : Nat) : Int) n v x ms ks n' v' x' ms' ks') r -> Ev (fun k => ca.l2 k l0 l1 p i n v x ms ks n' v' x' ms' ks') r := by
        intro r H
        refine Ev.step (fun _ => ca.l2.eq_2 ..) (bp (by omega) (bp (by omega) (bp (by omega) ?_)))
        rw [rdOf_nat _ ks i hx, rdOf_nat _ ks' i hy, w64n (by omega)]
        exact bp h H
      exact ⟨fun e => go _ (i1 e), fun e r H => go _ (i2 e r H)⟩
    rw [beq_eq_false_iff_ne.mpr h, Bool.false_and]
    refine ⟨fun _ => ?_, fun e => by cases e⟩
    refine Ev.step (fun _ => ca.l2.eq_2 ..) (bp (by omega) (bp (by omega) (bp (by omega) ?_)))
    rw [rdOf_nat _ ks i hx, rdOf_nat _ ks' i hy]
    exact bv h (bq rfl)
theorem sameS_l1 (hk : ms.length = ms'.length) (hl : ms.length <= 1048576) : ∀ (m i : Nat), i + m = ms.length ->
    (sameM (ms.drop i) (ms'.drop i) = false -> Ev (fun k => ca.l1 k l0 l1 p i n v x ms ks n' v' x' ms' ks') false) /\
    (sameM (ms.drop i) (ms'.drop i) = true -> ∀ r, Ev (fun k => ca.l2 k l0 l1 p 0 n v x ms ks n' v' x' ms' ks') r -> Ev (fun k => ca.l1 k l0 l1 p i n v x ms ks n' v' x' ms' ks') r) := by
  intro m
  induction m with
  | zero =>
    intro i hi
    rw [List.drop_of_length_le (by omega)]
    exact ⟨fun h => (by simp [sameM] at h), fun _ r H => Ev.step (fun _ => ca.l1.eq_2 ..) (bv (by omega) H)⟩
  | succ m ih =>
    intro i hi
    have hx : i < ms.length := by omega
    have hy : i < ms'.length := by omega
    rw [sameM_drop hx hy]
    obtain ⟨i1, i2⟩ := ih (i + 1) (by omega)
    cases h : eqM ms[i] ms'[i] with
    | true =>
      rw [Bool.true_and]
      have go : ∀ r, Ev (fun k => ca.l1 k l0 l1 p ((i + 1 : Nat) : Int) n v x ms ks n' v' x' ms' ks') r -> Ev (fun k => ca.l1 k l0 l1 p i n v x ms ks n' v' x' ms' ks') r := by
        intro r H
        refine Ev.step (fun _ => ca.l1.eq_2 ..) (bp (by omega) (bp (by omega) (bp (by omega) ?_)))
        rw [rd67 ms i hx, rd67 ms' i hy, w64n (by omega), neqM, h]
        exact bv (by simp) H
      exact ⟨fun e => go _ (i1 e), fun e r H => go _ (i2 e r H)⟩
    | false =>
      rw [Bool.false_and]
      refine ⟨fun _ => ?_, fun e => by cases e⟩
      refine Ev.step (fun _ => ca.l1.eq_2 ..) (bp (by omega) (bp (by omega) (bp (by omega) ?_)))
      rw [rd67 ms i hx, rd67 ms' i hy, neqM, h]
      exact bp rfl (bq rfl)
end
theorem eqMs_ev (x y : List S113) (hx : x.length <= 1048576) : Ev (fun k => eb.f k x y) (decide (x.length = y.length) && sameM x y) := by
  unfold eb.f
  by_cases hl : x.length = y.length
  · rw [decide_eq_true hl, Bool.true_and]
    refine bp (by omega) ?_
    have loop : ∀ (m i : Nat), i + m = x.length -> Ev (fun k => eb.l0 k x y (x.length : Int) i) (sameM (x.drop i) (y.drop i)) := by
      intro m
      induction m with
      | zero => intro i hi; rw [List.drop_of_length_le (by omega)]; exact Ev.step (fun _ => eb.l0.eq_2 ..) (bv (by omega) (bq rfl))
      | succ m ih =>
        intro i hi
        have h1 : i < x.length := by omega
        have h2 : i < y.length := by omega
        rw [sameM_drop h1 h2]
        refine Ev.step (fun _ => eb.l0.eq_2 ..) (bp (by omega) (bp (by omega) (bp (by omega) (bp (by omega) ?_))))
        rw [rd67 x i h1, rd67 y i h2, w64n (by omega), neqM]
        cases eqM x[i] y[i] with
        | true => rw [Bool.true_and]; exact bv (by simp) (ih (i + 1) (by omega))
        | false => exact bp rfl (bq rfl)
    have := loop x.length 0 (by omega)
    rwa [List.drop_zero, List.drop_zero] at this
  rw [decide_eq_false hl, Bool.false_and]
  exact bv (by omega) (bq rfl)
theorem eqKs_ev (x y : List ByteArray) (hx : x.length <= 1048576) : Ev (fun k => cp.f k x y) (decide (x.length = y.length) && sameK x y) := by
  unfold cp.f
  by_cases hl : x.length = y.length
  · rw [decide_eq_true hl, Bool.true_and]
    refine bp (by omega) ?_
    have loop : ∀ (m i : Nat), i + m = x.length -> Ev (fun k => cp.l0 k x y (x.length : Int) i) (sameK (x.drop i) (y.drop i)) := by
      intro m
      induction m with
      | zero => intro i hi; rw [List.drop_of_length_le (by omega)]; exact Ev.step (fun _ => cp.l0.eq_2 ..) (bv (by omega) (bq rfl))
      | succ m ih =>
        intro i hi
        have h1 : i < x.length := by omega
        have h2 : i < y.length := by omega
        rw [sameK_drop h1 h2]
        refine Ev.step (fun _ => cp.l0.eq_2 ..) (bp (by omega) (bp (by omega) (bp (by omega) (bp (by omega) ?_))))
        rw [rdOf_nat _ x i h1, rdOf_nat _ y i h2, w64n (by omega)]
        by_cases h : x[i].toList = y[i].toList
        · rw [beq_iff_eq.mpr h, Bool.true_and]; exact bp h (ih (i + 1) (by omega))
        rw [beq_eq_false_iff_ne.mpr h, Bool.false_and]; exact bv h (bq rfl)
    have := loop x.length 0 (by omega)
    rwa [List.drop_zero, List.drop_zero] at this
  rw [decide_eq_false hl, Bool.false_and]
  exact bv (by omega) (bq rfl)
theorem same_both (l0 l1 : List S82) (h0 : l0.length <= 1048576) (hb : ∀ b ∈ l0, b.f3.length <= 1048576 /\ b.f4.length <= 1048576) : ∃ r, Ev (fun k => ca.f k l0 l1) r /\ Ev (fun k => gr.f k l0 l1) r := by
  unfold ca.f gr.f
  by_cases hl : ¬ l0.length = l1.length
  · exact ⟨false, bv (by omega) (bq rfl), bv hl (bq rfl)⟩
  have hl : l0.length = l1.length := by omega
  have loop : ∀ (m i : Nat), i + m = l0.length -> ∃ r, Ev (fun k => ca.l0 k l0 l1 i) r /\ Ev (fun k => sameF k (l0.drop i) (l1.drop i)) r := by
    intro m
    induction m with
    | zero =>
      intro i hi
      rw [List.drop_of_length_le (by omega)]
      exact ⟨true, Ev.step (fun _ => ca.l0.eq_2 ..) (bv (by omega) (bq rfl)), by simp only [sameF]; exact bq rfl⟩
    | succ m ih =>
      intro i hi
      have h1 : i < l0.length := by omega
      have h2 : i < l1.length := by omega
      obtain ⟨r, r1, r2⟩ := ih (i + 1) (by omega)
      have hz := hb l0[i] (List.getElem_mem h1)
      rw [List.drop_eq_getElem_cons h1, List.drop_eq_getElem_cons h2]
      simp only [sameF, sameB]
      have inS : ∀ q, Ev (fun k => if l0[i].f0.toList = l1[i].f0.toList then (if l0[i].f1 = l1[i].f1 then (if l0[i].f2 = l1[i].f2 then (if (l0[i].f3.length : Int) = (l1[i].f3.length : Int) then (ca.j1 k l0 l1 i ((l0[i].f4.length : Int) != (l1[i].f4.length : Int)) l0[i].f0 l0[i].f1 l0[i].f2 l0[i].f3 l0[i].f4 l1[i].f0 l1[i].f1 l1[i].f2 l1[i].f3 l1[i].f4) else some false) else some false) else some false) else some false) q -> Ev (fun k => ca.l0 k l0 l1 i) q := by
        intro q H
        refine Ev.step (fun _ => ca.l0.eq_2 ..) (bp (by omega) (bp (by omega) (bp (by omega) ?_)))
        rw [rdBox l0 i h1, rdBox l1 i h2]
        have bad : ∀ q, Ev (fun k => (some false : Option Bool)) q -> Ev (fun k => ca.j1 k l0 l1 i true l0[i].f0 l0[i].f1 l0[i].f2 l0[i].f3 l0[i].f4 l1[i].f0 l1[i].f1 l1[i].f2 l1[i].f3 l1[i].f4) q := by
          intro q H
          exact Ev.step (fun _ => ca.j1.eq_2 ..) (bp rfl H)
        have cut : ∀ {c : Prop} [Decidable c] {t e e' : Nat -> Option Bool} {q : Bool}, Ev (fun k => if c then t k else e k) q -> (∀ q, Ev e q -> Ev e' q) -> (∀ {t' : Nat -> Option Bool}, (∀ q, Ev t q -> Ev t' q) -> Ev (fun k => if c then t' k else e' k) q) := by
          intro c _ t e e' q h he t' ht
          by_cases hc : c
          · refine bp hc (ht q ?_)
            obtain ⟨K, h⟩ := h
            exact ⟨K, fun k hk => (if_pos hc).symm.trans (h k hk)⟩
          refine bv hc (he q ?_)
          obtain ⟨K, h⟩ := h
          exact ⟨K, fun k hk => (if_neg hc).symm.trans (h k hk)⟩
        exact cut H bad (fun q H => cut H bad (fun q H => cut H bad (fun q H => cut H bad (fun q H => H))))
      by_cases q0 : l0[i].f0.toList = l1[i].f0.toList
      · by_cases q1 : l0[i].f1 = l1[i].f1
        · by_cases q2 : l0[i].f2 = l1[i].f2
          · have hM := eqMs_ev l0[i].f3 l1[i].f3 hz.1
            have hK := eqKs_ev l0[i].f4 l1[i].f4 hz.2
            by_cases q3 : l0[i].f3.length = l1[i].f3.length
            · obtain ⟨m1, m2⟩ := sameS_l1 l0 l1 i l0[i].f0 l0[i].f1 l0[i].f2 l0[i].f3 l0[i].f4 l1[i].f0 l1[i].f1 l1[i].f2 l1[i].f3 l1[i].f4 q3 hz.1 l0[i].f3.length 0 (by omega)
              simp only [List.drop_zero] at m1 m2
              rw [decide_eq_true q3, Bool.true_and] at hM
              by_cases q4 : l0[i].f4.length = l1[i].f4.length
              · obtain ⟨n1, n2⟩ := sameS_l2 l0 l1 i l0[i].f0 l0[i].f1 l0[i].f2 l0[i].f3 l0[i].f4 l1[i].f0 l1[i].f1 l1[i].f2 l1[i].f3 l1[i].f4 q4 hz.2 l0[i].f4.length 0 (by omega)
                simp only [List.drop_zero] at n1 n2
                rw [decide_eq_true q4, Bool.true_and] at hK
                have goS : ∀ q, Ev (fun k => ca.l1 k l0 l1 i 0 l0[i].f0 l0[i].f1 l0[i].f2 l0[i].f3 l0[i].f4 l1[i].f0 l1[i].f1 l1[i].f2 l1[i].f3 l1[i].f4) q -> Ev (fun k => ca.l0 k l0 l1 i) q := by
                  intro q H
                  refine inS q (bp q0 (bp q1 (bp q2 (bp (by omega) (Ev.step (fun _ => ca.j1.eq_2 ..) (bv ?_ H))))))
                  rw [q4]; simp
                cases hm : sameM l0[i].f3 l1[i].f3 with
                | false =>
                  rw [hm] at hM
                  exact ⟨false, goS _ (m1 hm), Ev.bind (a := false) (bp q0 (bp q1 (bp q2 (Ev.bind hM (bv (by simp) (bq rfl)))))) (bv (by simp) (bq rfl))⟩
                | true =>
                  rw [hm] at hM
                  cases hk : sameK l0[i].f4 l1[i].f4 with
                  | false =>
                    rw [hk] at hK
                    exact ⟨false, goS _ (m2 hm _ (n1 hk)), Ev.bind (a := false) (bp q0 (bp q1 (bp q2 (Ev.bind hM (bp rfl hK))))) (bv (by simp) (bq rfl))⟩
                  | true =>
                    rw [hk] at hK
                    refine ⟨r, goS _ (m2 hm _ (n2 hk _ ?_)), Ev.bind (a := true) (bp q0 (bp q1 (bp q2 (Ev.bind hM (bp rfl hK))))) (bp rfl r2)⟩
                    rw [w64n (by omega)]; exact r1
              rw [decide_eq_false q4, Bool.false_and] at hK
              have hj : ((l0[i].f4.length : Int) != (l1[i].f4.length : Int)) = true := bne_iff_ne.mpr (by omega)
              refine ⟨false, inS _ (bp q0 (bp q1 (bp q2 (bp (by omega) (Ev.step (fun _ => ca.j1.eq_2 ..) (bp hj (bq rfl))))))), ?_⟩
              cases hm : sameM l0[i].f3 l1[i].f3 with
              | false => rw [hm] at hM; exact Ev.bind (a := false) (bp q0 (bp q1 (bp q2 (Ev.bind hM (bv (by simp) (bq rfl)))))) (bv (by simp) (bq rfl))
              | true => rw [hm] at hM; exact Ev.bind (a := false) (bp q0 (bp q1 (bp q2 (Ev.bind hM (bp rfl hK))))) (bv (by simp) (bq rfl))
            rw [decide_eq_false q3, Bool.false_and] at hM
            exact ⟨false, inS _ (bp q0 (bp q1 (bp q2 (bv (by omega) (bq rfl))))), Ev.bind (a := false) (bp q0 (bp q1 (bp q2 (Ev.bind hM (bv (by simp) (bq rfl)))))) (bv (by simp) (bq rfl))⟩
          exact ⟨false, inS _ (bp q0 (bp q1 (bv q2 (bq rfl)))), Ev.bind (a := false) (bp q0 (bp q1 (bv q2 (bq rfl)))) (bv (by simp) (bq rfl))⟩
        exact ⟨false, inS _ (bp q0 (bv q1 (bq rfl))), Ev.bind (a := false) (bp q0 (bv q1 (bq rfl))) (bv (by simp) (bq rfl))⟩
      exact ⟨false, inS _ (bv q0 (bq rfl)), Ev.bind (a := false) (bv q0 (bq rfl)) (bv (by simp) (bq rfl))⟩
  obtain ⟨r, r1, r2⟩ := loop l0.length 0 (by omega)
  simp only [List.drop_zero] at r2
  exact ⟨r, bp (by omega) r1, bp hl (bp (by omega) r2)⟩
theorem logS_f (room : Int) (t : ByteArray) (sure : Int) : spec_LogOK.f room t sure = some (inB room 0 60000 && (decide ((t.size : Int) <= room) && inB sure 0 t.size)) := by
  unfold spec_LogOK.f
  rw [l01In_f, l01In_f]
  cases inB room 0 60000 with
  | false => rfl
  | true =>
    by_cases h : (t.size : Int) <= room
    · rw [decide_eq_true h]; show (if (t.size : Int) <= room then _ else _) = _; rw [if_pos h]; rfl
    rw [decide_eq_false h]; show (if (t.size : Int) <= room then _ else _) = _; rw [if_neg h]; rfl
theorem logI_f (room : Int) (t : ByteArray) (sure : Int) : impl_LogOK.f room t sure = some (inB room 0 60000 && (decide ((t.size : Int) <= room) && inB sure 0 t.size)) := by
  unfold impl_LogOK.f
  rw [within_f, within_f]
  cases inB room 0 60000 with
  | false => rfl
  | true =>
    by_cases h : (t.size : Int) <= room
    · rw [decide_eq_true h]; show (if (t.size : Int) <= room then _ else _) = _; rw [if_pos h]; rfl
    rw [decide_eq_false h]; show (if (t.size : Int) <= room then _ else _) = _; rw [if_neg h]; rfl
theorem engine_both (room : Int) (t : ByteArray) (sure : Int) (l : List S82) (hn : ∀ b ∈ l, b.f0.size <= 1099511627776) : ∃ r, Ev (fun k => cx.f k room t sure l) r /\ Ev (fun k => eh.f k room t sure l) r /\ (r = true -> l.length <= 4 /\ (t.size : Int) <= room /\ room <= 60000) := by
  obtain ⟨d, rfl⟩ : ∃ d, t = bs d := ⟨t.data.toList, (bs_of t).symm⟩
  have badS : Ev (fun k => cx.j0 k true room (bs d) sure l) false := Ev.step (fun _ => cx.j0.eq_2 ..) (bp rfl (bq rfl))
  have badI : Ev (fun k => eh.j0 k true room (bs d) sure l) false := Ev.step (fun _ => eh.j0.eq_2 ..) (bp rfl (bq rfl))
  unfold cx.f eh.f
  have hS := logS_f room (bs d) sure
  have hI := logI_f room (bs d) sure
  cases hb : (inB room 0 60000 && (decide (((bs d).size : Int) <= room) && inB sure 0 (bs d).size)) with
  | false => rw [hb] at hS hI; exact ⟨false, cj hS (bv (by simp) badS), cj hI (bv (by simp) badI), fun h => by cases h⟩
  | true =>
    rw [hb] at hS hI
    simp only [Bool.and_eq_true, decide_eq_true_eq, inB_iff] at hb
    rw [ee] at hb
    have hd : d.length <= 65000 := by omega
    by_cases hs : sure = ((bs d).size : Int)
    · obtain ⟨b, b1, b2, b3⟩ := store_both l hn
      cases b with
      | false => exact ⟨false, cj hS (bp rfl (bp hs (Ev.bind b1 badS))), cj hI (bp rfl (bp hs (Ev.bind b2 badI))), fun h => by cases h⟩
      | true =>
        have hR := recsS_ev d hd
        have hQ : eo.f room (bs d) sure = some ((recs d).1.map bs, ((recs d).2.1 : Int), (recs d).2.2) := by unfold eo.f; rw [if_pos (by rw [ee]; omega)]; rfl
        obtain ⟨-, -, k3⟩ := recs_ok d
        have goS : ∀ q, Ev (fun k => if (recs d).2.2 = 0 then (cx.j1 k (((recs d).2.1 : Int) != ((bs d).size : Int)) room (bs d) sure l) else (cx.j1 k true room (bs d) sure l)) q -> Ev (fun k => cx.j0 k (!true) room (bs d) sure l) q := by
          intro q H
          exact Ev.step (fun _ => cx.j0.eq_2 ..) (bv (by simp) (Ev.bind hR H))
        have goI : ∀ q, Ev (fun k => if (recs d).2.2 = 0 then ((fy.f k room (bs d) sure).bind fun bt => (if bt.2.2 = 0 then ((gr.f k bt.1 l).bind fun t => (some t)) else (some false))) else (some false)) q -> Ev (fun k => eh.j0 k (!true) room (bs d) sure l) q := by
          intro q H
          exact Ev.step (fun _ => eh.j0.eq_2 ..) (bv (by simp) (cj hQ H))
        by_cases h0 : (recs d).2.2 = 0
        · obtain ⟨xs, n, c, r1, r2, r3⟩ := replay_both room d sure hd
          have hat : (((recs d).2.1 : Int) != ((bs d).size : Int)) = false := bne_eq_false_iff_eq.mpr (by rw [ee, k3 h0])
          rw [hat] at goS
          by_cases hc : c = 0
          · obtain ⟨r, s1, s2⟩ := same_both xs l (by have := r3.1; omega) (fun b hb => by have := r3.2 b hb; omega)
            refine ⟨r, cj hS (bp rfl (bp hs (Ev.bind b1 (goS r (bp h0 (Ev.step (fun _ => cx.j1.eq_2 ..) (bv (by simp) (Ev.bind r1 (bp hc (Ev.bind s1 (bq rfl))))))))))), cj hI (bp rfl (bp hs (Ev.bind b2 (goI r (bp h0 (Ev.bind r2 (bp hc (Ev.bind s2 (bq rfl))))))))), fun _ => ⟨b3 rfl, by rw [ee]; omega, by omega⟩⟩
          exact ⟨false, cj hS (bp rfl (bp hs (Ev.bind b1 (goS false (bp h0 (Ev.step (fun _ => cx.j1.eq_2 ..) (bv (by simp) (Ev.bind r1 (bv hc (bq rfl)))))))))), cj hI (bp rfl (bp hs (Ev.bind b2 (goI false (bp h0 (Ev.bind r2 (bv hc (bq rfl)))))))), fun h => by cases h⟩
        exact ⟨false, cj hS (bp rfl (bp hs (Ev.bind b1 (goS false (bv h0 (Ev.step (fun _ => cx.j1.eq_2 ..) (bp rfl (bq rfl)))))))), cj hI (bp rfl (bp hs (Ev.bind b2 (goI false (bv h0 (bq rfl)))))), fun h => by cases h⟩
    exact ⟨false, cj hS (bp rfl (bv hs badS)), cj hI (bp rfl (bv hs badI)), fun h => by cases h⟩
end Go.Proofs.YtifkmkiljpeaaadGreat.PFnExactCommit
end
section
set_option linter.unusedVariables false
set_option linter.unusedSimpArgs false
namespace Go.Proofs.YtifkmkiljpeaaadGreat.PFnExactCommit
open Go.RowKit Go.Proofs.YtifkmkiljpeaaadGreatW.PrintWords
theorem set_step {α : Type} (x S : List α) (i : Nat) (a : α) (hx : i < x.length) (h : x.take i = S) : (x.set i a).take (i + 1) = S ++ [a] := by
  rw [List.take_succ_eq_append_getElem (by simpa using hx), List.take_set_of_le (Nat.le_refl _), h, List.getElem_set_self]
def toS (x : S136) : S113 := ⟨x.f0, x.f1, x.f2⟩
theorem rd64 (l : List S136) (i : Nat) (h : i < l.length) : au l (i : Int) = l[i] := by
  unfold au; simp [List.getD, List.getElem?_eq_getElem h]
theorem toStoredS_ev (l : List S136) (hl : l.length <= 1099511627776) : Ev (fun k => dw.f k l) (l.map toS) := by
  have loop : ∀ (m i : Nat) (x : List S113), i + m = l.length -> x.length = l.length -> x.take i = (l.take i).map toS -> Ev (fun k => dw.l0 k l x i) (l.map toS) := by
    intro m
    induction m with
    | zero =>
      intro i x hi hx h
      rw [List.take_of_length_le (by omega), List.take_of_length_le (by omega)] at h
      exact Ev.step (fun _ => dw.l0.eq_2 ..) (bv (by omega) (bq h))
    | succ m ih =>
      intro i x hi hx h
      have hlt : i < l.length := by omega
      refine Ev.step (fun _ => dw.l0.eq_2 ..) (bp (by omega) (bp (by omega) (cj rfl (bp (by omega) ?_))))
      rw [rd64 l i hlt, w64n (by omega), Int.toNat_natCast]
      refine ih (i + 1) _ (by omega) (by simpa using hx) ?_
      rw [set_step x _ i _ (by omega) h, List.take_succ_eq_append_getElem hlt, List.map_append]; rfl
  unfold dw.f
  exact bp (by omega) (bp (by omega) (loop l.length 0 _ (by omega) (by simp) (by simp)))
theorem eqStoredS_refl (l : List S113) (hl : l.length <= 1099511627776) : Ev (fun k => cv.f k l l) true := by
  have loop : ∀ (m i : Nat), i + m = l.length -> Ev (fun k => cv.l0 k l l i) true := by
    intro m
    induction m with
    | zero => intro i hi; exact Ev.step (fun _ => cv.l0.eq_2 ..) (bv (by omega) (bq rfl))
    | succ m ih =>
      intro i hi
      refine Ev.step (fun _ => cv.l0.eq_2 ..) (bp (by omega) (bp (by omega) (bp (by omega) (cj (a := true) ?_ (bp rfl ?_)))))
      · unfold laws_eqStored.f; rw [if_pos rfl, if_pos rfl, if_pos rfl]
      rw [w64n (by omega)]; exact ih (i + 1) (by omega)
  unfold cv.f
  exact bp rfl (loop l.length 0 (by omega))
theorem toStringS_ev (l : List ByteArray) (hl : l.length <= 1099511627776) : Ev (fun k => dz.f k l) l := by
  have loop : ∀ (m i : Nat) (a : List ByteArray), i + m = l.length -> a.length = l.length -> a.take i = l.take i -> Ev (fun k => dz.l0 k l a i) l := by
    intro m
    induction m with
    | zero =>
      intro i a hi ha ht
      rw [List.take_of_length_le (by omega), List.take_of_length_le (by omega)] at ht
      subst ht
      exact Ev.step (fun _ => dz.l0.eq_2 ..) (bv (by omega) (bq rfl))
    | succ m ih =>
      intro i a hi ha ht
      refine Ev.step (fun _ => dz.l0.eq_2 ..) (bp (by omega) (bp (by omega) (bp (by omega) ?_)))
      rw [w64n (by omega), rdOf_nat _ l i (by omega), Int.toNat_natCast]
      refine ih (i + 1) _ (by omega) (by simp; omega) ?_
      rw [List.take_succ_eq_append_getElem (by simp; omega), List.take_succ_eq_append_getElem (by omega : i < l.length), List.take_set_of_le (Nat.le_refl _), ht, List.getElem_set_self]
  unfold dz.f
  refine bp (by omega) (bp (by omega) ?_)
  exact loop l.length 0 _ (by omega) (by simp) (by simp)
theorem eqStringS_refl (l : List ByteArray) (hl : l.length <= 1099511627776) : Ev (fun k => ec.f k l l) true := by
  have loop : ∀ m i : Nat, i + m = l.length -> Ev (fun k => ec.l0 k l l i) true := by
    intro m
    induction m with
    | zero => intro i hi; exact Ev.step (fun _ => ec.l0.eq_2 ..) (bv (by omega) (bq rfl))
    | succ m ih =>
      intro i hi
      refine Ev.step (fun _ => ec.l0.eq_2 ..) (bp (by omega) (bp (by omega) (bp (by omega) (bp rfl ?_))))
      rw [w64n (by omega)]
      exact ih (i + 1) (by omega)
  unfold ec.f
  exact bp rfl (loop l.length 0 (by omega))
theorem szStoredS_ev (l : List S136) (hl : l.length <= maxLen) (hs : ∀ x ∈ l, x.f2.size <= maxLen) (left : Int) (h0 : 0 <= left) (h1 : left <= 1048576) : ∃ r, Ev (fun k => dt.f k l left) r /\ r <= 1048576 /\ (0 <= r -> l.length <= 1048576 /\ ∀ x ∈ l, x.f2.size <= 1048576) := by
  have hm : maxLen = 9223372036854775807 := by decide
  have one : ∀ (a b : Int) (t : ByteArray) (f : Int), t.size <= maxLen -> 0 <= f -> f <= 1048576 -> laws_szStored.f a b t f = some (if f - (t.size : Int) < 0 then -1 else f - (t.size : Int)) := by
    intro a b t f ht h0 h1
    unfold laws_szStored.f
    rw [w64 (by omega) (by omega)]
    split <;> rfl
  have loop : ∀ (m i : Nat) (f : Int), i + m = l.length -> 0 <= f -> f <= 1048576 -> ∃ r, Ev (fun k => dt.l0 k l f i) r /\ r <= 1048576 /\ (0 <= r -> ∀ x ∈ l.drop i, x.f2.size <= 1048576) := by
    intro m
    induction m with
    | zero =>
      intro i f hi h0 h1
      exact ⟨f, Ev.step (fun _ => dt.l0.eq_2 ..) (bv (by omega) (bq rfl)), h1, fun _ x hx => by rw [List.drop_of_length_le (by omega)] at hx; cases hx⟩
    | succ m ih =>
      intro i f hi h0 h1
      have hlt : i < l.length := by omega
      have ho := one (l[i]).f0 (l[i]).f1 (l[i]).f2 f (hs _ (List.getElem_mem hlt)) h0 h1
      by_cases hn : f - ((l[i]).f2.size : Int) < 0
      · rw [if_pos hn] at ho
        refine ⟨-1, Ev.step (fun _ => dt.l0.eq_2 ..) (bp (by omega) (bp (by omega) ?_)), by omega, fun h => by omega⟩
        rw [rd64 l i hlt]
        exact cj ho (bp (by omega) (bq rfl))
      rw [if_neg hn] at ho
      obtain ⟨r, r1, r2, r3⟩ := ih (i + 1) (f - ((l[i]).f2.size : Int)) (by omega) (by omega) (by omega)
      refine ⟨r, Ev.step (fun _ => dt.l0.eq_2 ..) (bp (by omega) (bp (by omega) ?_)), r2, fun h x hx => ?_⟩
      · rw [rd64 l i hlt, w64n (by omega)]
        exact cj ho (bv hn r1)
      rw [List.drop_eq_getElem_cons hlt] at hx
      rcases List.mem_cons.mp hx with rfl | hx
      · omega
      exact r3 h x hx
  unfold dt.f
  rw [w64 (by omega) (by omega)]
  by_cases hn : left - (l.length : Int) < 0
  · exact ⟨-1, bp hn (bq rfl), by omega, fun h => by omega⟩
  obtain ⟨r, r1, r2, r3⟩ := loop l.length 0 (left - (l.length : Int)) (by omega) (by omega) (by omega)
  exact ⟨r, bv hn r1, r2, fun h => ⟨by omega, by have := r3 h; rwa [List.drop_zero] at this⟩⟩
theorem toBox_ev (n : ByteArray) (v x : Int) (l : List S136) (ks : List ByteArray) (hl : l.length <= 1099511627776) (hk : ks.length <= 1099511627776) : Ev (fun k => laws_toBox.f k n v x l ks) (n, v, x, l.map toS, ks) := by
  unfold laws_toBox.f
  exact Ev.bind (toStoredS_ev l hl) (Ev.bind (toStringS_ev ks hk) (bq rfl))
theorem eqBox_refl (n : ByteArray) (v x : Int) (l : List S113) (ks : List ByteArray) (hl : l.length <= 1099511627776) (hk : ks.length <= 1099511627776) : Ev (fun k => laws_eqBox.f k n v x l ks n v x l ks) true := by
  unfold laws_eqBox.f
  exact bp rfl (bp rfl (bp rfl (Ev.bind (eqStoredS_refl l hl) (bp rfl (Ev.bind (eqStringS_refl ks hk) (bp rfl (bq rfl)))))))
theorem szStringS_evG (l : List ByteArray) (hl : l.length <= maxLen) (hs : ∀ t ∈ l, t.size <= maxLen) (left : Int) (h0 : 0 <= left) (h1 : left <= 1048576) : ∃ r, Ev (fun k => dy.f k l left) r /\ r <= 1048576 /\ (0 <= r -> l.length <= 1048576 /\ ∀ t ∈ l, t.size <= 1048576) := by
  have hm : maxLen = 9223372036854775807 := by decide
  rw [hm] at hl hs
  have loop : ∀ (m i : Nat) (a : Int), i + m = l.length -> 0 <= a -> a <= 1048576 -> ∃ r, Ev (fun k => dy.l0 k l a i) r /\ r <= 1048576 /\ (0 <= r -> ∀ t ∈ l.drop i, t.size <= 1048576) := by
    intro m
    induction m with
    | zero => intro i a hi h0 h1; exact ⟨a, Ev.step (fun _ => dy.l0.eq_2 ..) (bv (by omega) (bq rfl)), h1, fun _ => by rw [List.drop_of_length_le (by omega)]; simp⟩
    | succ m ih =>
      intro i a hi h0 h1
      have hlt : i < l.length := by omega
      have hz := hs l[i] (List.getElem_mem hlt)
      by_cases hn : a - (l[i].size : Int) < 0
      · refine ⟨-1, Ev.step (fun _ => dy.l0.eq_2 ..) (bp (by omega) (bp (by omega) ?_)), by omega, fun h => by omega⟩
        rw [rdOf_nat _ l i hlt, w64 (by omega) (by omega)]
        exact bp hn (bq rfl)
      obtain ⟨r, hr, hr1, hx⟩ := ih (i + 1) (a - (l[i].size : Int)) (by omega) (by omega) (by omega)
      refine ⟨r, Ev.step (fun _ => dy.l0.eq_2 ..) (bp (by omega) (bp (by omega) ?_)), hr1, fun h => ?_⟩
      · rw [rdOf_nat _ l i hlt, w64 (by omega) (by omega)]
        refine bv hn ?_
        rw [w64n (by omega)]
        exact hr
      rw [List.drop_eq_getElem_cons hlt]
      intro t ht
      rcases List.mem_cons.mp ht with rfl | ht
      · omega
      exact hx h t ht
  unfold dy.f
  rw [w64 (by omega) (by omega)]
  by_cases hn : left - (l.length : Int) < 0
  · exact ⟨-1, bp hn (bq rfl), by omega, fun h => by omega⟩
  obtain ⟨r, r1, r2, r3⟩ := loop l.length 0 (left - (l.length : Int)) (by omega) (by omega) (by omega)
  exact ⟨r, bv hn r1, r2, fun h => ⟨by omega, by have := r3 h; rwa [List.drop_zero] at this⟩⟩
theorem szBox_ev (n : ByteArray) (v x : Int) (l : List S136) (ks : List ByteArray) (hn : n.size <= maxLen) (hl : l.length <= maxLen) (hx : ∀ y ∈ l, y.f2.size <= maxLen) (hk : ks.length <= maxLen) (hs : ∀ t ∈ ks, t.size <= maxLen) (left : Int) (h0 : 0 <= left) (h1 : left <= 1048576) :
    ∃ r, Ev (fun k => laws_szBox.f k n v x l ks left) r /\ r <= 1048576 /\ (0 <= r -> n.size <= 1048576 /\ l.length <= 1048576 /\ ks.length <= 1048576 /\ (∀ y ∈ l, y.f2.size <= 1048576) /\ ∀ t ∈ ks, t.size <= 1048576) := by
  have hm : maxLen = 9223372036854775807 := by decide
  rw [hm] at hn
  unfold laws_szBox.f
  rw [w64 (by omega) (by omega)]
  by_cases h : left - (n.size : Int) < 0
  · exact ⟨-1, bp h (bq rfl), by omega, fun h => by omega⟩
  obtain ⟨r, r1, r2, r3⟩ := szStoredS_ev l hl hx (left - (n.size : Int)) (by omega) (by omega)
  by_cases h2 : r < 0
  · exact ⟨-1, bv h (Ev.bind r1 (bp h2 (bq rfl))), by omega, fun h => by omega⟩
  obtain ⟨q, q1, q2, q3⟩ := szStringS_evG ks hk hs r (by omega) (by omega)
  by_cases h3 : q < 0
  · exact ⟨-1, bv h (Ev.bind r1 (bv h2 (Ev.bind q1 (bp h3 (bq rfl))))), by omega, fun h => by omega⟩
  exact ⟨q, bv h (Ev.bind r1 (bv h2 (Ev.bind q1 (bv h3 (bq rfl))))), by omega, fun h => ⟨by omega, (r3 (by omega)).1, (q3 h).1, (r3 (by omega)).2, (q3 h).2⟩⟩
theorem addL_len : ∀ (its : List S84) (b : S82), (addL b its).1.f3.length <= b.f3.length + its.length /\ (addL b its).1.f4.length <= b.f4.length + its.length
  | [], b => by simp [addL]
  | x :: r, b => by
    unfold addL
    split
    · simp only [List.length_cons]; omega
    split
    · simp only [List.length_cons]; omega
    split
    · simp only [List.length_cons]; omega
    have := addL_len r ⟨b.f0, b.f1, wrap64 (b.f2 + 1), b.f3 ++ [⟨b.f2, 0, x.f1⟩], b.f4 ++ [x.f0]⟩
    simp only [List.length_append, List.length_cons, List.length_nil] at this ⊢
    omega
theorem rd_len (xs : List S82) (N : Nat) (h : ∀ b ∈ xs, b.f3.length <= N /\ b.f4.length <= N) (i : Int) : (ax xs i).f3.length <= N /\ (ax xs i).f4.length <= N := by
  unfold ax
  rw [List.getD_eq_getElem?_getD]
  rcases Nat.lt_or_ge i.toNat xs.length with hi | hi
  · rw [List.getElem?_eq_getElem hi]; exact h _ (List.getElem_mem hi)
  rw [List.getElem?_eq_none hi]; simp [z82]
theorem mutL_few (xs : List S82) (kind uid mode flags : Int) (nm : ByteArray) (its : List S84) (hx : ∀ b ∈ xs, b.f3.length <= 1048576 /\ b.f4.length <= 1048576) (hi : its.length <= 1048576) :
    (∀ b ∈ (gi xs kind uid mode flags nm its).1, b.f3.length <= 2097152 /\ b.f4.length <= 2097152) /\ (gi xs kind uid mode flags nm its).1.length <= xs.length + 1 := by
  have hr := rd_len xs 1048576 hx (idxN nm xs 0)
  have set_ok : ∀ (j : Nat) (y : S82), y.f3.length <= 2097152 /\ y.f4.length <= 2097152 -> (∀ b ∈ xs.set j y, b.f3.length <= 2097152 /\ b.f4.length <= 2097152) /\ (xs.set j y).length <= xs.length + 1 := by
    intro j y hy
    refine ⟨fun b hb => ?_, by simp⟩
    rcases List.mem_or_eq_of_mem_set hb with h | h
    · have := hx b h; omega
    rw [h]; exact hy
  unfold gi
  split
  · split
    · exact ⟨fun b hb => by have := hx b hb; omega, by (try simp only); omega⟩
    split
    · exact ⟨fun b hb => by have := hx b hb; omega, by (try simp only); omega⟩
    refine ⟨fun b hb => ?_, by simp⟩
    rcases List.mem_append.mp hb with h | h
    · have := hx b h; omega
    rw [List.mem_singleton.mp h]; simp
  split
  · exact ⟨fun b hb => by have := hx b hb; omega, by (try simp only); omega⟩
  split
  · have ha := addL_len its (ax xs (idxN nm xs 0))
    exact set_ok _ _ (by omega)
  split
  · refine set_ok _ _ ?_
    unfold flagsL
    split
    · (try simp only); omega
    simp only [List.length_set]; omega
  refine set_ok _ _ ⟨?_, by (try simp only); omega⟩
  have := List.length_filter_le (fun x => !delB x) (ax xs (idxN nm xs 0)).f3
  simp only
  omega
theorem ownS_ev2 (l : List S82) (hl : l.length <= 2097152) (hm : ∀ b ∈ l, b.f3.length <= 2097152 /\ b.f4.length <= 2097152) : Ev (fun k => du.f k l) l := by
  have loop : ∀ (m i : Nat), i + m = l.length -> Ev (fun k => du.l0 k l (l.take i) i) l := by
    intro m
    induction m with
    | zero => intro i hi; rw [List.take_of_length_le (by omega)]; exact Ev.step (fun _ => du.l0.eq_2 ..) (bv (by omega) (bq rfl))
    | succ m ih =>
      intro i hi
      have hlt : i < l.length := by omega
      have hz := hm l[i] (List.getElem_mem hlt)
      refine Ev.step (fun _ => du.l0.eq_2 ..) (bp (by omega) (bp (by omega) ?_))
      rw [rdBox l i hlt, w64n (by omega)]
      have e : spec_l09Box.f l[i].f0 l[i].f1 l[i].f2 l[i].f3 l[i].f4 = some (l[i].f0, l[i].f1, l[i].f2, l[i].f3, l[i].f4) := by
        unfold spec_l09Box.f
        simp
        omega
      refine cj e (bp (by rw [List.length_take]; omega) ?_)
      have := ih (i + 1) (by omega)
      rwa [List.take_succ_eq_append_getElem hlt] at this
  unfold du.f
  have := loop l.length 0 (by omega)
  simpa using this
theorem cloneStore_ev (l : List S82) (hl : l.length <= 1048576) (hm : ∀ b ∈ l, b.f3.length <= 1048576 /\ b.f4.length <= 1048576) : Ev (fun k => dj.f k l) l := by
  have loop : ∀ (m i : Nat) (x : List S82), i + m = l.length -> x.length = l.length -> x.take i = l.take i -> Ev (fun k => dj.l0 k x l l.length i) l := by
    intro m
    induction m with
    | zero =>
      intro i x hi hx h
      rw [List.take_of_length_le (by omega), List.take_of_length_le (by omega)] at h
      exact Ev.step (fun _ => dj.l0.eq_2 ..) (bv (by omega) (bq h))
    | succ m ih =>
      intro i x hi hx h
      have hlt : i < l.length := by omega
      have hz := hm l[i] (List.getElem_mem hlt)
      refine Ev.step (fun _ => dj.l0.eq_2 ..) (bp (by omega) (bp (by omega) (bp (by omega) ?_)))
      rw [rdBox l i hlt, w64n (by omega), Int.toNat_natCast]
      have e : ey.f l[i].f0 l[i].f1 l[i].f2 l[i].f3 l[i].f4 = some (l[i].f0, l[i].f1, l[i].f2, l[i].f3, l[i].f4) := by
        unfold ey.f impl_Stored_123.f fj.f
        rw [if_pos (by omega), if_pos (by omega)]
        rfl
      refine cj e (bp (by omega) (ih (i + 1) _ (by omega) (by simpa using hx) ?_))
      rw [set_step x _ i _ (by omega) h, List.take_succ_eq_append_getElem hlt]
  unfold dj.f
  exact bp (by omega) (bp (by omega) (loop l.length 0 _ (by omega) (by simp) (by simp)))
theorem mutIn_of {k u m f : Int} {nm : ByteArray} {l : List S84} (h : mutB k u m f nm l = true) : MutIn k u m f nm l := by
  unfold mutB at h
  simp only [Bool.and_eq_true, decide_eq_true_eq] at h
  obtain ⟨⟨⟨h1, h2⟩, h3⟩, h4⟩ := h
  have hn : nm.size <= 40 := by
    unfold nameB at h1
    simp only [Bool.and_eq_true, decide_eq_true_eq] at h1
    have := h1.1.2
    rwa [data_length] at this
  have hi : ∀ x ∈ l, x.f0.size < 65536 /\ x.f1.size < 65536 := by
    intro x hx
    have := List.all_eq_true.mp h3 x hx
    unfold itemB inC at this
    simp only [Bool.and_eq_true, decide_eq_true_eq] at this
    omega
  unfold kindB bareB inC at h4
  unfold MutIn
  split at h4
  · simp only [Bool.and_eq_true, decide_eq_true_eq] at h4; refine ⟨?_, ?_, ?_, ?_, ?_, ?_, ?_, ?_, ?_, ?_, hi⟩ <;> omega
  split at h4
  · simp only [Bool.and_eq_true, decide_eq_true_eq] at h4; refine ⟨?_, ?_, ?_, ?_, ?_, ?_, ?_, ?_, ?_, ?_, hi⟩ <;> omega
  split at h4
  · simp only [Bool.and_eq_true, decide_eq_true_eq] at h4; refine ⟨?_, ?_, ?_, ?_, ?_, ?_, ?_, ?_, ?_, ?_, hi⟩ <;> omega
  cases h4
theorem strOfNums_len (l : List Int) : (strOfNums l).size = l.length := by simp [strOfNums, ByteArray.size]
theorem commit_core (room : Int) (t : ByteArray) (sure : Int) (bx : List S82) (hx : bx.length <= 1048576) (hb : ∀ b ∈ bx, b.f3.length <= 1048576 /\ b.f4.length <= 1048576) (kind uid mode flags : Int) (nm : ByteArray) (its : List S84) (hm : mutB kind uid mode flags nm its = true) (ht : (t.size : Int) <= room) (hr : room <= 60000) :
    ∃ r : Int × ByteArray × Int × List S82 × Int, s_commit room t sure bx kind uid mode flags nm its = some r /\ Ev (fun k => impl_commit k room t sure bx kind uid mode flags nm its) r /\ r.2.2.2.1.length <= 1048577 /\ ∀ b ∈ r.2.2.2.1, b.f3.length <= 2097152 /\ b.f4.length <= 2097152 := by
  have hi := mutB_items hm
  have hI := mutIn_of hm
  have hsz : bx.length <= 1048576 /\ (∀ b ∈ bx, b.f3.length <= 1048576 /\ b.f4.length <= 1048576) /\ its.length <= 1048576 := ⟨hx, hb, by omega⟩
  have hbig : ∀ b ∈ bx, b.f3.length <= 2097152 /\ b.f4.length <= 2097152 := fun b h => by have := hb b h; omega
  obtain ⟨hq1, hq2⟩ := mutL_few bx kind uid mode flags nm its hb (by omega)
  have hcl := cloneStore_ev bx hx hb
  unfold s_commit
  rw [if_pos hsz]
  have goI : ∀ r, Ev (fun k => if (gi bx kind uid mode flags nm its).2 ≠ 0 then some (room, t, sure, bx, (gi bx kind uid mode flags nm its).2) else
      (impl_room room t sure kind uid mode flags nm its).bind fun q => if q.2 ≠ 0 then some (room, t, sure, bx, q.2) else
        (impl_Log_with.f room t sure q.1).bind fun u => (impl_Log_sync.f u.1 u.2.1 u.2.2).bind fun v => some (v.1, v.2.1, v.2.2, (gi bx kind uid mode flags nm its).1, 0)) r -> Ev (fun k => impl_commit k room t sure bx kind uid mode flags nm its) r := by
    intro r H
    unfold impl_commit
    exact Ev.bind hcl (bp hsz H)
  generalize gi bx kind uid mode flags nm its = q at hq1 hq2 goI
  by_cases h2 : q.2 ≠ 0
  · rw [if_pos h2]
    exact ⟨_, rfl, goI _ (bp h2 (bq rfl)), by (try simp only); omega, hbig⟩
  rw [if_neg h2]
  have hS : spec_l09Bytes.f kind uid mode flags nm its = some (mutBytesL kind uid mode flags nm its) := if_pos hI
  have hM : impl_mutationBytes.f kind uid mode flags nm its = some (strOfNums (mutBytesL kind uid mode flags nm its)) := if_pos hI
  rw [hS, Option.bind_some]
  have hlen := strOfNums_len (mutBytesL kind uid mode flags nm its)
  unfold impl_room at goI
  rw [hM] at goI
  simp only [Option.bind_some] at goI
  generalize mutBytesL kind uid mode flags nm its = by_ at goI hlen
  by_cases h3 : 20000 < by_.length
  · rw [if_pos h3]
    exact ⟨_, rfl, goI _ (bv h2 (by rw [if_pos (by rw [hlen]; exact h3)]; simp only [Option.bind_some, Bool.false_eq_true, if_false, if_true]; exact bp (by decide) (bq rfl))), by (try simp only); omega, hbig⟩
  rw [if_neg h3]
  have hF : fp.f (strOfNums by_) = some (bs (frameL (strOfNums by_).data.toList)) := if_pos (by rw [hlen]; omega)
  have hG : impl_recordBytes.f (strOfNums by_) = some (bs (frameL (strOfNums by_).data.toList)) := if_pos (by rw [hlen]; omega)
  have hfl : (bs (frameL (strOfNums by_).data.toList)).size = 7 + by_.length := by rw [ee, frameL_length, data_length, hlen]
  unfold spec_l08Append.f
  rw [hF, Option.bind_some]
  have hw : wrap64 ((t.size : Int) + ((bs (frameL (strOfNums by_).data.toList)).size : Int)) = (t.size : Int) + 7 + by_.length := by rw [hfl, w64 (by omega) (by omega)]; omega
  have hh : impl_Log_hasRoom.f room t sure (strOfNums by_) = some (decide ((t.size : Int) + 7 + by_.length <= room)) := by
    unfold impl_Log_hasRoom.f
    rw [hlen, w64 (x := (t.size : Int) + 7) (by omega) (by omega), w64 (by omega) (by omega)]
  rw [hw]
  by_cases h4 : (t.size : Int) + 7 + by_.length > room
  · rw [if_pos h4]
    refine ⟨_, rfl, goI _ (bv h2 ?_), by (try simp only); omega, hbig⟩
    rw [if_neg (by rw [hlen]; exact h3), hh, Option.bind_some, decide_eq_false (by omega)]
    simp only [Option.bind_some, Bool.false_eq_true, if_false, if_true]
    exact bp (by decide) (bq rfl)
  rw [if_neg h4, if_pos (by omega)]
  refine ⟨_, rfl, goI _ (bv h2 ?_), by (try simp only); omega, hq1⟩
  rw [if_neg (by rw [hlen]; exact h3), hh, Option.bind_some, decide_eq_true (by omega)]
  simp only [Option.bind_some, Bool.false_eq_true, if_false, if_true]
  refine bv (by decide) ?_
  unfold impl_Log_with.f
  rw [hG, Option.bind_some, if_pos (by omega)]
  exact bq rfl
theorem commit_both (room : Int) (t : ByteArray) (sure : Int) (bx : List S82) (hx : bx.length <= 1048576) (hn : ∀ b ∈ bx, b.f0.size <= 1099511627776) (hb : ∀ b ∈ bx, b.f3.length <= 1048576 /\ b.f4.length <= 1048576) (kind uid mode flags : Int) (nm : ByteArray) (its : List S84) (hnm : nm.size <= 1099511627776) (hi : its.length <= 1048576) :
    ∃ r0 r1 r2 r3 r4, Ev (fun k => spec_Commit.f k room t sure bx kind uid mode flags nm its) (r0, r1, r2, r3, r4) /\ Ev (fun k => impl_Commit.f k room t sure bx kind uid mode flags nm its) (r0, r1, r2, r3, r4) /\ r3.length <= 1048577 /\ ∀ b ∈ r3, b.f3.length <= 2097152 /\ b.f4.length <= 2097152 := by
  obtain ⟨e, e1, e2, e3⟩ := engine_both room t sure bx hn
  have bad : ∀ a : Int, a = 1 -> Ev (fun k => spec_l10Ask.f k room t sure bx kind uid mode flags nm its) a -> Ev (fun k => spec_Commit.f k room t sure bx kind uid mode flags nm its) (0, ⟨#[]⟩, 0, [], 1) := by
    intro a ha H
    subst ha
    unfold spec_Commit.f
    exact Ev.bind H (bp (by decide) (bq rfl))
  cases e with
  | false =>
    refine ⟨0, ⟨#[]⟩, 0, [], 1, bad 1 rfl ?_, ?_, by simp, by simp⟩
    · unfold spec_l10Ask.f; exact Ev.bind e1 (bv (by simp) (bq rfl))
    unfold impl_Commit.f; exact Ev.bind e2 (bp rfl (bq rfl))
  | true =>
    obtain ⟨-, e4, e5⟩ := e3 rfl
    have hS := mutS_ev kind uid mode flags nm its hnm hi
    have hI := mutI_ev kind uid mode flags nm its hnm hi
    cases hm : mutB kind uid mode flags nm its with
    | false =>
      rw [hm] at hS hI
      refine ⟨0, ⟨#[]⟩, 0, [], 1, bad 1 rfl ?_, ?_, by simp, by simp⟩
      · unfold spec_l10Ask.f; exact Ev.bind e1 (bp rfl (Ev.bind hS (bv (by simp) (bq rfl))))
      unfold impl_Commit.f; exact Ev.bind e2 (bv (by simp) (Ev.bind hI (bp rfl (bq rfl))))
    | true =>
      rw [hm] at hS hI
      obtain ⟨⟨r0, r1, r2, r3, r4⟩, c1, c2, c3, c4⟩ := commit_core room t sure bx hx hb kind uid mode flags nm its hm e4 e5
      refine ⟨r0, r1, r2, r3, r4, ?_, ?_, c3, c4⟩
      · unfold spec_Commit.f
        refine Ev.bind (a := 0) ?_ (bv (by simp) (cj c1 ?_))
        · unfold spec_l10Ask.f; exact Ev.bind e1 (bp rfl (Ev.bind hS (bp rfl (bq rfl))))
        refine Ev.bind (a := (r0, r1, r2, r3)) ?_ (bq rfl)
        unfold spec_l10Own.f
        exact Ev.bind (ownS_ev2 r3 (by simp only at c3; omega) c4) (bq rfl)
      unfold impl_Commit.f
      refine Ev.bind e2 (bv (by simp) (Ev.bind hI (bv (by simp) (Ev.bind (a := (room, t, sure, bx)) ?_ c2))))
      unfold impl_cloneEngine.f
      exact Ev.bind (cloneStore_ev bx hx hb) (bq rfl)
end Go.Proofs.YtifkmkiljpeaaadGreat.PFnExactCommit
end
