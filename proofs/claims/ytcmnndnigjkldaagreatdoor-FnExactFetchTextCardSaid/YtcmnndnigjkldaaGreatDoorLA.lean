/- Texts laid together: YtcmnndnigjkldaaGreatDoorLFetA, YtcmnndnigjkldaaGreatDoorLFetB, YtcmnndnigjkldaaGreatDoorLFetU, YtcmnndnigjkldaaGreatDoorLFetP. -/
import Derived.Test.YtcmnndnigjkldaaGreatDoorPFnExactFetchTextx
import Derived.Test.YtcmnndnigjkldaaGreatDoorPurA
section
set_option linter.unusedVariables false
set_option linter.unusedSimpArgs false
namespace Go.Proofs.YtcmnndnigjkldaaGreatDoor.PFnExactFetchText
open Go.RowKit Go.Proofs.YtcmnndnigjkldaaGreatDoorW.PrintWords
theorem within_f (a b c : Int) : impl_within.f a b c = some (inB a b c) := by
  unfold impl_within.f inB
  by_cases h : a ≥ b
  · rw [if_pos h, decide_eq_true (by omega : b ≤ a)]; rfl
  · rw [if_neg h, decide_eq_false (by omega : ¬ b ≤ a)]; rfl
theorem l01In_f (a b c : Int) : spec_l01In.f a b c = some (inB a b c) := by
  unfold spec_l01In.f inB
  by_cases h : a ≥ b
  · rw [if_pos h, decide_eq_true (by omega : b ≤ a)]; rfl
  · rw [if_neg h, decide_eq_false (by omega : ¬ b ≤ a)]; rfl
/-! A field's name, both ways. -/
theorem inB_true {a b c : Int} : inB a b c = true ↔ b ≤ a ∧ a ≤ c := by simp [inB]
theorem inB_false {a b c : Int} : inB a b c = false ↔ ¬ (b ≤ a ∧ a ≤ c) := by rw [← inB_true]; simp
theorem hname_l0 (l : Bytes) (hl : l.length ≤ 1048576) : ∀ (m i : Nat), i + m = l.length → Ev (fun k => spec_HeaderNameOK.l0 k (bs l) i) ((l.drop i).all nameC) := by
  intro m
  induction m with
  | zero => intro i hi; rw [List.drop_of_length_le (by omega)]; exact Ev.step (fun _ => spec_HeaderNameOK.l0.eq_2 ..) (ev_neg (by rw [bs_size]; omega) (ev_some rfl))
  | succ m ih =>
    intro i hi
    have hlt : i < l.length := by omega
    have hc := (l[i]).toNat_lt
    refine Ev.step (fun _ => spec_HeaderNameOK.l0.eq_2 ..) (ev_pos (by rw [bs_size]; omega) (ev_pos (by omega) ?_))
    rw [bt_bs l i hlt, drop_cons l i hlt, List.all_cons, w64n (by omega), w64 (x := ((l[i]).toNat : Int)) (by omega) (by omega)]
    refine ev_bindc (l01In_f _ _ _) ?_
    have e58 : (l[i]).toNat = 58 ↔ l[i] = 58 := by rw [← UInt8.toNat_inj]; rfl
    cases h : inB ((l[i]).toNat : Int) 33 126 with
    | false =>
      have h2 := inB_false.mp h
      have : nameC l[i] = false := by
        unfold nameC
        by_cases q : 33 ≤ (l[i]).toNat
        · rw [decide_eq_false (by omega : ¬ (l[i]).toNat ≤ 126)]; simp
        · rw [decide_eq_false q]; simp
      rw [this]; exact ev_neg (by simp) (ev_some rfl)
    | true =>
      have h2 := inB_true.mp h
      refine ev_pos rfl ?_
      by_cases q : (l[i]).toNat = 58
      · have : nameC l[i] = false := by unfold nameC; rw [e58.mp q]; rfl
        rw [this]; exact ev_pos (by omega) (ev_some rfl)
      · have : nameC l[i] = true := by
          unfold nameC
          rw [decide_eq_true (by omega : 33 ≤ (l[i]).toNat), decide_eq_true (by omega : (l[i]).toNat ≤ 126), decide_eq_true (show l[i] ≠ 58 from fun e => q (e58.mpr e))]; rfl
        rw [this]; exact ev_neg (by omega) (ih (i + 1) (by omega))
theorem hnameS_ev (l : Bytes) (hl : l.length ≤ 1048576) : Ev (fun k => spec_HeaderNameOK.f k (bs l)) (nameOk l) := by
  unfold spec_HeaderNameOK.f nameOk
  rw [bs_size]
  by_cases h0 : (l.length : Int) > 65536
  · rw [decide_eq_false (by omega : ¬ l.length ≤ 40)]
    simp only [Bool.and_false, Bool.false_and]
    exact ev_pos h0 (ev_some rfl)
  · refine ev_neg h0 (ev_bindc (l01In_f _ _ _) ?_)
    cases h : inB (l.length : Int) 1 40 with
    | false =>
      have h2 := inB_false.mp h
      have : (decide (1 ≤ l.length) && decide (l.length ≤ 40)) = false := by
        by_cases q : 1 ≤ l.length
        · rw [decide_eq_false (by omega : ¬ l.length ≤ 40)]; simp
        · rw [decide_eq_false q]; simp
      rw [this]; exact ev_neg (by simp) (ev_some rfl)
    | true =>
      have h2 := inB_true.mp h
      rw [decide_eq_true (by omega : 1 ≤ l.length), decide_eq_true (by omega : l.length ≤ 40)]
      exact ev_pos rfl (hname_l0 l hl l.length 0 (by omega))
def betw (lo hi : Nat) (c : UInt8) : Bool := decide (lo ≤ c.toNat) && decide (c.toNat ≤ hi)
theorem allW_ev (l : Bytes) (hl : l.length ≤ 1048576) (lo hi : Nat) : Ev (fun k => impl_allWithin.f k (bs l) (lo : Int) (hi : Int)) (l.all (betw lo hi)) := by
  have loop : ∀ (m i : Nat), i + m = l.length → Ev (fun k => impl_allWithin.l0 k (bs l) (lo : Int) (hi : Int) (l.length : Int) i) ((l.drop i).all (betw lo hi)) := by
    intro m
    induction m with
    | zero => intro i hi; rw [List.drop_of_length_le (by omega)]; exact Ev.step (fun _ => impl_allWithin.l0.eq_2 ..) (ev_neg (by omega) (ev_some rfl))
    | succ m ih =>
      intro i hi'
      have hlt : i < l.length := by omega
      refine Ev.step (fun _ => impl_allWithin.l0.eq_2 ..) (ev_pos (by omega) (ev_pos (by omega) (ev_pos (by rw [bs_size]; omega) ?_)))
      rw [bt_bs l i hlt, drop_cons l i hlt, List.all_cons, w64n (by omega)]
      by_cases h1 : ((l[i]).toNat : Int) < (lo : Int)
      · have : betw lo hi l[i] = false := by unfold betw; rw [decide_eq_false (by omega)]; simp
        rw [this]; exact ev_pos h1 (ev_some rfl)
      · refine ev_neg h1 ?_
        by_cases h2 : ((l[i]).toNat : Int) > (hi : Int)
        · have : betw lo hi l[i] = false := by unfold betw; rw [decide_eq_false (by omega : ¬ (l[i]).toNat ≤ hi)]; simp
          rw [this]; exact ev_pos h2 (ev_some rfl)
        · have : betw lo hi l[i] = true := by unfold betw; rw [decide_eq_true (by omega : lo ≤ (l[i]).toNat), decide_eq_true (by omega : (l[i]).toNat ≤ hi)]; rfl
          rw [this]; exact ev_neg h2 (ih (i + 1) (by omega))
  unfold impl_allWithin.f
  rw [bs_size]
  exact loop l.length 0 (by omega)
theorem has58 (l : Bytes) : Lib.contains l [58] = l.any (· == 58) := by
  unfold Lib.contains
  rcases idx_cases [58] (by decide) l with ⟨e, hf⟩ | ⟨p, r, rfl, e2, hf⟩
  · rw [e]
    have h := col_miss l hf
    have : ∀ l : Bytes, colB l = [] → l.any (· == 58) = false := by
      intro l
      induction l with
      | nil => intro _; rfl
      | cons c r ih =>
        intro h
        unfold colB at *
        by_cases hc : c = 58
        · subst hc; simp [List.dropWhile_cons] at h
        · simp only [List.dropWhile_cons, hc, ne_eq, not_false_eq_true, decide_true, if_true] at h
          simp only [List.any_cons, ih h, Bool.or_false]; simpa using hc
    rw [this l h]; rfl
  · rw [e2]; simp
theorem nameC_betw (c : UInt8) : nameC c = (betw 33 126 c && !(c == 58)) := by
  unfold nameC betw
  by_cases h : c = 58
  · subst h; rfl
  · rw [decide_eq_true h, show (c == 58) = false from by simpa using h]; rfl
theorem all_not (l : Bytes) : l.all nameC = (l.all (betw 33 126) && !(l.any (· == 58))) := by
  induction l with
  | nil => rfl
  | cons c r ih =>
    rw [List.all_cons, List.all_cons, List.any_cons, ih, nameC_betw]
    cases betw 33 126 c <;> cases (c == 58) <;> cases r.all (betw 33 126) <;> cases r.any (· == 58) <;> rfl
theorem hnameI_ev (l : Bytes) (hl : l.length ≤ 1048576) : Ev (fun k => impl_HeaderNameOK.f k (bs l)) (nameOk l) := by
  unfold impl_HeaderNameOK.f nameOk
  rw [bs_size]
  refine ev_bindc (within_f _ _ _) ?_
  cases h : inB (l.length : Int) 1 40 with
  | false =>
    have h2 := inB_false.mp h
    have : (decide (1 ≤ l.length) && decide (l.length ≤ 40)) = false := by
      by_cases q : 1 ≤ l.length
      · rw [decide_eq_false (by omega : ¬ l.length ≤ 40)]; simp
      · rw [decide_eq_false q]; simp
    rw [this]; exact ev_neg (by simp) (ev_some rfl)
  | true =>
    have h2 := inB_true.mp h
    rw [decide_eq_true (by omega : 1 ≤ l.length), decide_eq_true (by omega : l.length ≤ 40), all_not, ← has58]
    refine ev_pos rfl (Ev.bind (allW_ev l hl 33 126) ?_)
    cases h3 : l.all (betw 33 126) with
    | false => exact ev_neg (by simp) (ev_some rfl)
    | true =>
      refine ev_pos rfl (ev_bindc (a := Lib.contains l [58]) ?_ (ev_some (by simp)))
      unfold strings_Contains.f
      rw [bs_size, if_pos (by omega)]; rfl
/-! A field's value, both ways. -/
theorem safeS_l0 (l : Bytes) (hl : l.length ≤ 1048576) : ∀ (m i w : Nat), i + m = l.length → w ≤ 200 → Ev (fun k => spec_SafeValue.l0 k (bs l) (w : Int) i) (safeW w (l.drop i)) := by
  intro m
  induction m with
  | zero => intro i w hi hw; rw [List.drop_of_length_le (by omega)]; exact Ev.step (fun _ => spec_SafeValue.l0.eq_2 ..) (ev_neg (by rw [bs_size]; omega) (ev_some (by unfold safeW; rfl)))
  | succ m ih =>
    intro i w hi hw
    have hlt : i < l.length := by omega
    have hc := (l[i]).toNat_lt
    refine Ev.step (fun _ => spec_SafeValue.l0.eq_2 ..) (ev_pos (by rw [bs_size]; omega) (ev_pos (by omega) ?_))
    rw [bt_bs l i hlt, drop_cons l i hlt, safeW.eq_2, w64n (by omega), w64 (x := ((l[i]).toNat : Int)) (by omega) (by omega), w64 (x := (w : Int) + 1) (by omega) (by omega)]
    refine ev_bindc (l01In_f _ _ _) ?_
    have e32 : (l[i]).toNat = 32 ↔ l[i] = 32 := by rw [← UInt8.toNat_inj]; rfl
    cases h : inB ((l[i]).toNat : Int) 32 126 with
    | false =>
      have h2 := inB_false.mp h
      have : visB l[i] = false := by
        unfold visB
        by_cases q : 32 ≤ (l[i]).toNat
        · rw [decide_eq_false (by omega : ¬ (l[i]).toNat ≤ 126)]; simp
        · rw [decide_eq_false q]; simp
      rw [this]; exact ev_neg (by simp) (ev_some rfl)
    | true =>
      have h2 := inB_true.mp h
      have hv : visB l[i] = true := by unfold visB; rw [decide_eq_true (by omega : 32 ≤ (l[i]).toNat), decide_eq_true (by omega : (l[i]).toNat ≤ 126)]; rfl
      rw [hv, Bool.true_and]
      refine ev_pos rfl ?_
      by_cases q : (l[i]).toNat = 32
      · rw [if_pos (e32.mp q)]
        refine ev_pos (by omega) ?_
        by_cases hw0 : w = 0
        · rw [decide_eq_false (fun x => x hw0)]; exact ev_pos (by omega) (ev_some (by simp))
        · rw [decide_eq_true hw0]
          refine ev_neg (by omega) ?_
          by_cases hr : i + 1 = l.length
          · rw [List.drop_of_length_le (by omega)]
            exact ev_pos (by rw [bs_size]; omega) (ev_some (by simp))
          · rw [decide_eq_true (by intro x; have := congrArg List.length x; simp at this; omega)]
            exact ev_neg (by rw [bs_size]; omega) (ev_to (by simp) (ih (i + 1) 0 (by omega) (by omega)))
      · rw [if_neg (fun e => q (e32.mpr e))]
        refine ev_neg (by omega) ?_
        by_cases h3 : w + 1 ≤ 200
        · rw [decide_eq_true h3]
          exact ev_neg (by omega) (ev_to (by simp) (ih (i + 1) (w + 1) (by omega) h3))
        · rw [decide_eq_false h3]
          exact ev_pos (by omega) (ev_some (by simp))
theorem safeS_ev (l : Bytes) (hl : l.length ≤ 1048576) : Ev (fun k => spec_SafeValue.f k (bs l)) (safeB l) := by
  unfold spec_SafeValue.f safeB
  rw [bs_size]
  by_cases h0 : (l.length : Int) > 65536
  · rw [decide_eq_false (by omega : ¬ l.length ≤ 2000)]
    exact ev_pos h0 (ev_some (by simp))
  · refine ev_neg h0 ?_
    by_cases h1 : (l.length : Int) > 2000
    · rw [decide_eq_false (by omega : ¬ l.length ≤ 2000)]; exact ev_pos h1 (ev_some (by simp))
    · rw [decide_eq_true (by omega : l.length ≤ 2000), Bool.true_and]
      exact ev_neg h1 (safeS_l0 l hl l.length 0 0 (by omega) (by omega))
theorem splitB_bs (l sub : Bytes) : Lib.splitB (bs sub) 0 (Lib.countB (bs l) (bs sub)) (bs l) = (Lib.split l sub).map bs := by
  have h := Lib.splitB_data (bs sub) 0 (Lib.countB (bs l) (bs sub)) (bs l)
  have h2 := congrArg (List.map bs) h
  rw [List.map_map] at h2
  have e : (bs ∘ fun x : ByteArray => x.data.toList) = id := by funext x; exact bs_of x
  rw [e, List.map_id] at h2
  exact h2
theorem splitF (l sub : Bytes) (hl : l.length ≤ 1048576) (hs : 1 ≤ sub.length) : strings_Split.f (bs l) (bs sub) = some ((Lib.split l sub).map bs) := by
  unfold strings_Split.f
  rw [if_pos ⟨by rw [bs_size]; omega, by rw [bs_size]; exact hs⟩, splitB_bs]
theorem split_len (l sub : Bytes) (h1 : 1 ≤ sub.length) : (Lib.split l sub).length ≤ l.length + 1 := by
  have h := congrArg List.length (splitB_bs l sub)
  rw [List.length_map] at h
  rw [← h]
  refine Nat.le_trans (Lib.splitB_length_le _ _ _ _) ?_
  have := Lib.countB_le (bs sub) (by rw [bs_size]; exact h1) (bs l).size (bs l) (Nat.le_refl _)
  rw [bs_size] at this; omega
theorem rdB (P : List Bytes) (i : Nat) (h : i < P.length) : rdOf ByteArray.empty (P.map bs) (i : Int) = bs P[i] := by
  rw [rdOf_nat _ _ _ (by simpa using h)]; simp
theorem bs_nilq (l : Bytes) : (bs l).toList = ([] : List UInt8) ↔ l = [] := by rw [bs_toList]
def okWordB (w : Bytes) : Bool := decide (w ≠ []) && decide (w.length ≤ 200)
theorem safeI_l0 (P : List Bytes) (hP : P.length ≤ 1048577) : ∀ (m i : Nat), i + m = P.length → Ev (fun k => impl_SafeValue.l0 k (P.map bs) (P.length : Int) i) ((P.drop i).all okWordB) := by
  intro m
  induction m with
  | zero => intro i hi; rw [List.drop_of_length_le (by omega)]; exact Ev.step (fun _ => impl_SafeValue.l0.eq_2 ..) (ev_neg (by omega) (ev_some rfl))
  | succ m ih =>
    intro i hi
    have hlt : i < P.length := by omega
    refine Ev.step (fun _ => impl_SafeValue.l0.eq_2 ..) (ev_pos (by omega) (ev_pos (by omega) (ev_pos (by rw [List.length_map]; omega) ?_)))
    rw [rdB P i hlt, List.drop_eq_getElem_cons hlt, List.all_cons, w64n (by omega), bs_size]
    by_cases h1 : P[i] = []
    · have : okWordB P[i] = false := by unfold okWordB; rw [decide_eq_false (fun x => x h1)]; rfl
      rw [this]; exact ev_pos ((bs_nilq _).mpr h1) (ev_some rfl)
    · refine ev_neg (fun x => h1 ((bs_nilq _).mp x)) ?_
      by_cases h2 : (P[i]).length ≤ 200
      · have : okWordB P[i] = true := by unfold okWordB; rw [decide_eq_true h1, decide_eq_true h2]; rfl
        rw [this]; exact ev_neg (by omega) (ih (i + 1) (by omega))
      · have : okWordB P[i] = false := by unfold okWordB; rw [decide_eq_false h2]; simp
        rw [this]; exact ev_pos (by omega) (ev_some rfl)
theorem okWords (P : List Bytes) : P.all okWordB = true ↔ ∀ w ∈ P, okWord w := by
  simp [List.all_eq_true, okWordB, okWord]
theorem betw_vis : betw 32 126 = visB := by funext c; rfl
theorem safeI_ev (l : Bytes) (hl : l.length ≤ 1048576) : Ev (fun k => impl_SafeValue.f k (bs l)) (safeB l) := by
  unfold impl_SafeValue.f safeB
  rw [bs_size]
  have bad : Ev (fun k => impl_SafeValue.j0 k (bs l) true) false := Ev.step (fun _ => impl_SafeValue.j0.eq_2 ..) (ev_pos rfl (ev_some rfl))
  by_cases h1 : (l.length : Int) > 2000
  · rw [decide_eq_false (by omega : ¬ l.length ≤ 2000)]; exact ev_pos h1 (ev_to (by simp) bad)
  · rw [decide_eq_true (by omega : l.length ≤ 2000), Bool.true_and]
    refine ev_neg h1 (Ev.bind (allW_ev l hl 32 126) ?_)
    have hs := safeW_split l.length l (Nat.le_refl _)
    rw [betw_vis]
    cases h2 : l.all visB with
    | false =>
      rw [h2] at hs
      have : safeW 0 l = false := by
        cases h : safeW 0 l with
        | false => rfl
        | true => have := hs.mp h; cases this.1
      rw [this]; exact bad
    | true =>
      rw [h2] at hs
      refine Ev.step (fun _ => impl_SafeValue.j0.eq_2 ..) (ev_neg (by simp) ?_)
      by_cases h3 : l = []
      · subst h3
        exact ev_pos ((bs_nilq []).mpr rfl) (ev_some (by unfold safeW; rfl))
      · refine ev_neg (fun x => h3 ((bs_nilq _).mp x)) (ev_bindc (splitF l [32] hl (by decide)) ?_)
        have hlen := split_len l [32] (by decide)
        rw [List.length_map]
        refine ev_to ?_ (safeI_l0 (Lib.split l [32]) (by omega) (Lib.split l [32]).length 0 (by omega))
        rw [List.drop_zero, Bool.eq_iff_iff, okWords, hs]
        simp [h3]
end Go.Proofs.YtcmnndnigjkldaaGreatDoor.PFnExactFetchText
end
section
set_option linter.unusedVariables false
set_option linter.unusedSimpArgs false
namespace Go.Proofs.YtcmnndnigjkldaaGreatDoor.PFnExactFetchText
open Go.RowKit Go.Proofs.YtcmnndnigjkldaaGreatDoorW.PrintWords
/-! A mail's text, both ways. -/
theorem mOKS_l0 (l : Bytes) (hl : l.length ≤ 1048576) : ∀ (m i w : Nat), l.length - i ≤ m → i ≤ l.length → w ≤ 998 → Ev (fun k => spec_MailOK.l0 k (bs l) (w : Int) i) (mOK w (l.drop i)) := by
  intro m
  induction m with
  | zero =>
    intro i w hm hi hw
    rw [List.drop_of_length_le (by omega)]
    refine Ev.step (fun _ => spec_MailOK.l0.eq_2 ..) (ev_neg (by rw [bs_size]; omega) (ev_some ?_))
    rw [mOK, Bool.eq_iff_iff]; simp
  | succ m ih =>
    intro i w hm hi hw
    by_cases hlt : i < l.length
    · have hc := (l[i]).toNat_lt
      have e13 : (l[i]).toNat = 13 ↔ l[i] = 13 := by rw [← UInt8.toNat_inj]; rfl
      have e10 : (l[i]).toNat = 10 ↔ l[i] = 10 := by rw [← UInt8.toNat_inj]; rfl
      refine Ev.step (fun _ => spec_MailOK.l0.eq_2 ..) (ev_pos (by rw [bs_size]; omega) (ev_pos (by omega) ?_))
      rw [bt_bs l i hlt, drop_cons l i hlt, mOK, w64n (by omega)]
      -- what is asked of a byte that ends no line
      have hB : ¬ (l[i] = 13 ∧ (l.drop (i + 1)).head? = some 10) → Ev (fun k => spec_MailOK.j1 k (bs l) (w : Int) i ((l[i]).toNat : Int) false) (goodC l[i] && decide (w + 1 ≤ 998) && mOK (w + 1) (l.drop (i + 1))) := by
        intro _
        refine Ev.step (fun _ => spec_MailOK.j1.eq_2 ..) (ev_neg (by simp) ?_)
        rw [w64n (k := w) (by omega), w64n (k := i) (by omega)]
        by_cases h1 : (l[i]).toNat = 13
        · have : goodC l[i] = false := by unfold goodC; rw [e13.mp h1]; rfl
          rw [this]; exact ev_pos (by omega) (ev_some rfl)
        · refine ev_neg (by omega) ?_
          by_cases h2 : (l[i]).toNat = 10
          · have : goodC l[i] = false := by unfold goodC; rw [e10.mp h2]; rfl
            rw [this]; exact ev_pos (by omega) (ev_some rfl)
          · refine ev_neg (by omega) ?_
            by_cases h3 : (l[i]).toNat = 0
            · have : goodC l[i] = false := by unfold goodC; rw [h3]; simp
              rw [this]; exact ev_pos (by omega) (ev_some rfl)
            · refine ev_neg (by omega) ?_
              by_cases h4 : (l[i]).toNat ≤ 127
              · have : goodC l[i] = true := by
                  unfold goodC
                  rw [decide_eq_true (show l[i] ≠ 13 from fun e => h1 (e13.mpr e)), decide_eq_true (show l[i] ≠ 10 from fun e => h2 (e10.mpr e)), decide_eq_true h3, decide_eq_true h4]; rfl
                rw [this]
                refine ev_neg (by omega) ?_
                by_cases h5 : w + 1 ≤ 998
                · rw [decide_eq_true h5]
                  exact ev_neg (by omega) (ev_to (by simp) (ih (i + 1) (w + 1) (by omega) (by omega) h5))
                · rw [decide_eq_false h5]
                  exact ev_pos (by omega) (ev_some (by simp))
              · have : goodC l[i] = false := by unfold goodC; rw [decide_eq_false h4]; simp
                rw [this]; exact ev_pos (by omega) (ev_some rfl)
      by_cases h1 : (l[i]).toNat = 13
      · refine ev_pos (by omega) ?_
        by_cases h2 : i + 1 < l.length
        · refine ev_pos (by rw [bs_size]; omega) (ev_pos (by omega) ?_)
          rw [bt_bs l (i + 1) h2]
          have hd : (l.drop (i + 1)).head? = some l[i + 1] := by rw [drop_cons l (i + 1) h2]; rfl
          have e10' : (l[i + 1]).toNat = 10 ↔ l[i + 1] = 10 := by rw [← UInt8.toNat_inj]; rfl
          by_cases h3 : (l[i + 1]).toNat = 10
          · rw [if_pos ⟨e13.mp h1, by rw [hd, e10'.mp h3]⟩, show (((l[i + 1]).toNat : Int) == 10) = true from by simp; omega]
            refine Ev.step (fun _ => spec_MailOK.j1.eq_2 ..) (ev_pos rfl ?_)
            rw [w64n (by omega), w64n (by omega)]
            exact ev_to (by simp [List.tail_drop]) (ih (i + 1 + 1) 0 (by omega) (by omega) (by omega))
          · have hn : ¬ (l[i] = 13 ∧ (l.drop (i + 1)).head? = some 10) := by rw [hd]; rintro ⟨_, x⟩; injection x with x; exact h3 (e10'.mpr x)
            rw [if_neg hn, show (((l[i + 1]).toNat : Int) == 10) = false from by simp; omega]
            exact hB hn
        · have hn : ¬ (l[i] = 13 ∧ (l.drop (i + 1)).head? = some 10) := by rw [List.drop_of_length_le (by omega)]; simp
          rw [if_neg hn]
          exact ev_neg (by rw [bs_size]; omega) (hB hn)
      · have hn : ¬ (l[i] = 13 ∧ (l.drop (i + 1)).head? = some 10) := fun x => h1 (e13.mpr x.1)
        rw [if_neg hn]
        exact ev_neg (by omega) (hB hn)
    · rw [List.drop_of_length_le (by omega)]
      refine Ev.step (fun _ => spec_MailOK.l0.eq_2 ..) (ev_neg (by rw [bs_size]; omega) (ev_some ?_))
      rw [mOK, Bool.eq_iff_iff]; simp
def mailB (l : Bytes) : Bool := decide (l.length ≤ 65536) && mOK 0 l
theorem mailS_ok (l : Bytes) (hl : l.length ≤ 1048576) : Ev (fun k => spec_MailOK.f k (bs l)) (mailB l) := by
  unfold spec_MailOK.f mailB
  rw [bs_size]
  by_cases h0 : (l.length : Int) > 65536
  · rw [decide_eq_false (by omega : ¬ l.length ≤ 65536)]; exact ev_pos h0 (ev_some (by simp))
  · rw [decide_eq_true (by omega : l.length ≤ 65536), Bool.true_and]
    exact ev_neg h0 (mOKS_l0 l hl l.length 0 0 (by omega) (by omega) (by omega))
theorem hasSuf (l s : Bytes) (hl : l.length ≤ 1048576) (hs : s.length ≤ 100) : stringslite_HasSuffix.f (bs l) (bs s) = some (s.isSuffixOf l) := by
  unfold stringslite_HasSuffix.f
  rw [bs_size, bs_size]
  by_cases h : s.length ≤ l.length
  · have e : wrap64 ((l.length : Int) - (s.length : Int)) = ((l.length - s.length : Nat) : Int) := by rw [w64 (by omega) (by omega)]; omega
    rw [if_pos (by omega), e, if_pos (by omega), if_pos (by omega), Int.toNat_natCast, bs_extract, bs_toList, bs_toList, List.take_of_length_le (Nat.le_refl _)]
    congr 1
    rw [Bool.eq_iff_iff, beq_iff_eq, List.isSuffixOf_iff_suffix, List.suffix_iff_eq_drop]
    exact ⟨fun h => h.symm, fun h => h.symm⟩
  · rw [if_neg (by omega)]
    congr 1
    symm
    rw [← Bool.not_eq_true, List.isSuffixOf_iff_suffix]
    intro x; exact h x.length_le
theorem hasSuf2 (l s : Bytes) (hl : l.length ≤ 1048576) (hs : s.length ≤ 100) : strings_HasSuffix.f (bs l) (bs s) = some (s.isSuffixOf l) := by
  unfold strings_HasSuffix.f; rw [hasSuf l s hl hs]; rfl
theorem any_in (cs : Bytes) : ∀ l : Bytes, Lib.containsAny l cs = l.any (fun c => cs.contains c)
  | [] => rfl
  | c :: l => by
    have ih := any_in cs l
    unfold Lib.containsAny at *
    rw [List.any_cons, ← ih, Lib.indexAny]
    by_cases h : cs.contains c = true
    · rw [if_pos h, h]; rfl
    · rw [if_neg h]
      have h' : cs.contains c = false := by simpa using h
      rw [h', Bool.false_or]
      have hge := Lib.indexAny_ge cs l
      by_cases h2 : Lib.indexAny l cs = -1
      · rw [h2]; rfl
      · rw [if_neg (by simpa using h2), decide_eq_true (by omega), decide_eq_true (by omega)]
def okLineB (p : Bytes) : Bool := decide (p.length ≤ 998) && p.all goodC
theorem okLines (P : List Bytes) : P.all okLineB = true ↔ ∀ p ∈ P, okLine p := by
  simp [List.all_eq_true, okLineB, okLine]
theorem good_parts (p : Bytes) : p.all goodC = (p.all (betw 1 127) && !(p.any fun c => CRLF.contains c)) := by
  induction p with
  | nil => rfl
  | cons c r ih =>
    rw [List.all_cons, List.all_cons, List.any_cons, ih]
    have e : goodC c = (betw 1 127 c && !(CRLF.contains c)) := by
      unfold goodC betw
      by_cases h1 : c = 13
      · subst h1; rfl
      · by_cases h2 : c = 10
        · subst h2; rfl
        · rw [decide_eq_true h1, decide_eq_true h2, show CRLF.contains c = false from by simp [h1, h2]]
          by_cases h3 : c.toNat = 0
          · rw [decide_eq_false (fun x => x h3), decide_eq_false (by omega : ¬ 1 ≤ c.toNat)]; rfl
          · rw [decide_eq_true h3, decide_eq_true (by omega : 1 ≤ c.toNat)]; simp
    rw [e]
    cases betw 1 127 c <;> cases (CRLF.contains c) <;> cases r.all (betw 1 127) <;> cases (r.any fun c => CRLF.contains c) <;> rfl
theorem ascii_of {p : Bytes} (h : p.all (betw 1 127) = true) : asciiL (bs p) = true := by
  unfold asciiL
  rw [bs_data, List.all_eq_true]
  intro c hc
  have := List.all_eq_true.mp h c hc
  simp [betw] at this
  simp; omega
theorem mailI_l0 (P : List Bytes) (hP : P.length ≤ 1048577) (hs : ∀ p ∈ P, p.length ≤ 1048576) : ∀ (m i : Nat), i + m = P.length → Ev (fun k => impl_MailOK.l0 k (P.map bs) (P.length : Int) i) ((P.drop i).all okLineB) := by
  intro m
  induction m with
  | zero => intro i hi; rw [List.drop_of_length_le (by omega)]; exact Ev.step (fun _ => impl_MailOK.l0.eq_2 ..) (ev_neg (by omega) (ev_some rfl))
  | succ m ih =>
    intro i hi
    have hlt : i < P.length := by omega
    refine Ev.step (fun _ => impl_MailOK.l0.eq_2 ..) (ev_pos (by omega) (ev_pos (by omega) (ev_pos (by rw [List.length_map]; omega) ?_)))
    rw [rdB P i hlt, List.drop_eq_getElem_cons hlt, List.all_cons, w64n (by omega), bs_size]
    have hz := hs P[i] (List.getElem_mem hlt)
    by_cases h1 : (P[i]).length ≤ 998
    · refine ev_neg (by omega) (Ev.bind (allW_ev P[i] hz 1 127) ?_)
      have e : okLineB P[i] = ((P[i]).all (betw 1 127) && !((P[i]).any fun c => CRLF.contains c)) := by unfold okLineB; rw [decide_eq_true h1, Bool.true_and, good_parts]
      rw [e]
      cases h2 : (P[i]).all (betw 1 127) with
      | false => exact ev_neg (by simp) (ev_some rfl)
      | true =>
        refine ev_pos rfl (ev_bindc (a := (P[i]).any fun c => CRLF.contains c) ?_ ?_)
        · unfold strings_ContainsAny.f
          rw [if_pos ⟨by rw [bs_size]; omega, by decide, ascii_of h2, by decide⟩, bs_data]
          exact congrArg some (any_in CRLF _)
        · cases h3 : (P[i]).any fun c => CRLF.contains c with
          | true => exact ev_pos rfl (ev_some rfl)
          | false => exact ev_neg (by simp) (ih (i + 1) (by omega))
    · have : okLineB P[i] = false := by unfold okLineB; rw [decide_eq_false h1]; rfl
      rw [this]; exact ev_pos (by omega) (ev_some rfl)
theorem split_sizes (sub : Bytes) (h0 : sub ≠ []) : ∀ (n : Nat) (l : Bytes), l.length ≤ n → ∀ p ∈ Lib.split l sub, p.length ≤ l.length := by
  intro n
  induction n with
  | zero =>
    intro l hl p hp
    obtain rfl : l = [] := List.length_eq_zero_iff.mp (by omega)
    rcases idx_cases sub h0 [] with ⟨e, -⟩ | ⟨a, r, e, -, -⟩
    · rw [split_miss e] at hp; obtain rfl := List.mem_singleton.mp hp; omega
    · have := congrArg List.length e
      have h1 : 1 ≤ sub.length := by cases sub with | nil => exact absurd rfl h0 | cons _ _ => simp
      simp at this; omega
  | succ n ih =>
    intro l hl p hp
    rcases idx_cases sub h0 l with ⟨e, -⟩ | ⟨a, r, rfl, e2, -⟩
    · rw [split_miss e] at hp; obtain rfl := List.mem_singleton.mp hp; omega
    · have h1 : 1 ≤ sub.length := by cases sub with | nil => exact absurd rfl h0 | cons _ _ => simp
      rw [split_hit h0 e2] at hp
      rcases List.mem_cons.mp hp with rfl | hp
      · simp
      · have := ih r (by simp at hl; omega) p hp; simp; omega
theorem mailI_ok (l : Bytes) (hl : l.length ≤ 1048576) : Ev (fun k => impl_MailOK.f k (bs l)) (mailB l) := by
  unfold impl_MailOK.f mailB
  rw [bs_size]
  have bad : Ev (fun k => impl_MailOK.j0 k (bs l) true) false := Ev.step (fun _ => impl_MailOK.j0.eq_2 ..) (ev_pos rfl (ev_some rfl))
  have hs := mOK_split l.length l (Nat.le_refl _)
  have good : (l = [] ∨ CRLF.isSuffixOf l = true) → Ev (fun k => impl_MailOK.j0 k (bs l) false) (mOK 0 l) := by
    intro h
    refine Ev.step (fun _ => impl_MailOK.j0.eq_2 ..) (ev_neg (by simp) (ev_bindc (splitF l CRLF hl (by decide)) ?_))
    have hlen := split_len l CRLF (by decide)
    rw [List.length_map]
    refine ev_to ?_ (mailI_l0 (Lib.split l CRLF) (by omega) (fun p hp => Nat.le_trans (split_sizes CRLF (by decide) l.length l (Nat.le_refl _) p hp) hl) (Lib.split l CRLF).length 0 (by omega))
    rw [List.drop_zero, Bool.eq_iff_iff, okLines, hs]
    exact ⟨fun x => ⟨h, x⟩, fun x => x.2⟩
  by_cases h1 : (l.length : Int) > 65536
  · rw [decide_eq_false (by omega : ¬ l.length ≤ 65536)]; exact ev_pos h1 (ev_to (by simp) bad)
  · rw [decide_eq_true (by omega : l.length ≤ 65536), Bool.true_and]
    refine ev_neg h1 ?_
    by_cases h3 : l = []
    · subst h3; exact ev_pos ((bs_nilq []).mpr rfl) (good (Or.inl rfl))
    · refine ev_neg (fun x => h3 ((bs_nilq _).mp x)) (ev_bindc (hasSuf2 l CRLF hl (by decide)) ?_)
      cases h4 : CRLF.isSuffixOf l with
      | true => exact good (Or.inr h4)
      | false =>
        have : mOK 0 l = false := by
          cases h : mOK 0 l with
          | false => rfl
          | true =>
            rcases (hs.mp h).1 with x | x
            · exact absurd x h3
            · rw [h4] at x; cases x
        rw [this]; exact bad
end Go.Proofs.YtcmnndnigjkldaaGreatDoor.PFnExactFetchText
end
section
set_option linter.unusedVariables false
set_option linter.unusedSimpArgs false
namespace Go.Proofs.YtcmnndnigjkldaaGreatDoor.PFnExactFetchText
open Go.RowKit Go.Proofs.YtcmnndnigjkldaaGreatDoorW.PrintWords
/-! A field's text, both ways. -/
theorem unfS_l1 (t v : Bytes) (K : Nat) (hK : K ≤ t.length) (ht : t.length ≤ 1048576) (hv : v.length ≤ 1048576) : ∀ (m i : Nat) (a : Bytes), v.length - i ≤ m → i ≤ v.length → a.length ≤ i → (a ≠ [] ∨ (v.drop i).head? = some 32) →
    Ev (fun k => spec_l03Unfold.l1 k (bs t) (K : Int) (bs v) (ints a) i) (match unf (v.drop i) with | none => ((⟨#[]⟩ : ByteArray), (⟨#[]⟩ : ByteArray), false) | some u => (bs (t.take K), bs ((a ++ u).drop 1), safeB ((a ++ u).drop 1))) := by
  have hend : ∀ (i : Nat) (a : Bytes), v.length ≤ i → a.length ≤ i → (a ≠ [] ∨ (v.drop i).head? = some 32) → a.length ≤ v.length →
      Ev (fun k => spec_l03Unfold.l1 k (bs t) (K : Int) (bs v) (ints a) i) (match unf (v.drop i) with | none => ((⟨#[]⟩ : ByteArray), (⟨#[]⟩ : ByteArray), false) | some u => (bs (t.take K), bs ((a ++ u).drop 1), safeB ((a ++ u).drop 1))) := by
    intro i a hm ha hne hal
    have hd : v.drop i = [] := List.drop_of_length_le (by omega)
    have hne : a ≠ [] := by
      rcases hne with h | h
      · exact h
      · rw [hd] at h; cases h
    have hal : 1 ≤ a.length := List.length_pos_iff.mpr hne
    rw [hd, unf]
    refine Ev.step (fun _ => spec_l03Unfold.l1.eq_2 ..) (ev_neg (by rw [bs_size]; omega) (ev_pos (by rw [ints_length]; omega) (ev_bindc rfl (ev_pos (by omega) (ev_pos (by rw [bs_size]; omega) ?_)))))
    have e : (ints a).drop 1 = ints (a.drop 1) := by simp [ints, List.map_drop]
    rw [e, strOf_ints]
    refine Ev.bind (safeS_ev (a.drop 1) (by simp; omega)) (ev_some ?_)
    rw [bs_extract]; simp
  intro m
  induction m with
  | zero => intro i a hm hi ha hne; exact hend i a (by omega) ha hne (by omega)
  | succ m ih =>
    intro i a hm hi ha hne
    by_cases hlt : i < v.length
    · have hc := (v[i]).toNat_lt
      have e13 : (v[i]).toNat = 13 ↔ v[i] = 13 := by rw [← UInt8.toNat_inj]; rfl
      refine Ev.step (fun _ => spec_l03Unfold.l1.eq_2 ..) (ev_pos (by rw [bs_size]; omega) (ev_pos (by omega) ?_))
      have w1 : wrap64 ((i : Int) + 1) = ((i + 1 : Nat) : Int) := w64n (by omega)
      have w2 : wrap64 ((i : Int) + 2) = ((i + 2 : Nat) : Int) := by rw [w64 (by omega) (by omega)]; rfl
      rw [bt_bs v i hlt, w1, w2, bs_size, ints_length]
      by_cases h1 : (v[i]).toNat = 13
      · have hne : a ≠ [] := by
          rcases hne with h | h
          · exact h
          · rw [drop_cons v i hlt, List.head?_cons] at h; injection h with h; rw [h] at h1; exact absurd h1 (by decide)
        refine ev_pos (by omega) ?_
        rw [drop_cons v i hlt, unf, if_pos (e13.mp h1)]
        by_cases h2 : i + 2 < v.length
        · have hd1 : (v.drop (i + 1)).head? = some v[i + 1] := by rw [drop_cons v (i + 1) (by omega)]; rfl
          have hd2 : (v.drop (i + 1)).tail.head? = some v[i + 2] := by rw [List.tail_drop, drop_cons v (i + 1 + 1) (by omega)]; rfl
          have e10 : (v[i + 1]).toNat = 10 ↔ v[i + 1] = 10 := by rw [← UInt8.toNat_inj]; rfl
          have e32 : (v[i + 2]).toNat = 32 ↔ v[i + 2] = 32 := by rw [← UInt8.toNat_inj]; rfl
          refine ev_neg (by omega) (ev_pos (by omega) (ev_pos (by omega) ?_))
          rw [bt_bs v (i + 1) (by omega), bt_bs v (i + 2) h2]
          by_cases h3 : (v[i + 1]).toNat = 10
          · refine ev_pos (by omega) (ev_pos (by omega) (ev_pos (by omega) ?_))
            by_cases h4 : (v[i + 2]).toNat = 32
            · rw [if_pos ⟨by rw [hd1, e10.mp h3], by rw [hd2, e32.mp h4]⟩]
              refine ev_pos (by omega) ?_
              rw [w64n (by omega), List.tail_drop]
              exact ih (i + 1 + 1) a (by omega) (by omega) (by omega) (Or.inl hne)
            · rw [if_neg (by rw [hd2]; rintro ⟨_, x⟩; injection x with x; exact h4 (e32.mpr x))]
              exact ev_neg (by omega) (ev_some rfl)
          · rw [if_neg (by rw [hd1]; rintro ⟨x, _⟩; injection x with x; exact h3 (e10.mpr x))]
            exact ev_neg (by omega) (ev_some rfl)
        · rw [if_neg (by
            rintro ⟨_, x⟩
            rw [List.tail_drop, List.drop_of_length_le (by omega)] at x; cases x)]
          exact ev_pos (by omega) (ev_some rfl)
      · refine ev_neg (by omega) (ev_pos (by omega) ?_)
        have e : ints a ++ [((v[i]).toNat : Int)] = ints (a ++ [v[i]]) := by simp [ints]
        rw [e]
        refine ev_to ?_ (ih (i + 1) (a ++ [v[i]]) (by omega) (by omega) (by simp; omega) (Or.inl (by simp)))
        rw [drop_cons v i hlt, unf, if_neg (fun x => h1 (e13.mpr x))]
        cases unf (v.drop (i + 1)) with
        | none => rfl
        | some u => simp
    · exact hend i a (by omega) ha hne (by omega)
/-- The reference's way: a field's text taken apart. -/
theorem unfS_ev (t : Bytes) (ht : t.length ≤ 1048576) : ∃ x, Ev (fun k => spec_l03Unfold.f k (bs t)) x ∧ (match unfd t with | none => x.2.2 = false | some q => x = (bs q.1, bs q.2, true)) := by
  have bad : ∀ K : Nat, Ev (fun k => spec_l03Unfold.j2 k (bs t) (K : Int) true) ((⟨#[]⟩ : ByteArray), (⟨#[]⟩ : ByteArray), false) := fun K => Ev.step (fun _ => spec_l03Unfold.j2.eq_2 ..) (ev_pos rfl (ev_some rfl))
  have hlen : (colA t).length + (colB t).length = t.length := by rw [← List.length_append, col_parts]
  -- what is done at the colon, or at the end
  suffices hJ : ∃ x, Ev (fun k => spec_l03Unfold.j1 k (bs t) ((colA t).length : Int)) x ∧ (match unfd t with | none => x.2.2 = false | some q => x = (bs q.1, bs q.2, true)) by
    obtain ⟨x, h1, h2⟩ := hJ
    refine ⟨x, ?_, h2⟩
    have loop : ∀ (m i : Nat), i + m = (colA t).length → Ev (fun k => spec_l03Unfold.l0 k (bs t) i) x := by
      intro m
      induction m with
      | zero =>
        intro i hi
        rcases colB_form t with hb | ⟨r, hb⟩
        · have hz : (colB t).length = 0 := by rw [hb]; rfl
          refine Ev.step (fun _ => spec_l03Unfold.l0.eq_2 ..) (ev_neg (by rw [bs_size]; omega) ?_)
          rw [show i = (colA t).length by omega]; exact h1
        · have hz : 1 ≤ (colB t).length := by rw [hb]; simp
          have hlt : i < t.length := by omega
          have he : t[i] = 58 := by
            have : t[i]? = some 58 := by
              rw [← col_parts t, show i = (colA t).length by omega, List.getElem?_append_right (Nat.le_refl _), Nat.sub_self, hb]; rfl
            rw [List.getElem?_eq_getElem hlt] at this; exact Option.some.inj this
          refine Ev.step (fun _ => spec_l03Unfold.l0.eq_2 ..) (ev_pos (by rw [bs_size]; omega) (ev_pos (by omega) ?_))
          rw [bt_bs t i hlt, he]
          refine ev_pos rfl ?_
          rw [show i = (colA t).length by omega]; exact h1
      | succ m ih =>
        intro i hi
        have hlt : i < t.length := by omega
        have hne : (t[i]).toNat ≠ 58 := by
          have hm : t[i] ∈ colA t := by
            have : (colA t)[i]? = some t[i] := by
              have h3 := List.getElem?_append_left (l₁ := colA t) (l₂ := colB t) (i := i) (by omega)
              rw [col_parts, List.getElem?_eq_getElem hlt] at h3
              exact h3.symm
            exact List.mem_of_getElem? this
          exact fun e => mem_colA hm (by rw [← UInt8.toNat_inj]; exact e)
        refine Ev.step (fun _ => spec_l03Unfold.l0.eq_2 ..) (ev_pos (by rw [bs_size]; omega) (ev_pos (by omega) ?_))
        rw [bt_bs t i hlt, w64n (by omega)]
        exact ev_neg (by omega) (ih (i + 1) (by omega))
    unfold spec_l03Unfold.f
    exact loop (colA t).length 0 (by omega)
  have w1 : wrap64 (((colA t).length : Int) + 1) = (((colA t).length + 1 : Nat) : Int) := w64n (by omega)
  have w3 : wrap64 (((colA t).length : Int) + 3) = (((colA t).length + 3 : Nat) : Int) := by rw [w64 (by omega) (by omega)]; rfl
  have none_of : fldOk t = false → unfd t = none := fun h => by unfold unfd; rw [if_neg (by rw [h]; simp)]
  by_cases h1 : 3 ≤ (colB t).length
  · have w2 : wrap64 ((t.length : Int) - 2) = ((t.length - 2 : Nat) : Int) := by rw [w64 (by omega) (by omega)]; omega
    have hsuf : ((bs t).extract ((t.length - 2 : Nat) : Int).toNat t.length).toList = ([13, 10] : List UInt8) ↔ CRLF.isSuffixOf t = true := by
      rw [Int.toNat_natCast, bs_extract, bs_toList, List.take_of_length_le (Nat.le_refl _), List.isSuffixOf_iff_suffix, List.suffix_iff_eq_drop]
      exact ⟨fun h => h.symm, fun h => h.symm⟩
    have pre : ∀ x, (CRLF.isSuffixOf t = true → Ev (fun k => (spec_HeaderNameOK.f k ((bs t).extract 0 ((colA t).length : Int).toNat)).bind fun t105 => if t105 = true then (if 0 ≤ (((colA t).length + 1 : Nat) : Int) then (if (((colA t).length + 1 : Nat) : Int) < (t.length : Int) then (spec_l03Unfold.j2 k (bs t) ((colA t).length : Int) ((bt (bs t) (((colA t).length + 1 : Nat) : Int)) != 32)) else none) else none) else (spec_l03Unfold.j2 k (bs t) ((colA t).length : Int) true)) x) → CRLF.isSuffixOf t = true → Ev (fun k => spec_l03Unfold.j1 k (bs t) ((colA t).length : Int)) x := by
      intro x H hs
      refine Ev.step (fun _ => spec_l03Unfold.j1.eq_2 ..) ?_
      rw [w3, bs_size, w2, w1]
      exact ev_neg (by omega) (ev_pos (by omega) (ev_pos (by omega) (ev_pos (hsuf.mpr hs) (ev_pos (by omega) (ev_pos (by omega) (H hs))))))
    by_cases h2 : CRLF.isSuffixOf t = true
    · have hx : (bs t).extract 0 ((colA t).length : Int).toNat = bs (colA t) := by
        rw [Int.toNat_natCast, bs_extract, List.drop_zero]
        congr 1
        have h3 := List.take_left (l₁ := colA t) (l₂ := colB t)
        rw [col_parts] at h3; exact h3
      cases h3 : nameOk (colA t) with
      | false =>
        have : fldOk t = false := by unfold fldOk; rw [h3]; simp
        rw [none_of this]
        refine ⟨((⟨#[]⟩ : ByteArray), (⟨#[]⟩ : ByteArray), false), pre _ (fun _ => ?_) h2, rfl⟩
        rw [hx]
        exact Ev.bind (hnameS_ev (colA t) (by omega)) (ev_neg (by rw [h3]; simp) (bad _))
      | true =>
        have hat : ((colB t).drop 1).head? = some (t[(colA t).length + 1]'(by omega)) := by
          rw [List.head?_drop]
          have h4 := List.getElem?_append_right (l₁ := colA t) (l₂ := colB t) (i := (colA t).length + 1) (by omega)
          rw [col_parts, List.getElem?_eq_getElem (by omega), show (colA t).length + 1 - (colA t).length = 1 by omega] at h4
          exact h4.symm
        have e32 : (t[(colA t).length + 1]'(by omega)).toNat = 32 ↔ t[(colA t).length + 1]'(by omega) = 32 := by rw [← UInt8.toNat_inj]; rfl
        by_cases h4 : (t[(colA t).length + 1]'(by omega)).toNat = 32
        · have h5 : 4 ≤ (colB t).length := by
            apply Nat.lt_of_le_of_ne h1
            intro e
            rw [List.isSuffixOf_iff_suffix, List.suffix_iff_eq_drop] at h2
            have h6 := congrArg List.head? h2
            rw [List.head?_drop] at h6
            have h7 : t[t.length - CRLF.length]? = some 32 := by
              rw [show t.length - CRLF.length = (colA t).length + 1 by simp; omega, List.getElem?_eq_getElem (by omega), e32.mp h4]
            rw [h7] at h6; cases h6
          have hok : fldOk t = true := by
            unfold fldOk
            rw [decide_eq_true h5, h3, h2, hat, e32.mp h4]; rfl
          have hrest : (bs t).extract (((colA t).length + 1 : Nat) : Int).toNat ((t.length - 2 : Nat) : Int).toNat = bs (32 :: valV t) := by
            rw [Int.toNat_natCast, Int.toNat_natCast, bs_extract]
            congr 1
            have e1 : (t.take (t.length - 2)).drop ((colA t).length + 1) = (t.drop ((colA t).length + 1)).take ((colB t).length - 3) := by
              rw [List.drop_take]; congr 1; omega
            have e2 : t.drop ((colA t).length + 1) = (colB t).drop 1 := by
              have h8 := List.drop_append (l₁ := colA t) (l₂ := colB t) (i := (colA t).length + 1)
              rw [col_parts] at h8
              rw [h8, List.drop_of_length_le (by omega), List.nil_append, show (colA t).length + 1 - (colA t).length = 1 by omega]
            have e3 : (colB t).drop 1 = 32 :: (colB t).drop 2 := by
              rw [drop_cons (colB t) 1 (by omega)]
              have h9 := hat
              rw [drop_cons (colB t) 1 (by omega), List.head?_cons] at h9
              rw [Option.some.inj h9, e32.mp h4]
            rw [e1, e2, e3]
            unfold valV
            rw [show (colB t).length - 3 = (colB t).length - 4 + 1 by omega, List.take_succ_cons]
          have hL := unfS_l1 t (32 :: valV t) (colA t).length (by omega) ht (by unfold valV; simp; omega) (32 :: valV t).length 0 [] (by omega) (by omega) (by simp) (Or.inr rfl)
          rw [List.drop_zero, unf, if_neg (by decide)] at hL
          have go : ∀ x, Ev (fun k => spec_l03Unfold.l1 k (bs t) ((colA t).length : Int) (bs (32 :: valV t)) (ints []) (0 : Nat)) x → Ev (fun k => spec_l03Unfold.j1 k (bs t) ((colA t).length : Int)) x := by
            intro x H
            refine pre x (fun _ => ?_) h2
            rw [hx]
            refine Ev.bind (hnameS_ev (colA t) (by omega)) (ev_pos h3 (ev_pos (by omega) (ev_pos (by omega) ?_)))
            rw [bt_bs t _ (by omega), show (((t[(colA t).length + 1]'(by omega)).toNat : Int) != 32) = false from by simp; omega]
            refine Ev.step (fun _ => spec_l03Unfold.j2.eq_2 ..) (ev_neg (by simp) ?_)
            rw [w1, bs_size, w2]
            refine ev_pos (by omega) (ev_pos (by omega) (ev_pos (by omega) ?_))
            rw [hrest]; exact H
          refine ⟨_, go _ hL, ?_⟩
          unfold unfd
          rw [if_pos hok]
          cases hu : unf (valV t) with
          | none => rfl
          | some u =>
            simp only [Option.map_some, Option.bind_some, List.nil_append, List.drop_succ_cons, List.drop_zero]
            have ht2 : t.take (colA t).length = colA t := by
              have h3 := List.take_left (l₁ := colA t) (l₂ := colB t)
              rw [col_parts] at h3; exact h3
            cases hs : safeB u with
            | false => rw [if_neg (by simp)]
            | true => rw [if_pos rfl, ht2]
        · have : fldOk t = false := by
            have hq : ¬ (((colB t).drop 1).head? = some 32) := by rw [hat]; intro x; injection x with x; exact h4 (e32.mpr x)
            unfold fldOk
            rw [decide_eq_false hq]; simp
          rw [none_of this]
          refine ⟨((⟨#[]⟩ : ByteArray), (⟨#[]⟩ : ByteArray), false), pre _ (fun _ => ?_) h2, rfl⟩
          rw [hx]
          refine Ev.bind (hnameS_ev (colA t) (by omega)) (ev_pos h3 (ev_pos (by omega) (ev_pos (by omega) ?_)))
          rw [bt_bs t _ (by omega), show (((t[(colA t).length + 1]'(by omega)).toNat : Int) != 32) = true from by simp; omega]
          exact bad _
    · have : fldOk t = false := by unfold fldOk; rw [show CRLF.isSuffixOf t = false from Bool.eq_false_iff.mpr h2]; simp
      rw [none_of this]
      refine ⟨((⟨#[]⟩ : ByteArray), (⟨#[]⟩ : ByteArray), false), Ev.step (fun _ => spec_l03Unfold.j1.eq_2 ..) ?_, rfl⟩
      rw [w3, bs_size, w2]
      exact ev_neg (by omega) (ev_pos (by omega) (ev_pos (by omega) (ev_neg (fun x => h2 (hsuf.mp x)) (bad _))))
  · have : fldOk t = false := by unfold fldOk; rw [decide_eq_false (by omega)]; simp
    rw [none_of this]
    refine ⟨((⟨#[]⟩ : ByteArray), (⟨#[]⟩ : ByteArray), false), Ev.step (fun _ => spec_l03Unfold.j1.eq_2 ..) ?_, rfl⟩
    rw [w3, bs_size]
    exact ev_pos (by omega) (bad _)
/-! A field's text, the program's way. -/
theorem cutPre (l : Bytes) (c : UInt8) (hl : l.length ≤ 1048576) : strings_CutPrefix.f (bs l) (bs [c]) = some (if l.head? = some c then (bs l.tail, true) else (bs l, false)) := by
  unfold strings_CutPrefix.f stringslite_CutPrefix.f stringslite_HasPrefix.f
  rw [bs_size, bs_size]
  cases l with
  | nil =>
    rw [if_neg (by simp)]; rfl
  | cons d r =>
    have h1 : ((d :: r).length : Int) ≥ ([c].length : Int) := by simp only [List.length_cons, List.length_nil]; omega
    rw [if_pos h1, if_pos (by omega), if_pos h1, Int.toNat_natCast]
    have e : ((bs (d :: r)).extract 0 [c].length).toList = [d] := by rw [bs_extract, bs_toList]; rfl
    have e2 : (bs (d :: r)).extract [c].length (d :: r).length = bs r := by rw [bs_extract, List.take_of_length_le (Nat.le_refl _)]; rfl
    rw [e, e2, bs_toList]
    simp only [Option.bind_some]
    by_cases hc : d = c
    · subst hc
      rw [if_pos (show (d :: r).head? = some d from rfl), if_pos (by simp), if_pos (by omega), if_pos h1]; rfl
    · have hb : ([d] == [c]) = false := by simpa using hc
      rw [hb, if_neg (show ¬ ((d :: r).head? = some c) from by intro x; injection x with x; exact hc x), if_neg (by simp)]; rfl
theorem cutSuf (l s : Bytes) (hl : l.length ≤ 1048576) (hs : s.length ≤ 100) : strings_CutSuffix.f (bs l) (bs s) = some (if s.isSuffixOf l = true then (bs (l.take (l.length - s.length)), true) else (bs l, false)) := by
  unfold strings_CutSuffix.f stringslite_CutSuffix.f
  rw [hasSuf l s hl hs, bs_size, bs_size]
  simp only [Option.bind_some]
  cases h : s.isSuffixOf l with
  | false => rw [if_neg (by simp), if_neg (by simp)]; rfl
  | true =>
    have hle := (List.isSuffixOf_iff_suffix.mp h).length_le
    have e : wrap64 ((l.length : Int) - (s.length : Int)) = ((l.length - s.length : Nat) : Int) := by rw [w64 (by omega) (by omega)]; omega
    rw [if_pos rfl, if_pos rfl, e, if_pos (by omega), if_pos (by omega), Int.toNat_natCast, bs_extract, List.drop_zero]; rfl
theorem cutF (l : Bytes) (hl : l.length ≤ 1048576) : strings_Cut.f (bs l) (bs [58]) = some (if colB l = [] then (bs l, bs [], false) else (bs (colA l), bs (colB l).tail, true)) := by
  unfold strings_Cut.f
  rw [if_pos (by rw [bs_size]; omega), bs_data, bs_data, col_cut]
  split <;> rfl
theorem repF (v : Bytes) (hv : v.length ≤ 1048576) : strings_ReplaceAll.f (bs v) (bs FOLD) (bs [32]) = some (bs (Lib.replaceAll v FOLD [32])) := by
  unfold strings_ReplaceAll.f
  rw [if_pos ⟨by rw [bs_size]; omega, by decide, by decide⟩]; rfl
theorem rep_len : ∀ (n : Nat) (v : Bytes), v.length ≤ n → (Lib.replaceAll v FOLD [32]).length ≤ v.length := by
  intro n
  induction n with
  | zero =>
    intro v hv
    obtain rfl : v = [] := List.length_eq_zero_iff.mp (by omega)
    rw [replaceAll_miss (by rfl)]; exact Nat.le_refl _
  | succ n ih =>
    intro v hv
    rcases idx_cases FOLD (by decide) v with ⟨e, hf⟩ | ⟨p, r, rfl, e2, hf⟩
    · rw [replaceAll_miss e]; exact Nat.le_refl _
    · rw [replaceAll_hit (by decide) (by decide) e2]
      have hr := ih r (by simp at hv; omega)
      simp; omega
theorem not_vis {l : Bytes} (h : 13 ∈ l) : safeB l = false := by
  have hs := safeW_split l.length l (Nat.le_refl _)
  unfold safeB
  have : safeW 0 l = false := by
    cases hq : safeW 0 l with
    | false => rfl
    | true =>
      have := List.all_eq_true.mp (hs.mp hq).1 13 h
      simp [visB] at this
  rw [this]; simp
theorem unfI_ev (t : Bytes) (ht : t.length ≤ 1048576) : Ev (fun k => impl_unfold.f k (bs t)) (match unfd t with | none => ((⟨#[]⟩ : ByteArray), (⟨#[]⟩ : ByteArray), false) | some q => (bs q.1, bs q.2, true)) := by
  have hlen : (colA t).length + (colB t).length = t.length := by rw [← List.length_append, col_parts]
  have none_of : fldOk t = false → unfd t = none := fun h => by unfold unfd; rw [if_neg (by rw [h]; simp)]
  unfold impl_unfold.f
  refine ev_bindc (cutF t ht) ?_
  by_cases hb : colB t = []
  · have : fldOk t = false := by unfold fldOk; rw [hb]; simp
    rw [none_of this, if_pos hb]
    refine ev_bindc (cutPre [] 32 (by simp)) ?_
    rw [if_neg (by simp)]
    refine ev_bindc (cutSuf [] CRLF (by simp) (by decide)) ?_
    rw [if_neg (by decide)]
    exact ev_bindc (repF [] (by simp)) (ev_neg (by simp) (ev_some rfl))
  · rw [if_neg hb]
    have hbt : (colB t).tail.length ≤ 1048576 := by simp; omega
    have hb1 : 1 ≤ (colB t).length := List.length_pos_iff.mpr hb
    have htl : (colB t).tail = (colB t).drop 1 := by cases colB t <;> rfl
    refine ev_bindc (cutPre (colB t).tail 32 hbt) ?_
    -- the part behind the colon, and what is left of it
    have step : ∀ (X : Bytes) (p : Bool) (r : ByteArray × ByteArray × Bool), X.length ≤ 1048576 → (p = false → r = ((⟨#[]⟩ : ByteArray), (⟨#[]⟩ : ByteArray), false)) →
        (p = true → CRLF.isSuffixOf X = false → r = ((⟨#[]⟩ : ByteArray), (⟨#[]⟩ : ByteArray), false)) →
        (p = true → CRLF.isSuffixOf X = true → Ev (fun k => (impl_HeaderNameOK.f k (bs (colA t))).bind fun t211 => if t211 = true then ((impl_SafeValue.f k (bs (Lib.replaceAll (X.take (X.length - 2)) FOLD [32]))).bind fun t212 => if t212 = true then (some (bs (colA t), bs (Lib.replaceAll (X.take (X.length - 2)) FOLD [32]), true)) else (some ((⟨#[]⟩ : ByteArray), (⟨#[]⟩ : ByteArray), false))) else (some ((⟨#[]⟩ : ByteArray), (⟨#[]⟩ : ByteArray), false))) r) →
        Ev (fun k => (strings_CutSuffix.f (bs X) (⟨#[13, 10]⟩ : ByteArray)).bind fun bt208 => ((strings_ReplaceAll.f bt208.1 (⟨#[13, 10, 32]⟩ : ByteArray) (⟨#[32]⟩ : ByteArray)).bind fun t210 => (if true = true then (if p = true then (if bt208.2 = true then ((impl_HeaderNameOK.f k (bs (colA t))).bind fun t211 => (if t211 = true then ((impl_SafeValue.f k t210).bind fun t212 => (if t212 = true then (some (bs (colA t), t210, true)) else (some ((⟨#[]⟩ : ByteArray), (⟨#[]⟩ : ByteArray), false)))) else (some ((⟨#[]⟩ : ByteArray), (⟨#[]⟩ : ByteArray), false)))) else (some ((⟨#[]⟩ : ByteArray), (⟨#[]⟩ : ByteArray), false))) else (some ((⟨#[]⟩ : ByteArray), (⟨#[]⟩ : ByteArray), false))) else (some ((⟨#[]⟩ : ByteArray), (⟨#[]⟩ : ByteArray), false))))) r := by
      intro X p r hX h1 h2 h3
      refine ev_bindc (cutSuf X CRLF hX (by decide)) ?_
      cases hs : CRLF.isSuffixOf X with
      | false =>
        rw [if_neg (by simp)]
        refine ev_bindc (repF X hX) (ev_pos rfl ?_)
        cases p with
        | false => exact ev_neg (by simp) (ev_some (h1 rfl).symm)
        | true => exact ev_pos rfl (ev_neg (by simp) (ev_some (h2 rfl hs).symm))
      | true =>
        rw [if_pos rfl]
        refine ev_bindc (repF (X.take (X.length - CRLF.length)) (by rw [List.length_take]; omega)) (ev_pos rfl ?_)
        cases p with
        | false => exact ev_neg (by simp) (ev_some (h1 rfl).symm)
        | true => exact ev_pos rfl (ev_pos rfl (h3 rfl hs))
    by_cases hp : (colB t).tail.head? = some 32
    · rw [if_pos hp]
      have hX : (colB t).tail.tail = (colB t).drop 2 := by rw [htl, List.tail_drop]
      rw [hX]
      have hsufX : CRLF.isSuffixOf ((colB t).drop 2) = true ↔ (4 ≤ (colB t).length ∧ CRLF.isSuffixOf t = true) := by
        have hXt : (colB t).drop 2 <:+ t := (List.drop_suffix 2 (colB t)).trans ⟨colA t, col_parts t⟩
        rw [List.isSuffixOf_iff_suffix, List.isSuffixOf_iff_suffix]
        constructor
        · intro h
          have := h.length_le
          simp at this
          exact ⟨by omega, h.trans hXt⟩
        · rintro ⟨h1, h2⟩
          exact List.suffix_of_suffix_length_le h2 hXt (by simp; omega)
      refine step ((colB t).drop 2) true _ (by simp; omega) (fun h => by cases h) (fun _ h => ?_) (fun _ h => ?_)
      · have : fldOk t = false := by
          unfold fldOk
          by_cases h4 : 4 ≤ (colB t).length
          · have : CRLF.isSuffixOf t = false := by
              cases hq : CRLF.isSuffixOf t with
              | false => rfl
              | true => rw [hsufX.mpr ⟨h4, hq⟩] at h; cases h
            rw [this]; simp
          · rw [decide_eq_false h4]; simp
        rw [none_of this]
      · obtain ⟨h4, h5⟩ := hsufX.mp h
        have hV : ((colB t).drop 2).take (((colB t).drop 2).length - 2) = valV t := by unfold valV; congr 1; simp; omega
        rw [hV]
        have hvl : (valV t).length ≤ 1048576 := by unfold valV; simp; omega
        have hR := rep_len _ (valV t) (Nat.le_refl _)
        have hU := unf_replace _ (valV t) (Nat.le_refl _)
        refine Ev.bind (hnameI_ev (colA t) (by omega)) ?_
        cases h6 : nameOk (colA t) with
        | false =>
          have : fldOk t = false := by unfold fldOk; rw [h6]; simp
          rw [none_of this]; exact ev_neg (by simp) (ev_some rfl)
        | true =>
          have hok : fldOk t = true := by
            unfold fldOk
            rw [htl] at hp
            rw [decide_eq_true h4, decide_eq_true hp, h5, h6]; rfl
          refine ev_pos rfl (Ev.bind (safeI_ev _ (by omega)) ?_)
          unfold unfd
          rw [if_pos hok]
          cases hu : unf (valV t) with
          | none =>
            rw [not_vis (hU.2 hu)]
            exact ev_neg (by simp) (ev_some rfl)
          | some u =>
            rw [hU.1 u hu]
            rw [Option.bind_some]
            cases hs : safeB u with
            | false => exact ev_neg (by simp) (ev_some rfl)
            | true => exact ev_pos rfl (ev_some rfl)
    · rw [if_neg hp]
      have : fldOk t = false := by
        unfold fldOk
        rw [htl] at hp
        rw [decide_eq_false hp]; simp
      rw [none_of this]
      exact step (colB t).tail false _ hbt (fun _ => rfl) (fun h => by cases h) (fun h => by cases h)
end Go.Proofs.YtcmnndnigjkldaaGreatDoor.PFnExactFetchText
end
section
set_option linter.unusedVariables false
set_option linter.unusedSimpArgs false
namespace Go.Proofs.YtcmnndnigjkldaaGreatDoor.PFnExactFetchText
open Go.RowKit Go.Proofs.YtcmnndnigjkldaaGreatDoorW.PrintWords
/-! A mail's text taken apart, both ways. -/
def flS (fs : Flds) : List S84 := fs.map fun x => (⟨bs x.1, bs x.2⟩ : S84)
theorem flS_snoc (fs : Flds) (x : Bytes × Bytes) : flS fs ++ [(⟨bs x.1, bs x.2⟩ : S84)] = flS (fs ++ [x]) := by simp [flS]
theorem flS_len (fs : Flds) : (flS fs).length = fs.length := by simp [flS]
abbrev NOM : List S84 × ByteArray × Bool := (([] : List S84), (⟨#[]⟩ : ByteArray), false)
theorem pre_take (s p : Bytes) : p.isPrefixOf s = true ↔ s.take p.length = p := by
  rw [List.isPrefixOf_iff_prefix, List.prefix_iff_eq_take]
  exact ⟨fun h => h.symm, fun h => h.symm⟩
theorem crlf_at (t : Bytes) (p : Nat) (hp : p + 2 ≤ t.length) : ((bs t).extract (p : Int).toNat ((p + 2 : Nat) : Int).toNat).toList = ([13, 10] : List UInt8) ↔ CRLF.isPrefixOf (t.drop p) = true := by
  rw [Int.toNat_natCast, Int.toNat_natCast, bs_extract, bs_toList, List.drop_take, pre_take, show p + 2 - p = CRLF.length by simp]
theorem l1S (t : Bytes) (ht : t.length ≤ 1048576) (a : Nat) (F : List S84) (B : ByteArray) (X : List S84 × ByteArray × Bool) : ∀ (m p : Nat), t.length - p ≤ m → p ≤ t.length →
    (∀ f r, fEnd (t.drop p) = some (f, r) → Ev (fun k => spec_l07Parse.j3 k (bs t) (a : Int) ((p + f.length - 2 : Nat) : Int) F B) X) →
    (fEnd (t.drop p) = none → ∀ q : Nat, t.length < q + 2 → q ≤ t.length → Ev (fun k => spec_l07Parse.j3 k (bs t) (a : Int) (q : Int) F B) X) →
    Ev (fun k => spec_l07Parse.l1 k (bs t) (a : Int) (p : Int) F B) X := by
  intro m
  induction m with
  | zero =>
    intro p hm hp h1 h2
    refine Ev.step (fun _ => spec_l07Parse.l1.eq_2 ..) (ev_neg (by rw [bs_size, w64n (by omega)]; omega) ?_)
    exact h2 (by rw [List.drop_of_length_le (by omega)]; rfl) p (by omega) hp
  | succ m ih =>
    intro p hm hp h1 h2
    have w1 : wrap64 ((p : Int) + 1) = ((p + 1 : Nat) : Int) := w64n (by omega)
    have w2 : wrap64 ((p : Int) + 2) = ((p + 2 : Nat) : Int) := by rw [w64 (by omega) (by omega)]; rfl
    refine Ev.step (fun _ => spec_l07Parse.l1.eq_2 ..) ?_
    rw [w1, w2, bs_size]
    by_cases hlt : p + 1 < t.length
    · refine ev_pos (by omega) (ev_pos (by omega) (ev_pos (by omega) (ev_pos (by omega) ?_)))
      have hd : t.drop p = t[p] :: t.drop (p + 1) := drop_cons t p (by omega)
      -- one byte on
      have next : ¬ (t[p] = 13 ∧ (t.drop (p + 1)).head? = some 10 ∧ (t.drop (p + 1)).tail.head? ≠ some 32) → Ev (fun k => spec_l07Parse.l1 k (bs t) (a : Int) ((p + 1 : Nat) : Int) F B) X := by
        intro hn
        have he : fEnd (t.drop p) = (fEnd (t.drop (p + 1))).map fun q => (t[p] :: q.1, q.2) := by rw [hd, fEnd, if_neg hn]
        refine ih (p + 1) (by omega) (by omega) (fun f r hf => ?_) (fun hf q hq hq2 => h2 (by rw [he, hf]; rfl) q hq hq2)
        have := h1 (t[p] :: f) r (by rw [he, hf]; rfl)
        rwa [show p + (t[p] :: f).length - 2 = p + 1 + f.length - 2 by simp; omega] at this
      by_cases hc : CRLF.isPrefixOf (t.drop p) = true
      · refine ev_pos ((crlf_at t p (by omega)).mpr hc) ?_
        obtain ⟨r, hr⟩ := List.isPrefixOf_iff_prefix.mp hc
        have hr' : t.drop p = 13 :: (10 :: r) := hr.symm
        have h3 : t[p] = 13 ∧ t.drop (p + 1) = 10 :: r := by rw [hd] at hr'; injection hr' with x y; exact ⟨x, y⟩
        have hr2 : t.drop (p + 2) = r := by rw [← List.drop_drop (i := 1), h3.2] <;> rfl
        have stop : (t.drop (p + 1)).tail.head? ≠ some 32 → Ev (fun k => spec_l07Parse.j3 k (bs t) (a : Int) (p : Int) F B) X := by
          intro hq
          have := h1 CRLF r (by rw [hd, fEnd, if_pos ⟨h3.1, by rw [h3.2]; rfl, hq⟩, h3.2]; rfl)
          rwa [show p + CRLF.length - 2 = p by simp] at this
        by_cases he : p + 2 = t.length
        · refine ev_pos (by omega) (stop ?_)
          rw [List.tail_drop, List.drop_of_length_le (by omega)]; simp
        · refine ev_neg (by omega) (ev_pos (by omega) (ev_pos (by omega) ?_))
          have hh : (t.drop (p + 1)).tail.head? = some t[p + 2] := by rw [List.tail_drop, drop_cons t (p + 1 + 1) (by omega)]; rfl
          have e32 : (t[p + 2]).toNat = 32 ↔ t[p + 2] = 32 := by rw [← UInt8.toNat_inj]; rfl
          rw [bt_bs t (p + 2) (by omega)]
          by_cases h4 : (t[p + 2]).toNat = 32
          · exact ev_neg (by omega) (next (by rw [hh]; rintro ⟨_, _, x⟩; exact x (by rw [e32.mp h4])))
          · exact ev_pos (by omega) (stop (by rw [hh]; intro x; injection x with x; exact h4 (e32.mpr x)))
      · refine ev_neg (fun x => hc ((crlf_at t p (by omega)).mp x)) (next ?_)
        rintro ⟨x1, x2, _⟩
        refine crlf_not (c := t[p]) (r := t.drop (p + 1)) ?_ ⟨x1, x2⟩
        rw [← hd]; exact Bool.eq_false_iff.mpr hc
    · refine ev_neg (by omega) (h2 ?_ p (by omega) hp)
      by_cases hp2 : p < t.length
      · rw [drop_cons t p hp2, List.drop_of_length_le (by omega)]
        unfold fEnd
        rw [if_neg (by simp)]; rfl
      · rw [List.drop_of_length_le (by omega)]; rfl
theorem parS_l0 (t : Bytes) (ht : t.length ≤ 1048576) : ∀ (n a : Nat) (fs : Flds), t.length - a < n → a ≤ t.length → fs.length ≤ 40 →
    ∃ x, Ev (fun k => spec_l07Parse.l0 k (bs t) (a : Int) (flS fs) (⟨#[]⟩ : ByteArray)) x ∧ (match parse n (t.drop a) fs with | none => x.2.2 = false | some q => x = (flS q.1, bs q.2, true)) := by
  intro n
  induction n with
  | zero => intro a fs hn; omega
  | succ n ih =>
    intro a fs hn ha hf
    have w2 : wrap64 ((a : Int) + 2) = ((a + 2 : Nat) : Int) := by rw [w64 (by omega) (by omega)]; rfl
    unfold parse
    -- the fields' end, or a field
    have start : ∀ x, (Ev (fun k => spec_l07Parse.j1 k (bs t) (a : Int) (CRLF.isPrefixOf (t.drop a)) (flS fs) (⟨#[]⟩ : ByteArray)) x) → Ev (fun k => spec_l07Parse.l0 k (bs t) (a : Int) (flS fs) (⟨#[]⟩ : ByteArray)) x := by
      intro x H
      refine Ev.step (fun _ => spec_l07Parse.l0.eq_2 ..) ?_
      rw [w2, bs_size]
      by_cases h : a + 2 ≤ t.length
      · refine ev_pos (by omega) (ev_pos (by omega) (ev_pos (by omega) ?_))
        have e : (((bs t).extract (a : Int).toNat ((a + 2 : Nat) : Int).toNat).toList == ([13, 10] : List UInt8)) = CRLF.isPrefixOf (t.drop a) := by
          rw [Bool.eq_iff_iff, beq_iff_eq]; exact crlf_at t a h
        rw [e]; exact H
      · have e : CRLF.isPrefixOf (t.drop a) = false := by
          rw [← Bool.not_eq_true, List.isPrefixOf_iff_prefix]
          intro x; have := x.length_le; simp at this; omega
        rw [e] at H
        exact ev_neg (by omega) H
    cases hc : CRLF.isPrefixOf (t.drop a) with
    | true =>
      rw [if_pos rfl]
      have hl : a + 2 ≤ t.length := by have := (List.isPrefixOf_iff_prefix.mp hc).length_le; simp at this; omega
      refine ⟨_, start _ ?_, rfl⟩
      rw [hc]
      refine Ev.step (fun _ => spec_l07Parse.j1.eq_2 ..) (ev_pos rfl ?_)
      rw [w2, bs_size]
      refine ev_pos (by omega) (ev_pos (by omega) (ev_some ?_))
      rw [Int.toNat_natCast, bs_extract, List.take_of_length_le (Nat.le_refl _), List.drop_drop]
    | false =>
      rw [if_neg (by simp)]
      have go : ∀ x, Ev (fun k => spec_l07Parse.l1 k (bs t) (a : Int) (a : Int) (flS fs) (⟨#[]⟩ : ByteArray)) x → Ev (fun k => spec_l07Parse.l0 k (bs t) (a : Int) (flS fs) (⟨#[]⟩ : ByteArray)) x := by
        intro x H
        refine start x ?_
        rw [hc]
        exact Ev.step (fun _ => spec_l07Parse.j1.eq_2 ..) (ev_neg (by simp) H)
      cases hq : fEnd (t.drop a) with
      | none =>
        refine ⟨(flS fs, (⟨#[]⟩ : ByteArray), false), go _ (l1S t ht a (flS fs) _ _ t.length a (by omega) ha (fun f r h => by rw [hq] at h; cases h) (fun _ q h1 h2 => ?_)), rfl⟩
        refine Ev.step (fun _ => spec_l07Parse.j3.eq_2 ..) ?_
        rw [bs_size, w64 (x := (q : Int) + 2) (by omega) (by omega)]
        exact ev_pos (by omega) (ev_some rfl)
      | some q =>
        obtain ⟨f, r⟩ := q
        obtain ⟨e1, a', e2⟩ := fEnd_parts hq
        have hfl : 2 ≤ f.length := by rw [e2]; simp
        have hle : a + f.length ≤ t.length := by have := congrArg List.length e1; simp at this; omega
        have hr : t.drop (a + f.length) = r := by rw [← List.drop_drop, e1, List.drop_left]
        have hf2 : (t.take (a + f.length)).drop a = f := by rw [List.drop_take, show a + f.length - a = f.length by omega, e1, List.take_left]
        obtain ⟨x, hx1, hx2⟩ := unfS_ev f (by omega)
        -- behind the field
        have j3 : ∀ y, Ev (fun k => if x.2.2 = true then (if ((flS fs).length : Int) = 40 then (some (flS fs, (⟨#[]⟩ : ByteArray), false)) else (if (flS fs).length < 4398046511104 then (spec_l07Parse.l0 k (bs t) ((a + f.length : Nat) : Int) (flS fs ++ [(⟨x.1, x.2.1⟩ : S84)]) (⟨#[]⟩ : ByteArray)) else (none))) else (some (flS fs, (⟨#[]⟩ : ByteArray), false))) y → Ev (fun k => spec_l07Parse.l0 k (bs t) (a : Int) (flS fs) (⟨#[]⟩ : ByteArray)) y := by
          intro y H
          refine go y (l1S t ht a (flS fs) _ _ t.length a (by omega) ha (fun f' r' h => ?_) (fun h => by rw [hq] at h; cases h))
          rw [hq] at h
          injection h with h; injection h with h3 h4
          subst h3
          refine Ev.step (fun _ => spec_l07Parse.j3.eq_2 ..) ?_
          have e3 : wrap64 (((a + f.length - 2 : Nat) : Int) + 2) = ((a + f.length : Nat) : Int) := by rw [w64 (by omega) (by omega)]; omega
          rw [e3, bs_size]
          refine ev_neg (by omega) (ev_pos (by omega) (ev_pos (by omega) (ev_pos (by omega) ?_)))
          rw [Int.toNat_natCast, Int.toNat_natCast, bs_extract, hf2]
          exact Ev.bind hx1 H
        simp only [Option.bind_some]
        cases hu : unfd f with
        | none =>
          rw [hu] at hx2
          refine ⟨(flS fs, (⟨#[]⟩ : ByteArray), false), j3 _ ?_, rfl⟩
          rw [show x.2.2 = false from hx2]
          exact ev_neg (by simp) (ev_some rfl)
        | some u =>
          rw [hu] at hx2
          have hx3 : x = (bs u.1, bs u.2, true) := hx2
          subst hx3
          simp only [Option.bind_some]
          by_cases h40 : fs.length = 40
          · rw [if_pos h40]
            exact ⟨(flS fs, (⟨#[]⟩ : ByteArray), false), j3 _ (ev_pos rfl (ev_pos (by rw [flS_len]; omega) (ev_some rfl))), rfl⟩
          · rw [if_neg h40]
            obtain ⟨y, hy1, hy2⟩ := ih (a + f.length) (fs ++ [u]) (by omega) hle (by simp; omega)
            rw [hr] at hy2
            refine ⟨y, j3 y (ev_pos rfl (ev_neg (by rw [flS_len]; omega) (ev_pos (by rw [flS_len]; omega) ?_))), hy2⟩
            have e := flS_snoc fs u
            rw [e]; exact hy1
theorem parS_ev (t : Bytes) (ht : t.length ≤ 1048576) : ∃ x, Ev (fun k => spec_l07Parse.f k (bs t)) x ∧ (match parse (t.length + 1) t [] with | none => x.2.2 = false | some q => x = (flS q.1, bs q.2, true)) := by
  obtain ⟨x, h1, h2⟩ := parS_l0 t ht (t.length + 1) 0 [] (by omega) (by omega) (by simp)
  rw [List.drop_zero] at h2
  exact ⟨x, h1, h2⟩
/-! A mail's text taken apart, the program's way. -/
theorem headI (t : Bytes) (ht : t.length ≤ 1048576) : impl_headEnd.f (bs t) = some (if CRLF.isPrefixOf t = true then 0 else if Lib.index t DD < 0 then -1 else Lib.index t DD + 2) := by
  have hp : strings_HasPrefix.f (bs t) (⟨#[13, 10]⟩ : ByteArray) = some (CRLF.isPrefixOf t) := by
    unfold strings_HasPrefix.f stringslite_HasPrefix.f
    have e0 : ((⟨#[13, 10]⟩ : ByteArray).size : Int) = 2 := rfl
    rw [e0, bs_size]
    by_cases h : (t.length : Int) ≥ 2
    · rw [if_pos h, if_pos (by omega), if_pos h]
      simp only [Option.bind_some]
      congr 1
      have e2 : ((bs t).extract 0 (2 : Int).toNat).toList = t.take 2 := by rw [bs_extract, bs_toList, List.drop_zero]; rfl
      rw [e2, show (⟨#[13, 10]⟩ : ByteArray).toList = [13, 10] from bs_toList [13, 10], Bool.eq_iff_iff, beq_iff_eq]
      exact (pre_take t CRLF).symm
    · rw [if_neg h]
      simp only [Option.bind_some]
      congr 1
      symm
      rw [← Bool.not_eq_true, List.isPrefixOf_iff_prefix]
      intro x; have := x.length_le; simp at this; omega
  unfold impl_headEnd.f
  rw [hp]
  simp only [Option.bind_some]
  cases h : CRLF.isPrefixOf t with
  | true => rw [if_pos rfl, if_pos rfl]
  | false =>
    rw [if_neg (by simp), if_neg (by simp)]
    unfold strings_Index.f
    rw [if_pos (by rw [bs_size]; omega)]
    simp only [Option.bind_some]
    show (if Lib.index t DD < 0 then some (-1) else some (wrap64 (Lib.index t DD + 2))) = _
    by_cases h2 : Lib.index t DD < 0
    · rw [if_pos h2, if_pos h2]
    · rw [if_neg h2, if_neg h2]
      have := Lib.index_room t DD (by omega)
      simp only [List.length_cons, List.length_nil] at this
      rw [w64 (by omega) (by omega)]
theorem idxF2 (s : Bytes) (hs : s.length ≤ 1048576) : strings_Index.f (bs s) (⟨#[13, 10]⟩ : ByteArray) = some (Lib.index s CRLF) := by
  unfold strings_Index.f
  rw [if_pos (by rw [bs_size]; omega)]; rfl
theorem suf_hit {s : Bytes} (h : CRLF.isSuffixOf s = true) : ∃ p r, s = p ++ (CRLF ++ r) ∧ Lib.index s CRLF = p.length ∧ Free CRLF p (CRLF ++ r) := by
  rcases idx_cases CRLF (by decide) s with ⟨e, hf⟩ | hh
  · exfalso
    obtain ⟨a, ha⟩ := List.isSuffixOf_iff_suffix.mp h
    have := Free.before hf (a := a) (c := []) (by rw [List.append_nil, List.append_nil]; exact ha.symm)
    have h2 := congrArg List.length ha
    simp at h2; omega
  · exact hh
theorem suf_drop {s : Bytes} (h : CRLF.isSuffixOf s = true) {n : Nat} (hn : n < s.length) (hb : s[n] = 32) : CRLF.isSuffixOf (s.drop n) = true := by
  rw [List.isSuffixOf_iff_suffix] at h ⊢
  by_cases h2 : 2 ≤ s.length - n
  · exact List.suffix_of_suffix_length_le h (List.drop_suffix n s) (by simp; omega)
  · exfalso
    have e := List.suffix_iff_eq_drop.mp h
    have h3 : s.length - CRLF.length + 1 = n := by have := h.length_le; simp at this ⊢; omega
    have h4 : s[n]? = some 10 := by
      have h5 := congrArg (fun l => l[1]?) e
      simp only [List.getElem?_drop] at h5
      rw [h3] at h5; exact h5.symm
    rw [List.getElem?_eq_getElem hn, hb] at h4; cases h4
/-- What is done at a field's end. -/
def afterF (k : Nat) (s : Bytes) (n : Nat) (F : List S84) (B : ByteArray) : Option (List S84 × ByteArray × Bool) :=
  (impl_unfold.f k ((bs s).extract 0 ((n : Nat) : Int).toNat)).bind fun q => (if q.2.2 = true then (if (F.length : Int) = 40 then (some NOM) else (if F.length < 4398046511104 then (impl_parseMail.l0 k ((bs s).extract ((n : Nat) : Int).toNat s.length) (F ++ [(⟨q.1, q.2.1⟩ : S84)]) B) else (none))) else (some NOM))
theorem l1I (s : Bytes) (hs : s.length ≤ 1048576) (hsuf : CRLF.isSuffixOf s = true) (F : List S84) (B : ByteArray) (X : List S84 × ByteArray × Bool) : ∀ (m n : Nat), s.length - n ≤ m → n ≤ s.length →
    (∀ n', ((s.drop n).head? ≠ some 32 ∧ n' = n) ∨ (∃ g r, (s.drop n).head? = some 32 ∧ fEnd (s.drop n) = some (g, r) ∧ n' = n + g.length) → n' ≤ s.length → Ev (fun k => afterF k s n' F B) X) →
    Ev (fun k => impl_parseMail.l1 k (bs s) (n : Int) F B) X := by
  intro m
  induction m with
  | zero =>
    intro n hm hn H
    refine Ev.step (fun _ => impl_parseMail.l1.eq_2 ..) (ev_neg (by rw [bs_size]; omega) (ev_pos (by omega) (ev_pos (by rw [bs_size]; omega) ?_)))
    rw [bs_size]
    exact H n (Or.inl ⟨by rw [List.drop_of_length_le (by omega)]; simp, rfl⟩) hn
  | succ m ih =>
    intro n hm hn H
    by_cases hlt : n < s.length
    · refine Ev.step (fun _ => impl_parseMail.l1.eq_2 ..) (ev_pos (by rw [bs_size]; omega) (ev_pos (by omega) ?_))
      have hh : (s.drop n).head? = some s[n] := by rw [drop_cons s n hlt]; rfl
      have e32 : (s[n]).toNat = 32 ↔ s[n] = 32 := by rw [← UInt8.toNat_inj]; rfl
      rw [bt_bs s n hlt, bs_size]
      by_cases hb : (s[n]).toNat = 32
      · refine ev_pos (by omega) (ev_pos (by omega) ?_)
        have ex : (bs s).extract (n : Int).toNat s.length = bs (s.drop n) := by rw [Int.toNat_natCast, bs_extract, List.take_of_length_le (Nat.le_refl _)]
        rw [ex]
        refine ev_bindc (idxF2 (s.drop n) (by simp; omega)) ?_
        obtain ⟨p, r, e1, e2, hf⟩ := suf_hit (suf_drop hsuf hlt (e32.mp hb))
        have hl : n + p.length + 2 + r.length = s.length := by have := congrArg List.length e1; simp at this; omega
        have e3 : wrap64 ((n : Int) + wrap64 (Lib.index (s.drop n) CRLF + 2)) = ((n + p.length + 2 : Nat) : Int) := by
          rw [e2, w64 (x := (p.length : Int) + 2) (by omega) (by omega), w64 (by omega) (by omega)]; omega
        rw [e3]
        have hr : s.drop (n + p.length + 2) = r := by
          rw [Nat.add_assoc, ← List.drop_drop, e1, ← List.append_assoc, show p.length + 2 = (p ++ CRLF).length by simp, List.drop_left]
        have hfe : fEnd (s.drop n) = if r.head? ≠ some 32 then some (p ++ CRLF, r) else (fEnd r).map fun q => (p ++ (CRLF ++ q.1), q.2) := by rw [e1]; exact fEnd_hit r hf
        refine ih (n + p.length + 2) (by omega) (by omega) (fun n' h hn' => H n' (Or.inr ?_) hn')
        rw [hr] at h
        rcases h with ⟨h1, h2⟩ | ⟨g, r', h1, h2, h3⟩
        · exact ⟨p ++ CRLF, r, by rw [hh, e32.mp hb], by rw [hfe, if_pos h1], by rw [h2]; simp; omega⟩
        · exact ⟨p ++ (CRLF ++ g), r', by rw [hh, e32.mp hb], by rw [hfe, if_neg (by simp [h1]), h2]; rfl, by rw [h3]; simp; omega⟩
      · refine ev_neg (by omega) (ev_pos (by omega) ?_)
        exact H n (Or.inl ⟨by rw [hh]; intro x; injection x with x; exact hb (e32.mpr x), rfl⟩) hn
    · refine Ev.step (fun _ => impl_parseMail.l1.eq_2 ..) (ev_neg (by rw [bs_size]; omega) (ev_pos (by omega) (ev_pos (by rw [bs_size]; omega) ?_)))
      rw [bs_size]
      exact H n (Or.inl ⟨by rw [List.drop_of_length_le (by omega)]; simp, rfl⟩) hn
def headIn (s : Bytes) : Prop := s = [] ∨ (CRLF.isSuffixOf s = true ∧ CRLF.isPrefixOf s = false ∧ ∀ p q, s ≠ p ++ (DD ++ q))
theorem parI_l0 (b : Bytes) : ∀ (n : Nat) (s : Bytes) (fs : Flds), s.length < n → s.length ≤ 1048576 → headIn s → fs.length ≤ 40 →
    Ev (fun k => impl_parseMail.l0 k (bs s) (flS fs) (bs b)) (match parse n (s ++ (CRLF ++ b)) fs with | none => NOM | some q => (flS q.1, bs q.2, true)) := by
  intro n
  induction n with
  | zero => intro s fs hn; omega
  | succ n ih =>
    intro s fs hn hs hin hf
    rcases hin with rfl | ⟨h1, h2, h3⟩
    · unfold parse
      rw [if_pos (by simp)]
      exact Ev.step (fun _ => impl_parseMail.l0.eq_2 ..) (ev_pos ((bs_nilq []).mpr rfl) (ev_some rfl))
    · have hne : s ≠ [] := by rintro rfl; simp at h1
      have hsl : 2 ≤ s.length := by have := (List.isSuffixOf_iff_suffix.mp h1).length_le; simpa using this
      have hp : CRLF.isPrefixOf (s ++ (CRLF ++ b)) = false := by
        rw [← Bool.not_eq_true, pre_take, List.take_append_of_le_length (by simpa using hsl), ← pre_take, h2]; simp
      obtain ⟨p, r, e1, e2, hfr⟩ := suf_hit h1
      have hl : p.length + 2 + r.length = s.length := by have := congrArg List.length e1; simp at this; omega
      have hr : s.drop (p.length + 2) = r := by rw [e1, ← List.append_assoc, show p.length + 2 = (p ++ CRLF).length by simp, List.drop_left]
      have hfe : fEnd s = if r.head? ≠ some 32 then some (p ++ CRLF, r) else (fEnd r).map fun q => (p ++ (CRLF ++ q.1), q.2) := by rw [e1]; exact fEnd_hit r hfr
      refine Ev.step (fun _ => impl_parseMail.l0.eq_2 ..) (ev_neg (fun x => hne ((bs_nilq _).mp x)) (ev_bindc (idxF2 s hs) ?_))
      have e3 : wrap64 (Lib.index s CRLF + 2) = ((p.length + 2 : Nat) : Int) := by rw [e2, w64 (by omega) (by omega)]; rfl
      rw [e3]
      refine l1I s hs h1 (flS fs) (bs b) _ s.length (p.length + 2) (by omega) (by omega) (fun n' hn' hle => ?_)
      -- the field
      obtain ⟨f, r', hq, hfl⟩ : ∃ f r', fEnd s = some (f, r') ∧ f.length = n' := by
        rw [hr] at hn'
        rcases hn' with ⟨h4, h5⟩ | ⟨g, r', h4, h5, h6⟩
        · exact ⟨p ++ CRLF, r, by rw [hfe, if_pos h4], by rw [h5]; simp⟩
        · exact ⟨p ++ (CRLF ++ g), r', by rw [hfe, if_neg (by simp [h4]), h5]; rfl, by rw [h6]; simp; omega⟩
      obtain ⟨e4, a, e5⟩ := fEnd_parts hq
      have hf2 : 2 ≤ f.length := by rw [e5]; simp
      have hx1 : (bs s).extract 0 ((n' : Nat) : Int).toNat = bs f := by rw [Int.toNat_natCast, bs_extract, List.drop_zero, e4, ← hfl, List.take_left]
      have hx2 : (bs s).extract ((n' : Nat) : Int).toNat s.length = bs r' := by rw [Int.toNat_natCast, bs_extract, List.take_of_length_le (Nat.le_refl _)]; congr 1; rw [e4, ← hfl, List.drop_left]
      have hlr : r'.length + 2 ≤ s.length := by have := congrArg List.length e4; simp at this; omega
      unfold afterF
      rw [hx1, hx2]
      refine Ev.bind (unfI_ev f (by omega)) ?_
      unfold parse
      rw [if_neg (by rw [hp]; simp), fEnd_front b s h1, hq]
      simp only [Option.map_some, Option.bind_some]
      cases hu : unfd f with
      | none => exact ev_neg (by simp) (ev_some rfl)
      | some u =>
        simp only [Option.bind_some]
        by_cases h40 : fs.length = 40
        · rw [if_pos h40]; exact ev_pos (by first | rfl | trivial) (ev_pos (by rw [flS_len]; omega) (ev_some rfl))
        · rw [if_neg h40]
          refine ev_pos (by first | rfl | trivial) (ev_neg (by rw [flS_len]; omega) (ev_pos (by rw [flS_len]; omega) ?_))
          rw [flS_snoc fs u]
          refine ih r' (fs ++ [u]) (by omega) (by omega) ?_ (by simp; omega)
          by_cases hr0 : r' = []
          · exact Or.inl hr0
          · right
            have e6 : s = a ++ (CRLF ++ r') := by rw [e4, e5]; simp
            refine ⟨?_, ?_, fun p q e => h3 (f ++ p) q (by rw [e4, e]; simp)⟩
            · rw [e6] at h1
              rcases suffix_more.mp h1 with h | h
              · exact absurd h hr0
              · exact h
            · cases hq2 : CRLF.isPrefixOf r' with
              | false => rfl
              | true =>
                obtain ⟨z, hz⟩ := List.isPrefixOf_iff_prefix.mp hq2
                exact absurd (show s = a ++ (DD ++ z) by rw [e6, ← hz]; simp) (h3 a z)
theorem parI_ev (t : Bytes) (ht : t.length ≤ 1048576) : Ev (fun k => impl_parseMail.f k (bs t)) (if mailB t = true then (match parse (t.length + 1) t [] with | none => NOM | some q => (flS q.1, bs q.2, true)) else NOM) := by
  have bad : ∀ e : Int, Ev (fun k => impl_parseMail.j0 k (bs t) e true) NOM := fun e => Ev.step (fun _ => impl_parseMail.j0.eq_2 ..) (ev_pos rfl (ev_some rfl))
  unfold impl_parseMail.f
  refine ev_bindc (headI t ht) (Ev.bind (mailI_ok t ht) ?_)
  cases hm : mailB t with
  | false => exact ev_to (if_neg (by simp)).symm (ev_neg (by simp) (bad _))
  | true =>
    refine ev_to (if_pos rfl).symm (ev_pos rfl ?_)
    cases hc : CRLF.isPrefixOf t with
    | true =>
      rw [if_pos rfl]
      obtain ⟨b, hb⟩ := List.isPrefixOf_iff_prefix.mp hc
      have hl : 2 ≤ t.length := by have := congrArg List.length hb; simp at this; omega
      refine Ev.step (fun _ => impl_parseMail.j0.eq_2 ..) (ev_neg (by simp) ?_)
      have e2 : wrap64 ((0 : Int) + 2) = 2 := by rw [w64 (by omega) (by omega)]; rfl
      rw [e2, bs_size]
      refine ev_pos (by omega) (ev_pos (by omega) (ev_pos (by omega) (ev_pos (by omega) ?_)))
      have ex : (bs t).extract (2 : Int).toNat t.length = bs b := by
        rw [bs_extract, List.take_of_length_le (Nat.le_refl _), ← hb]; rfl
      rw [ex]
      have := parI_l0 b (t.length + 1) [] [] (by simp) (by simp) (Or.inl rfl) (by simp)
      rw [List.nil_append, hb] at this
      have e0 : (bs t).extract 0 (0 : Int).toNat = bs [] := by rw [bs_extract]; simp
      rw [e0]; exact this
    | false =>
      rw [if_neg (by simp)]
      rcases idx_cases DD (by decide) t with ⟨e, hf⟩ | ⟨h', b, e1, e2, hf⟩
      · rw [e, if_pos (by decide)]
        have hn : parse (t.length + 1) t [] = none := by
          cases hq : parse (t.length + 1) t [] with
          | none => rfl
          | some x =>
            exfalso
            rcases parse_dd _ _ _ _ hq with h | ⟨p, q, h⟩
            · rw [h] at hc; cases hc
            · have := Free.before hf (a := p) (c := q) (by rw [List.append_nil]; exact h)
              have h2 := congrArg List.length h
              simp at h2; omega
        rw [hn]
        exact bad _
      · rw [e2, if_neg (by omega)]
        have hl : h'.length + 4 + b.length = t.length := by have := congrArg List.length e1; simp at this; omega
        have es : t = (h' ++ CRLF) ++ (CRLF ++ b) := by rw [e1]; simp
        refine Ev.step (fun _ => impl_parseMail.j0.eq_2 ..) (ev_neg (by simp; omega) ?_)
        have e4 : wrap64 (((h'.length : Int) + 2) + 2) = ((h'.length + 4 : Nat) : Int) := by rw [w64 (by omega) (by omega)]; omega
        rw [e4, bs_size]
        refine ev_pos (by omega) (ev_pos (by omega) (ev_pos (by omega) (ev_pos (by omega) ?_)))
        have ex1 : (bs t).extract 0 ((h'.length : Int) + 2).toNat = bs (h' ++ CRLF) := by
          rw [show ((h'.length : Int) + 2).toNat = (h' ++ CRLF).length by simp; omega, bs_extract, List.drop_zero]
          congr 1
          rw [es, List.take_left]
        have ex2 : (bs t).extract ((h'.length + 4 : Nat) : Int).toNat t.length = bs b := by
          rw [Int.toNat_natCast, bs_extract, List.take_of_length_le (Nat.le_refl _)]
          congr 1
          rw [es, ← List.append_assoc, show h'.length + 4 = (h' ++ CRLF ++ CRLF).length by simp, List.drop_left]
        rw [ex1, ex2]
        have := parI_l0 b (t.length + 1) (h' ++ CRLF) [] (by simp; omega) (by simp; omega) (Or.inr ⟨List.isSuffixOf_iff_suffix.mpr (List.suffix_append _ _), ?_, ?_⟩) (by simp)
        · rw [← es] at this; exact this
        · cases hq : CRLF.isPrefixOf (h' ++ CRLF) with
          | false => rfl
          | true =>
            rw [List.isPrefixOf_iff_prefix] at hq
            rw [List.isPrefixOf_iff_prefix.mpr (hq.trans ⟨CRLF ++ b, es.symm⟩)] at hc; cases hc
        · intro p q e
          have := Free.before hf (a := p) (c := q ++ (CRLF ++ b)) (by rw [← e1, es, e]; simp)
          have h2 := congrArg List.length e
          simp at h2; omega
end Go.Proofs.YtcmnndnigjkldaaGreatDoor.PFnExactFetchText
end
