/- A mail's fields' names and values, both ways. Plain. -/
import Derived.Test.YtifkmkiljpeaaabDoorPFnExactOverLinex1
import Derived.Test.YtifkmkiljpeaaabDoorPFnExactOverLinex6
import Derived.Test.YtifkmkiljpeaaabDoorMailPure
import Derived.Test.YtifkmkiljpeaaabDoorNumPure
set_option linter.unusedVariables false
set_option linter.unusedSimpArgs false
namespace Go.Proofs.YtifkmkiljpeaaabDoor.PFnExactOverLine
open Go.RowKit Go.Proofs.YtifkmkiljpeaaabDoorW.PrintWords
theorem within_f (a b c : Int) : impl_within.f a b c = some (inB a b c) := by
  unfold impl_within.f inB
  by_cases h : a ≥ b
  · rw [if_pos h, decide_eq_true (by omega : b ≤ a)]; rfl
  · rw [if_neg h, decide_eq_false (by omega : ¬ b ≤ a)]; rfl
theorem l01In_f (a b c : Int) : spec_l01In.f a b c = some (inB a b c) := by
  unfold spec_l01In.f inB
  by_cases h : a ≥ b
  · rw [if_pos h, decide_eq_true (by omega : b ≤ a)]; rfl
  · rw [if_neg h, decide_eq_false (by omega : ¬ b ≤ a)]; rfl
/-! A field's name, both ways. -/
theorem inB_true {a b c : Int} : inB a b c = true ↔ b ≤ a ∧ a ≤ c := by simp [inB]
theorem inB_false {a b c : Int} : inB a b c = false ↔ ¬ (b ≤ a ∧ a ≤ c) := by rw [← inB_true]; simp
theorem hname_l0 (l : Bytes) (hl : l.length ≤ 1048576) : ∀ (m i : Nat), i + m = l.length → Ev (fun k => spec_HeaderNameOK.l0 k (bs l) i) ((l.drop i).all nameC) := by
  intro m
  induction m with
  | zero => intro i hi; rw [List.drop_of_length_le (by omega)]; exact Ev.step (fun _ => spec_HeaderNameOK.l0.eq_2 ..) (ev_neg (by rw [bs_size]; omega) (ev_some rfl))
  | succ m ih =>
    intro i hi
    have hlt : i < l.length := by omega
    have hc := (l[i]).toNat_lt
    refine Ev.step (fun _ => spec_HeaderNameOK.l0.eq_2 ..) (ev_pos (by rw [bs_size]; omega) (ev_pos (by omega) ?_))
    rw [bt_bs l i hlt, drop_cons l i hlt, List.all_cons, w64n (by omega), w64 (x := ((l[i]).toNat : Int)) (by omega) (by omega)]
    refine ev_bindc (l01In_f _ _ _) ?_
    have e58 : (l[i]).toNat = 58 ↔ l[i] = 58 := by rw [← UInt8.toNat_inj]; rfl
    cases h : inB ((l[i]).toNat : Int) 33 126 with
    | false =>
      have h2 := inB_false.mp h
      have : nameC l[i] = false := by
        unfold nameC
        by_cases q : 33 ≤ (l[i]).toNat
        · rw [decide_eq_false (by omega : ¬ (l[i]).toNat ≤ 126)]; simp
        · rw [decide_eq_false q]; simp
      rw [this]; exact ev_neg (by simp) (ev_some rfl)
    | true =>
      have h2 := inB_true.mp h
      refine ev_pos rfl ?_
      by_cases q : (l[i]).toNat = 58
      · have : nameC l[i] = false := by unfold nameC; rw [e58.mp q]; rfl
        rw [this]; exact ev_pos (by omega) (ev_some rfl)
      · have : nameC l[i] = true := by
          unfold nameC
          rw [decide_eq_true (by omega : 33 ≤ (l[i]).toNat), decide_eq_true (by omega : (l[i]).toNat ≤ 126), decide_eq_true (show l[i] ≠ 58 from fun e => q (e58.mpr e))]; rfl
        rw [this]; exact ev_neg (by omega) (ih (i + 1) (by omega))
theorem hnameS_ev (l : Bytes) (hl : l.length ≤ 1048576) : Ev (fun k => spec_HeaderNameOK.f k (bs l)) (nameOk l) := by
  unfold spec_HeaderNameOK.f nameOk
  rw [bs_size]
  by_cases h0 : (l.length : Int) > 65536
  · rw [decide_eq_false (by omega : ¬ l.length ≤ 40)]
    simp only [Bool.and_false, Bool.false_and]
    exact ev_pos h0 (ev_some rfl)
  · refine ev_neg h0 (ev_bindc (l01In_f _ _ _) ?_)
    cases h : inB (l.length : Int) 1 40 with
    | false =>
      have h2 := inB_false.mp h
      have : (decide (1 ≤ l.length) && decide (l.length ≤ 40)) = false := by
        by_cases q : 1 ≤ l.length
        · rw [decide_eq_false (by omega : ¬ l.length ≤ 40)]; simp
        · rw [decide_eq_false q]; simp
      rw [this]; exact ev_neg (by simp) (ev_some rfl)
    | true =>
      have h2 := inB_true.mp h
      rw [decide_eq_true (by omega : 1 ≤ l.length), decide_eq_true (by omega : l.length ≤ 40)]
      exact ev_pos rfl (hname_l0 l hl l.length 0 (by omega))
def betw (lo hi : Nat) (c : UInt8) : Bool := decide (lo ≤ c.toNat) && decide (c.toNat ≤ hi)
theorem allW_ev (l : Bytes) (hl : l.length ≤ 1048576) (lo hi : Nat) : Ev (fun k => impl_allWithin.f k (bs l) (lo : Int) (hi : Int)) (l.all (betw lo hi)) := by
  have loop : ∀ (m i : Nat), i + m = l.length → Ev (fun k => impl_allWithin.l0 k (bs l) (lo : Int) (hi : Int) (l.length : Int) i) ((l.drop i).all (betw lo hi)) := by
    intro m
    induction m with
    | zero => intro i hi; rw [List.drop_of_length_le (by omega)]; exact Ev.step (fun _ => impl_allWithin.l0.eq_2 ..) (ev_neg (by omega) (ev_some rfl))
    | succ m ih =>
      intro i hi'
      have hlt : i < l.length := by omega
      refine Ev.step (fun _ => impl_allWithin.l0.eq_2 ..) (ev_pos (by omega) (ev_pos (by omega) (ev_pos (by rw [bs_size]; omega) ?_)))
      rw [bt_bs l i hlt, drop_cons l i hlt, List.all_cons, w64n (by omega)]
      by_cases h1 : ((l[i]).toNat : Int) < (lo : Int)
      · have : betw lo hi l[i] = false := by unfold betw; rw [decide_eq_false (by omega)]; simp
        rw [this]; exact ev_pos h1 (ev_some rfl)
      · refine ev_neg h1 ?_
        by_cases h2 : ((l[i]).toNat : Int) > (hi : Int)
        · have : betw lo hi l[i] = false := by unfold betw; rw [decide_eq_false (by omega : ¬ (l[i]).toNat ≤ hi)]; simp
          rw [this]; exact ev_pos h2 (ev_some rfl)
        · have : betw lo hi l[i] = true := by unfold betw; rw [decide_eq_true (by omega : lo ≤ (l[i]).toNat), decide_eq_true (by omega : (l[i]).toNat ≤ hi)]; rfl
          rw [this]; exact ev_neg h2 (ih (i + 1) (by omega))
  unfold impl_allWithin.f
  rw [bs_size]
  exact loop l.length 0 (by omega)
theorem has58 (l : Bytes) : Lib.contains l [58] = l.any (· == 58) := by
  unfold Lib.contains
  rcases idx_cases [58] (by decide) l with ⟨e, hf⟩ | ⟨p, r, rfl, e2, hf⟩
  · rw [e]
    have h := col_miss l hf
    have : ∀ l : Bytes, colB l = [] → l.any (· == 58) = false := by
      intro l
      induction l with
      | nil => intro _; rfl
      | cons c r ih =>
        intro h
        unfold colB at *
        by_cases hc : c = 58
        · subst hc; simp [List.dropWhile_cons] at h
        · simp only [List.dropWhile_cons, hc, ne_eq, not_false_eq_true, decide_true, if_true] at h
          simp only [List.any_cons, ih h, Bool.or_false]; simpa using hc
    rw [this l h]; rfl
  · rw [e2]; simp
theorem nameC_betw (c : UInt8) : nameC c = (betw 33 126 c && !(c == 58)) := by
  unfold nameC betw
  by_cases h : c = 58
  · subst h; rfl
  · rw [decide_eq_true h, show (c == 58) = false from by simpa using h]; rfl
theorem all_not (l : Bytes) : l.all nameC = (l.all (betw 33 126) && !(l.any (· == 58))) := by
  induction l with
  | nil => rfl
  | cons c r ih =>
    rw [List.all_cons, List.all_cons, List.any_cons, ih, nameC_betw]
    cases betw 33 126 c <;> cases (c == 58) <;> cases r.all (betw 33 126) <;> cases r.any (· == 58) <;> rfl
theorem hnameI_ev (l : Bytes) (hl : l.length ≤ 1048576) : Ev (fun k => impl_HeaderNameOK.f k (bs l)) (nameOk l) := by
  unfold impl_HeaderNameOK.f nameOk
  rw [bs_size]
  refine ev_bindc (within_f _ _ _) ?_
  cases h : inB (l.length : Int) 1 40 with
  | false =>
    have h2 := inB_false.mp h
    have : (decide (1 ≤ l.length) && decide (l.length ≤ 40)) = false := by
      by_cases q : 1 ≤ l.length
      · rw [decide_eq_false (by omega : ¬ l.length ≤ 40)]; simp
      · rw [decide_eq_false q]; simp
    rw [this]; exact ev_neg (by simp) (ev_some rfl)
  | true =>
    have h2 := inB_true.mp h
    rw [decide_eq_true (by omega : 1 ≤ l.length), decide_eq_true (by omega : l.length ≤ 40), all_not, ← has58]
    refine ev_pos rfl (Ev.bind (allW_ev l hl 33 126) ?_)
    cases h3 : l.all (betw 33 126) with
    | false => exact ev_neg (by simp) (ev_some rfl)
    | true =>
      refine ev_pos rfl (ev_bindc (a := Lib.contains l [58]) ?_ (ev_some (by simp)))
      unfold strings_Contains.f
      rw [bs_size, if_pos (by omega)]; rfl
/-! A field's value, both ways. -/
theorem safeS_l0 (l : Bytes) (hl : l.length ≤ 1048576) : ∀ (m i w : Nat), i + m = l.length → w ≤ 200 → Ev (fun k => spec_SafeValue.l0 k (bs l) (w : Int) i) (safeW w (l.drop i)) := by
  intro m
  induction m with
  | zero => intro i w hi hw; rw [List.drop_of_length_le (by omega)]; exact Ev.step (fun _ => spec_SafeValue.l0.eq_2 ..) (ev_neg (by rw [bs_size]; omega) (ev_some (by unfold safeW; rfl)))
  | succ m ih =>
    intro i w hi hw
    have hlt : i < l.length := by omega
    have hc := (l[i]).toNat_lt
    refine Ev.step (fun _ => spec_SafeValue.l0.eq_2 ..) (ev_pos (by rw [bs_size]; omega) (ev_pos (by omega) ?_))
    rw [bt_bs l i hlt, drop_cons l i hlt, safeW.eq_2, w64n (by omega), w64 (x := ((l[i]).toNat : Int)) (by omega) (by omega), w64 (x := (w : Int) + 1) (by omega) (by omega)]
    refine ev_bindc (l01In_f _ _ _) ?_
    have e32 : (l[i]).toNat = 32 ↔ l[i] = 32 := by rw [← UInt8.toNat_inj]; rfl
    cases h : inB ((l[i]).toNat : Int) 32 126 with
    | false =>
      have h2 := inB_false.mp h
      have : visB l[i] = false := by
        unfold visB
        by_cases q : 32 ≤ (l[i]).toNat
        · rw [decide_eq_false (by omega : ¬ (l[i]).toNat ≤ 126)]; simp
        · rw [decide_eq_false q]; simp
      rw [this]; exact ev_neg (by simp) (ev_some rfl)
    | true =>
      have h2 := inB_true.mp h
      have hv : visB l[i] = true := by unfold visB; rw [decide_eq_true (by omega : 32 ≤ (l[i]).toNat), decide_eq_true (by omega : (l[i]).toNat ≤ 126)]; rfl
      rw [hv, Bool.true_and]
      refine ev_pos rfl ?_
      by_cases q : (l[i]).toNat = 32
      · rw [if_pos (e32.mp q)]
        refine ev_pos (by omega) ?_
        by_cases hw0 : w = 0
        · rw [decide_eq_false (fun x => x hw0)]; exact ev_pos (by omega) (ev_some (by simp))
        · rw [decide_eq_true hw0]
          refine ev_neg (by omega) ?_
          by_cases hr : i + 1 = l.length
          · rw [List.drop_of_length_le (by omega)]
            exact ev_pos (by rw [bs_size]; omega) (ev_some (by simp))
          · rw [decide_eq_true (by intro x; have := congrArg List.length x; simp at this; omega)]
            exact ev_neg (by rw [bs_size]; omega) (ev_to (by simp) (ih (i + 1) 0 (by omega) (by omega)))
      · rw [if_neg (fun e => q (e32.mpr e))]
        refine ev_neg (by omega) ?_
        by_cases h3 : w + 1 ≤ 200
        · rw [decide_eq_true h3]
          exact ev_neg (by omega) (ev_to (by simp) (ih (i + 1) (w + 1) (by omega) h3))
        · rw [decide_eq_false h3]
          exact ev_pos (by omega) (ev_some (by simp))
theorem safeS_ev (l : Bytes) (hl : l.length ≤ 1048576) : Ev (fun k => spec_SafeValue.f k (bs l)) (safeB l) := by
  unfold spec_SafeValue.f safeB
  rw [bs_size]
  by_cases h0 : (l.length : Int) > 65536
  · rw [decide_eq_false (by omega : ¬ l.length ≤ 2000)]
    exact ev_pos h0 (ev_some (by simp))
  · refine ev_neg h0 ?_
    by_cases h1 : (l.length : Int) > 2000
    · rw [decide_eq_false (by omega : ¬ l.length ≤ 2000)]; exact ev_pos h1 (ev_some (by simp))
    · rw [decide_eq_true (by omega : l.length ≤ 2000), Bool.true_and]
      exact ev_neg h1 (safeS_l0 l hl l.length 0 0 (by omega) (by omega))
theorem splitB_bs (l sub : Bytes) : Lib.splitB (bs sub) 0 (Lib.countB (bs l) (bs sub)) (bs l) = (Lib.split l sub).map bs := by
  have h := Lib.splitB_data (bs sub) 0 (Lib.countB (bs l) (bs sub)) (bs l)
  have h2 := congrArg (List.map bs) h
  rw [List.map_map] at h2
  have e : (bs ∘ fun x : ByteArray => x.data.toList) = id := by funext x; exact bs_of x
  rw [e, List.map_id] at h2
  exact h2
theorem splitF (l sub : Bytes) (hl : l.length ≤ 1048576) (hs : 1 ≤ sub.length) : strings_Split.f (bs l) (bs sub) = some ((Lib.split l sub).map bs) := by
  unfold strings_Split.f
  rw [if_pos ⟨by rw [bs_size]; omega, by rw [bs_size]; exact hs⟩, splitB_bs]
theorem split_len (l sub : Bytes) (h1 : 1 ≤ sub.length) : (Lib.split l sub).length ≤ l.length + 1 := by
  have h := congrArg List.length (splitB_bs l sub)
  rw [List.length_map] at h
  rw [← h]
  refine Nat.le_trans (Lib.splitB_length_le _ _ _ _) ?_
  have := Lib.countB_le (bs sub) (by rw [bs_size]; exact h1) (bs l).size (bs l) (Nat.le_refl _)
  rw [bs_size] at this; omega
theorem rdB (P : List Bytes) (i : Nat) (h : i < P.length) : rdOf ByteArray.empty (P.map bs) (i : Int) = bs P[i] := by
  rw [rdOf_nat _ _ _ (by simpa using h)]; simp
theorem bs_nilq (l : Bytes) : (bs l).toList = ([] : List UInt8) ↔ l = [] := by rw [bs_toList]
def okWordB (w : Bytes) : Bool := decide (w ≠ []) && decide (w.length ≤ 200)
theorem safeI_l0 (P : List Bytes) (hP : P.length ≤ 1048577) : ∀ (m i : Nat), i + m = P.length → Ev (fun k => impl_SafeValue.l0 k (P.map bs) (P.length : Int) i) ((P.drop i).all okWordB) := by
  intro m
  induction m with
  | zero => intro i hi; rw [List.drop_of_length_le (by omega)]; exact Ev.step (fun _ => impl_SafeValue.l0.eq_2 ..) (ev_neg (by omega) (ev_some rfl))
  | succ m ih =>
    intro i hi
    have hlt : i < P.length := by omega
    refine Ev.step (fun _ => impl_SafeValue.l0.eq_2 ..) (ev_pos (by omega) (ev_pos (by omega) (ev_pos (by rw [List.length_map]; omega) ?_)))
    rw [rdB P i hlt, List.drop_eq_getElem_cons hlt, List.all_cons, w64n (by omega), bs_size]
    by_cases h1 : P[i] = []
    · have : okWordB P[i] = false := by unfold okWordB; rw [decide_eq_false (fun x => x h1)]; rfl
      rw [this]; exact ev_pos ((bs_nilq _).mpr h1) (ev_some rfl)
    · refine ev_neg (fun x => h1 ((bs_nilq _).mp x)) ?_
      by_cases h2 : (P[i]).length ≤ 200
      · have : okWordB P[i] = true := by unfold okWordB; rw [decide_eq_true h1, decide_eq_true h2]; rfl
        rw [this]; exact ev_neg (by omega) (ih (i + 1) (by omega))
      · have : okWordB P[i] = false := by unfold okWordB; rw [decide_eq_false h2]; simp
        rw [this]; exact ev_pos (by omega) (ev_some rfl)
theorem okWords (P : List Bytes) : P.all okWordB = true ↔ ∀ w ∈ P, okWord w := by
  simp [List.all_eq_true, okWordB, okWord]
theorem betw_vis : betw 32 126 = visB := by funext c; rfl
theorem safeI_ev (l : Bytes) (hl : l.length ≤ 1048576) : Ev (fun k => impl_SafeValue.f k (bs l)) (safeB l) := by
  unfold impl_SafeValue.f safeB
  rw [bs_size]
  have bad : Ev (fun k => impl_SafeValue.j0 k (bs l) true) false := Ev.step (fun _ => impl_SafeValue.j0.eq_2 ..) (ev_pos rfl (ev_some rfl))
  by_cases h1 : (l.length : Int) > 2000
  · rw [decide_eq_false (by omega : ¬ l.length ≤ 2000)]; exact ev_pos h1 (ev_to (by simp) bad)
  · rw [decide_eq_true (by omega : l.length ≤ 2000), Bool.true_and]
    refine ev_neg h1 (Ev.bind (allW_ev l hl 32 126) ?_)
    have hs := safeW_split l.length l (Nat.le_refl _)
    rw [betw_vis]
    cases h2 : l.all visB with
    | false =>
      rw [h2] at hs
      have : safeW 0 l = false := by
        cases h : safeW 0 l with
        | false => rfl
        | true => have := hs.mp h; cases this.1
      rw [this]; exact bad
    | true =>
      rw [h2] at hs
      refine Ev.step (fun _ => impl_SafeValue.j0.eq_2 ..) (ev_neg (by simp) ?_)
      by_cases h3 : l = []
      · subst h3
        exact ev_pos ((bs_nilq []).mpr rfl) (ev_some (by unfold safeW; rfl))
      · refine ev_neg (fun x => h3 ((bs_nilq _).mp x)) (ev_bindc (splitF l [32] hl (by decide)) ?_)
        have hlen := split_len l [32] (by decide)
        rw [List.length_map]
        refine ev_to ?_ (safeI_l0 (Lib.split l [32]) (by omega) (Lib.split l [32]).length 0 (by omega))
        rw [List.drop_zero, Bool.eq_iff_iff, okWords, hs]
        simp [h3]
end Go.Proofs.YtifkmkiljpeaaabDoor.PFnExactOverLine
