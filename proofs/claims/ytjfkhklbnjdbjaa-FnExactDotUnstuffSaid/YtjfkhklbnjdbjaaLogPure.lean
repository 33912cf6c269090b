/- A log's records, plainly: how they are framed, how they are read, what a cut leaves. No program in sight. -/
import Derived.Test.YtjfkhklbnjdbjaaBytesOf
import Derived.Test.YtjfkhklbnjdbjaaCrc
set_option linter.unusedVariables false
set_option linter.unusedSimpArgs false
set_option maxHeartbeats 8000000
namespace Go.Proofs.Ytjfkhklbnjdbjaa
open Go.RowKit

/-- A record's bytes: how long it is, the sum, it. -/
def frameL (r : Bytes) : Bytes := beL r.length 3 ++ beL (check32 (beL r.length 3 ++ r)) 4 ++ r
theorem frameL_length (r : Bytes) : (frameL r).length = 7 + r.length := by simp [frameL, beL_length]; omega
theorem frameL_take (r : Bytes) (rest : Bytes) : (frameL r ++ rest).take 3 = beL r.length 3 := by
  simp only [frameL, List.append_assoc]
  rw [List.take_append_of_le_length (by simp [beL_length]), List.take_of_length_le (by simp [beL_length])]
theorem frameL_drop (r : Bytes) (rest : Bytes) : ((frameL r ++ rest).drop 7).take r.length = r := by
  have e : (frameL r ++ rest).drop 7 = r ++ rest := by
    simp only [frameL]
    rw [List.append_assoc, List.drop_append_of_le_length (by simp [beL_length])]
    have : (beL r.length 3 ++ beL (check32 (beL r.length 3 ++ r)) 4).length = 7 := by simp [beL_length]
    rw [List.drop_of_length_le (by omega), List.nil_append]
  rw [e, List.take_append_of_le_length (Nat.le_refl _), List.take_length]

/-- One record at the front: the record, or the code. -/
def recAt (t : Bytes) : Int ⊕ Bytes :=
  if t.length < 7 then .inl 18
  else if inB (numL (t.take 3)) 1 20000 = false then .inl 8
  else if t.length < 7 + numL (t.take 3) then .inl 18
  else if (frameL ((t.drop 7).take (numL (t.take 3)))).isPrefixOf t then .inr ((t.drop 7).take (numL (t.take 3)))
  else .inl 8
/-- The records from the front on, how many bytes these are, and what is behind. -/
def recsN : Nat → Bytes → List Bytes × Nat × Int
  | 0, _ => ([], 0, 0)
  | k + 1, t => if t = [] then ([], 0, 0) else match recAt t with
    | .inl c => ([], 0, c)
    | .inr r => let x := recsN k (t.drop (7 + r.length)); (r :: x.1, 7 + r.length + x.2.1, x.2.2)
def recs (t : Bytes) : List Bytes × Nat × Int := recsN (t.length + 1) t

theorem recAt_len {t r : Bytes} (h : recAt t = .inr r) : 1 ≤ r.length ∧ r.length ≤ 20000 ∧ 7 + r.length ≤ t.length := by
  unfold recAt at h
  split at h; · cases h
  split at h; · cases h
  split at h; · cases h
  split at h
  · cases h
    rename_i h1 h2 h3 _
    rw [Bool.not_eq_false, inB_iff] at h2
    simp only [List.length_take, List.length_drop]
    omega
  · cases h
theorem recsN_enough (k : Nat) : ∀ (j : Nat) (t : Bytes), t.length < k → t.length < j → recsN k t = recsN j t := by
  induction k with
  | zero => intro j t h; omega
  | succ k ih =>
    intro j t hk hj
    obtain ⟨j, rfl⟩ : ∃ i, j = i + 1 := ⟨j - 1, by omega⟩
    simp only [recsN]
    by_cases ht : t = []
    · simp [ht]
    · rw [if_neg ht, if_neg ht]
      cases hr : recAt t with
      | inl c => rfl
      | inr r =>
        have := recAt_len hr
        have e := ih j (t.drop (7 + r.length)) (by simp; omega) (by simp; omega)
        simp only [e]
theorem recs_nil : recs [] = ([], 0, 0) := rfl
theorem recs_stop {t : Bytes} {c : Int} (ht : t ≠ []) (h : recAt t = .inl c) : recs t = ([], 0, c) := by
  simp only [recs, recsN, if_neg ht, h]
theorem recs_next {t r : Bytes} (ht : t ≠ []) (h : recAt t = .inr r) : recs t = (r :: (recs (t.drop (7 + r.length))).1, 7 + r.length + (recs (t.drop (7 + r.length))).2.1, (recs (t.drop (7 + r.length))).2.2) := by
  have := recAt_len h
  have e : recsN t.length (t.drop (7 + r.length)) = recs (t.drop (7 + r.length)) := recsN_enough _ _ _ (by simp; omega) (by simp)
  have e2 : recs t = (match recAt t with | .inl c => ([], 0, c) | .inr r => (r :: (recsN t.length (t.drop (7 + r.length))).1, 7 + r.length + (recsN t.length (t.drop (7 + r.length))).2.1, (recsN t.length (t.drop (7 + r.length))).2.2)) := by
    show recsN (t.length + 1) t = _
    rw [recsN, if_neg ht]
  rw [e2, h]
  simp only [e]

/-- A right record: 1 to 20000 bytes. -/
def RecOK (r : Bytes) : Prop := 1 ≤ r.length ∧ r.length ≤ 20000
theorem recAt_frame {r : Bytes} (h : RecOK r) (rest : Bytes) : recAt (frameL r ++ rest) = .inr r := by
  obtain ⟨h1, h2⟩ := h
  have hn : numL ((frameL r ++ rest).take 3) = r.length := by rw [frameL_take, numL_be]; omega
  have hl : (frameL r ++ rest).length = 7 + r.length + rest.length := by simp [frameL_length]
  have hp : (frameL r).isPrefixOf (frameL r ++ rest) = true := by simp
  unfold recAt
  rw [hn, if_neg (by omega), if_neg (by rw [Bool.not_eq_false, inB_iff]; omega), if_neg (by omega), frameL_drop, if_pos hp]
/-- The frames of records, one behind the other. -/
def frames : List Bytes → Bytes | [] => [] | r :: l => frameL r ++ frames l
theorem frameL_ne (r : Bytes) : frameL r ≠ [] := fun e => by have := congrArg List.length e; simp [frameL_length] at this
theorem recs_frames (l : List Bytes) (h : ∀ r ∈ l, RecOK r) : recs (frames l) = (l, (frames l).length, 0) := by
  induction l with
  | nil => rfl
  | cons r l ih =>
    have ih := ih (fun x hx => h x (List.mem_cons_of_mem _ hx))
    have e : (frames (r :: l)).drop (7 + r.length) = frames l := by
      rw [frames, ← frameL_length, List.drop_append_of_le_length (Nat.le_refl _)]; simp
    rw [recs_next (t := frames (r :: l)) (by simp [frames, frameL_ne]) (recAt_frame (h r (List.mem_cons_self ..)) _), e, ih]
    simp [frames, frameL_length]
theorem frames_append (a b : List Bytes) : frames (a ++ b) = frames a ++ frames b := by
  induction a with
  | nil => rfl
  | cons r a ih => simp [frames, ih]

/-- What is left of frames that were cut: a beginning of the records, whole, and a code that a repair lets pass. -/
theorem recs_cut (l : List Bytes) (h : ∀ r ∈ l, RecOK r) : ∀ k, ∃ j, j ≤ l.length ∧ recs ((frames l).take k) = (l.take j, (frames (l.take j)).length, if (frames (l.take j)).length = min k (frames l).length then 0 else 18) ∧ (frames (l.take j)).length ≤ k ∧ (j < l.length → k < (frames (l.take (j + 1))).length) := by
  induction l with
  | nil => intro k; exact ⟨0, Nat.le_refl _, by simp [frames, recs_nil], by simp [frames], by simp⟩
  | cons r l ih =>
    intro k
    have hr := h r (List.mem_cons_self ..)
    by_cases hk : k < (frameL r).length
    · refine ⟨0, by omega, ?_, by simp [frames], fun _ => by simpa [frames] using hk⟩
      have e : (frames (r :: l)).take k = (frameL r).take k := by rw [frames, List.take_append_of_le_length (by omega)]
      rw [e]
      by_cases h0 : k = 0
      · subst h0; simp [frames, recs_nil]
      · have hlen : ((frameL r).take k).length = k := by simp; omega
        have hne : (frameL r).take k ≠ [] := fun e => by rw [e] at hlen; simp at hlen; omega
        have hc : recAt ((frameL r).take k) = .inl 18 := by
          unfold recAt
          by_cases h7 : k < 7
          · rw [if_pos (by omega)]
          · have e3 : ((frameL r).take k).take 3 = beL r.length 3 := by
              rw [List.take_take, Nat.min_eq_left (by omega)]
              have := frameL_take r []
              simpa using this
            have hn : numL (((frameL r).take k).take 3) = r.length := by rw [e3, numL_be]; obtain ⟨h1, h2⟩ := hr; omega
            rw [frameL_length] at hk
            obtain ⟨h1, h2⟩ := hr
            rw [if_neg (by omega), hn, if_neg (by rw [Bool.not_eq_false, inB_iff]; omega), if_pos (by omega)]
        rw [recs_stop hne hc]
        have : (frames (r :: l)).length = (frameL r).length + (frames l).length := by simp [frames]
        simp [frames]
        omega
    · obtain ⟨j, hj, he, hle, hnx⟩ := ih (fun x hx => h x (List.mem_cons_of_mem _ hx)) (k - (frameL r).length)
      have hle' : (frameL r).length ≤ k := by omega
      have e : (frames (r :: l)).take k = frameL r ++ (frames l).take (k - (frameL r).length) := by
        rw [frames, List.take_append, List.take_of_length_le hle']
      have ed : (frameL r ++ (frames l).take (k - (frameL r).length)).drop (7 + r.length) = (frames l).take (k - (frameL r).length) := by
        rw [← frameL_length, List.drop_append_of_le_length (Nat.le_refl _)]; simp
      refine ⟨j + 1, by simp; omega, ?_, by simp [frames]; omega, fun hlt => by have := hnx (by simpa using hlt); simp [frames] at this ⊢; omega⟩
      rw [e, recs_next (by simp [frameL_ne]) (recAt_frame hr _), ed, he]
      have hfl : (frames (r :: l)).length = (frameL r).length + (frames l).length := by simp [frames]
      simp only [List.take_succ_cons, frames, List.length_append, frameL_length, Prod.mk.injEq, true_and]
      rw [frameL_length] at hle'
      split <;> split <;> first | rfl | omega

end Go.Proofs.Ytjfkhklbnjdbjaa
