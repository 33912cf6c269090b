/- A block of lines is read back, and no beginning of it is. No program in sight. -/
import Derived.Test.YtjfkhklbnjdbjaaDoorStuffPure
set_option linter.unusedVariables false
set_option linter.unusedSimpArgs false
namespace Go.Proofs.YtjfkhklbnjdbjaaDoor
open Go.RowKit

/-- Does a line begin at the end of t? -/
def finS : Bool → Bool → Bytes → Bool
  | s, _, [] => s
  | _, p, c :: r => finS (c == 10 && p) (c == 13) r
theorem finS_crlf (t : Bytes) : ∀ s p, finS s p (t ++ [13, 10]) = true := by
  induction t with
  | nil => intro s p; simp [finS]
  | cons c r ih => intro s p; rw [List.cons_append, finS]; exact ih _ _
theorem finS_lines {t : Bytes} (h : linesL t = true) : finS true false t = true := by
  unfold linesL at h
  rcases Bool.or_eq_true_iff.1 h with h | h
  · rw [List.isEmpty_iff.1 h]; rfl
  · obtain ⟨u, rfl⟩ := List.isSuffixOf_iff_suffix.1 h
    exact finS_crlf u _ _

theorem uns_back (t : Bytes) : ∀ s p o, finS s p t = true → unsS s p (stuffS s p t ++ [46, 13, 10]) o = (o ++ t, 0) := by
  induction t with
  | nil =>
    intro s p o h
    obtain rfl : s = true := h
    rw [stuffS, List.nil_append, unsS_cons]
    simp
  | cons c r ih =>
    intro s p o h
    rw [finS] at h
    rw [stuffS]
    by_cases hs : (s && c == 46) = true
    · obtain ⟨rfl, hc⟩ := Bool.and_eq_true_iff.1 hs
      obtain rfl : c = 46 := by simpa using hc
      have h2 := ih false false (o ++ [46]) (by simpa using h)
      rw [if_pos (by simp)]
      simp only [List.cons_append, List.nil_append]
      rw [unsS_cons, if_pos (by simp), if_neg (by simp)]
      simp only [BEq.rfl, if_true]
      have e1 : ((46 : UInt8) == 10 && p) = false := by simp
      have e2 : ((46 : UInt8) == 13) = false := by decide
      rw [e1, e2, h2]
      simp
    · have hs' : (s && c == 46) = false := by simpa using hs
      rw [if_neg (by simp [hs'])]
      simp only [List.cons_append, List.nil_append]
      rw [unsS_go _ _ _ _ _ hs', ih _ _ _ h]
      simp

theorem uns_cut (t : Bytes) : ∀ s p o k, k < (stuffS s p t ++ [46, 13, 10]).length → (unsS s p ((stuffS s p t ++ [46, 13, 10]).take k) o).2 ≠ 0 := by
  induction t with
  | nil =>
    intro s p o k hk
    rw [stuffS, List.nil_append] at hk ⊢
    match k, hk with
    | 0, _ => rw [List.take_zero, unsS_nil]; decide
    | 1, _ => cases s <;> simp [unsS_cons, unsS_nil]
    | 2, _ => cases s <;> simp [unsS_cons, unsS_nil]
    | k + 3, hk => exact absurd (show k + 3 < 3 from hk) (by omega)
  | cons c r ih =>
    intro s p o k hk
    rw [stuffS] at hk ⊢
    match k with
    | 0 => rw [List.take_zero, unsS_nil]; decide
    | k + 1 =>
      by_cases hs : (s && c == 46) = true
      · obtain ⟨rfl, hc⟩ := Bool.and_eq_true_iff.1 hs
        obtain rfl : c = 46 := by simpa using hc
        have e1 : ((46 : UInt8) == 10 && p) = false := by simp
        have e2 : ((46 : UInt8) == 13) = false := by decide
        rw [if_pos (by simp)] at hk ⊢
        rw [e1, e2] at hk ⊢
        simp only [List.cons_append, List.nil_append, List.take_succ_cons] at hk ⊢
        match k with
        | 0 => simp [unsS_cons]
        | k + 1 =>
          simp only [List.take_succ_cons]
          rw [unsS_cons, if_pos (by simp), if_neg (by simp)]
          simp only [BEq.rfl, if_true]
          exact ih _ _ _ _ (by simp at hk ⊢; omega)
      · have hs' : (s && c == 46) = false := by simpa using hs
        rw [if_neg (by simp [hs'])] at hk ⊢
        simp only [List.cons_append, List.nil_append, List.take_succ_cons] at hk ⊢
        rw [unsS_go _ _ _ _ _ hs']
        exact ih _ _ _ _ (by simp at hk ⊢; omega)
end Go.Proofs.YtjfkhklbnjdbjaaDoor
