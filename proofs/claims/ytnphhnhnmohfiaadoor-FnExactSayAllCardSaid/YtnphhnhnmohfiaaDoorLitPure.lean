/- What a line says that follows it: plain. -/
import Derived.Test.YtnphhnhnmohfiaaDoorNumPure
set_option linter.unusedVariables false
set_option linter.unusedSimpArgs false
namespace Go.Proofs.YtnphhnhnmohfiaaDoor
open Go.RowKit

theorem valF_mono : ∀ (d : Bytes) (v : Int), d.all isD = true → 0 ≤ v → v ≤ valF v d
  | [], v, _, hv => by simp [valF]
  | c :: d, v, h, hv => by
    simp only [List.all_cons, Bool.and_eq_true, isD_iff] at h
    have := valF_mono d (v * 10 + ((c.toNat : Int) - 48)) h.2 (by omega)
    rw [valF_cons]; omega
/-- A number that is none below zero has digits alone. -/
theorem numR_digits {l : Bytes} {n : Int} (h : numR l = (n, true)) (hn : 0 ≤ n) : l.all isD = true := by
  unfold numR at h
  split at h
  case isFalse => cases h
  case isTrue hok =>
  cases h
  simp only [numOk, Bool.and_eq_true, Bool.not_eq_true', decide_eq_true_eq] at hok
  obtain ⟨⟨⟨h1, h2⟩, h3⟩, h4⟩ := hok
  cases hN : numNeg l with
  | false => simpa [numDig, hN] using h4
  | true =>
    exfalso
    have hv : numVal l = -valF 0 (numDig l) := by rw [numVal, if_pos hN]
    rw [hv] at hn
    generalize numDig l = d at *
    cases d with
    | nil => simp at h1
    | cons c r =>
      simp only [List.all_cons, Bool.and_eq_true, isD_iff] at h4
      have hc : c.toNat ≠ 48 := by
        intro e
        have : c = 48 := by apply UInt8.toNat_inj.mp; simpa using e
        subst this
        simp [hN] at h3
      have := valF_mono r (0 * 10 + ((c.toNat : Int) - 48)) h4.2 (by omega)
      rw [valF_cons] at hn
      omega
theorem numR_nonneg {l : Bytes} (h : l.all isD = true) {n : Int} (hr : numR l = (n, true)) : 0 ≤ n ∧ n < 1000000000000000000 := by
  unfold numR at hr
  split at hr
  case isFalse => cases hr
  case isTrue hok =>
  cases hr
  simp only [numOk, Bool.and_eq_true, Bool.not_eq_true', decide_eq_true_eq] at hok
  have hN : numNeg l = false := by
    cases l with
    | nil => rfl
    | cons c r =>
      simp only [List.all_cons, Bool.and_eq_true, isD_iff] at h
      simp only [numNeg, List.head?_cons, beq_eq_false_iff_ne, ne_eq, Option.some.injEq]
      rintro rfl
      simp at h
  have e : numDig l = l := by rw [numDig, hN]; rfl
  rw [e] at hok
  rw [numVal, hN, e]
  exact valF_small h hok.1.1.2
/-- Back over digits, up to the sign that begins. -/
def litR (D : Bytes) : Bytes → Int × Bool
  | [] => (0, false)
  | c :: r => if isD c then litR (D ++ [c]) r else if c = 123 ∧ D.length ≤ 6 then numR D.reverse else (0, false)
theorem litR_hit : ∀ (E D p : Bytes), E.all isD = true → litR D (E ++ 123 :: p) = if (D ++ E).length ≤ 6 then numR (D ++ E).reverse else (0, false)
  | [], D, p, _ => by
    have h : isD 123 = false := rfl
    simp only [List.nil_append, litR, h, List.append_nil]
    simp
  | c :: E, D, p, h => by
    simp only [List.all_cons, Bool.and_eq_true] at h
    rw [List.cons_append, litR, if_pos h.1, litR_hit E _ p h.2]
    simp
theorem litR_true : ∀ (x D : Bytes) (n : Int), litR D x = (n, true) → ∃ E p, x = E ++ 123 :: p ∧ E.all isD = true ∧ (D ++ E).length ≤ 6 ∧ numR (D ++ E).reverse = (n, true)
  | [], D, n, h => by simp [litR] at h
  | c :: r, D, n, h => by
    rw [litR] at h
    split at h
    case isTrue hc =>
      obtain ⟨E, p, rfl, h1, h2, h3⟩ := litR_true r _ n h
      exact ⟨c :: E, p, rfl, by simp [hc, h1], by simpa using h2, by simpa using h3⟩
    case isFalse hc =>
      split at h
      case isTrue h2 => obtain ⟨rfl, h2⟩ := h2; exact ⟨[], r, rfl, rfl, by simpa using h2, by simpa using h⟩
      case isFalse => cases h
/-- What a line says that follows it. -/
def litS (l : Bytes) : Int × Bool := if 3 ≤ l.length ∧ l.getLast? = some 125 then litR [] (l.take (l.length - 1)).reverse else (0, false)
theorem litS_true {l : Bytes} {n : Int} (h : litS l = (n, true)) : ∃ p ds, l = p ++ 123 :: (ds ++ [125]) ∧ ds.all isD = true ∧ ds.length ≤ 6 ∧ numR ds = (n, true) := by
  unfold litS at h
  split at h
  case isFalse => cases h
  case isTrue hc =>
  obtain ⟨E, p, hx, h1, h2, h3⟩ := litR_true _ _ n h
  have hl : l.take (l.length - 1) = p.reverse ++ 123 :: E.reverse := by
    have := congrArg List.reverse hx
    simpa using this
  refine ⟨p.reverse, E.reverse, ?_, by simpa using h1, by simpa using h2, by simpa using h3⟩
  have hl2 : l = l.take (l.length - 1) ++ [125] := by
    have := List.dropLast_concat_getLast (l := l) (by rintro rfl; simp at hc)
    rw [← List.dropLast_eq_take]
    rw [List.getLast?_eq_some_getLast (by rintro rfl; simp at hc)] at hc
    rw [← Option.some.inj hc.2]
    exact this.symm
  rw [hl] at hl2
  rw [hl2]; simp
theorem litS_of {p ds : Bytes} (h : ds.all isD = true) (hl : ds.length ≤ 6) : litS (p ++ 123 :: (ds ++ [125])) = numR ds := by
  have e0 : p ++ 123 :: (ds ++ [125]) = (p ++ 123 :: ds) ++ [125] := by simp
  have e : ((p ++ 123 :: ds) ++ [125]).take (((p ++ 123 :: ds) ++ [125]).length - 1) = p ++ 123 :: ds := by
    rw [List.length_append, List.length_cons, List.length_nil, Nat.add_sub_cancel, List.take_left]
  rw [e0]
  unfold litS
  rw [e, List.getLast?_concat]
  by_cases h3 : 3 ≤ ((p ++ 123 :: ds) ++ [125]).length
  · rw [if_pos ⟨h3, rfl⟩]
    simp only [List.reverse_append, List.reverse_cons, List.append_assoc, List.cons_append, List.nil_append]
    have := litR_hit ds.reverse [] p.reverse (by simpa using h)
    simp only [List.nil_append] at this
    rw [this, if_pos (by simpa using hl), List.reverse_reverse]
  · rw [if_neg (fun h => h3 h.1)]
    have h0 : ds = [] := by
      apply List.eq_nil_of_length_eq_zero
      simp at h3; omega
    subst h0
    rfl
theorem litS_bound {l : Bytes} {n : Int} (h : litS l = (n, true)) : 0 ≤ n ∧ n < 1000000000000000000 := by
  obtain ⟨p, ds, rfl, h1, h2, h3⟩ := litS_true h
  exact numR_nonneg h1 h3
end Go.Proofs.YtnphhnhnmohfiaaDoor
