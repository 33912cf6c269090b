/- Numbers' texts: plain. -/
import Derived.Test.YtifkmkiljpeaaabDoorEv
import Derived.Lib.AtoiAll
set_option linter.unusedVariables false
set_option linter.unusedSimpArgs false
namespace Go.Proofs.YtifkmkiljpeaaabDoor
open Go.RowKit

def isD (c : UInt8) : Bool := 48 ≤ c.toNat && c.toNat ≤ 57
theorem isD_iff {c : UInt8} : isD c = true ↔ 48 ≤ c.toNat ∧ c.toNat ≤ 57 := by simp [isD]
theorem isD_not {c : UInt8} : isD c = false ↔ c.toNat < 48 ∨ 57 < c.toNat := by rw [← Bool.not_eq_true, isD_iff]; omega
/-- The number that digits go on to. -/
def valF (v : Int) (d : Bytes) : Int := d.foldl (fun n c => n * 10 + ((c.toNat : Int) - 48)) v
theorem valF_cons (v : Int) (c : UInt8) (d : Bytes) : valF v (c :: d) = valF (v * 10 + ((c.toNat : Int) - 48)) d := rfl
theorem valF_bound : ∀ (d : Bytes) (v : Int), d.all isD = true → 0 ≤ v → 0 ≤ valF v d ∧ valF v d < (v + 1) * 10 ^ d.length
  | [], v, _, hv => by simp [valF]; omega
  | c :: d, v, h, hv => by
    simp only [List.all_cons, Bool.and_eq_true, isD_iff] at h
    have ih := valF_bound d (v * 10 + ((c.toNat : Int) - 48)) h.2 (by omega)
    rw [valF_cons]
    refine ⟨ih.1, ?_⟩
    have h2 : (v * 10 + ((c.toNat : Int) - 48) + 1) * 10 ^ d.length ≤ ((v + 1) * 10) * 10 ^ d.length := Int.mul_le_mul_of_nonneg_right (by omega) (Int.pow_nonneg (by omega))
    have h3 : (v + 1) * 10 ^ (c :: d).length = ((v + 1) * 10) * 10 ^ d.length := by rw [List.length_cons, Int.pow_succ, Int.mul_assoc, Int.mul_comm 10]
    rw [h3]; omega
theorem valF_small {d : Bytes} (h : d.all isD = true) (hl : d.length ≤ 18) : 0 ≤ valF 0 d ∧ valF 0 d < 1000000000000000000 := by
  have h1 := valF_bound d 0 h (by omega)
  have h2 : (10 : Nat) ^ d.length ≤ 1000000000000000000 := Nat.le_trans (Nat.pow_le_pow_right (n := 10) (by omega) hl) (Nat.le_of_eq (by simp))
  have h3 : (10 : Int) ^ d.length = ((10 ^ d.length : Nat) : Int) := by simp
  rw [h3] at h1
  refine ⟨h1.1, ?_⟩
  omega
theorem pow_le18 {i : Nat} (h : i ≤ 18) : (10 : Nat) ^ i ≤ 1000000000000000000 := Nat.le_trans (Nat.pow_le_pow_right (n := 10) (by omega) h) (Nat.le_of_eq (by simp))
theorem pow_le17 {i : Nat} (h : i ≤ 17) : (10 : Nat) ^ i ≤ 100000000000000000 := Nat.le_trans (Nat.pow_le_pow_right (n := 10) (by omega) h) (Nat.le_of_eq (by simp))
/-- A number's text: its sign, its digits, its number. -/
def numNeg (l : Bytes) : Bool := l.head? == some 45
def numDig (l : Bytes) : Bytes := if numNeg l then l.tail else l
def numOk (l : Bytes) : Bool := !(numDig l).isEmpty && decide ((numDig l).length ≤ 18) && !((numDig l).head? == some 48 && (decide (1 < (numDig l).length) || numNeg l)) && (numDig l).all isD
def numVal (l : Bytes) : Int := if numNeg l then -valF 0 (numDig l) else valF 0 (numDig l)
def numR (l : Bytes) : Int × Bool := if numOk l then (numVal l, true) else (0, false)

theorem parseUint_valF : ∀ (d : Bytes) (v : Nat), d.all isD = true → (v + 1) * 10 ^ d.length ≤ 1000000000000000000 → Lib.parseUint10 v d = .ok (valF v d).toNat
  | [], v, _, _ => by simp [Lib.parseUint10, valF]
  | c :: d, v, h, hv => by
    simp only [List.all_cons, Bool.and_eq_true, isD_iff] at h
    rw [List.length_cons, Nat.pow_succ, Nat.mul_comm (10 ^ d.length) 10, ← Nat.mul_assoc] at hv
    have h1 : (v + 1) * 10 ≤ 1000000000000000000 := Nat.le_trans (Nat.le_mul_of_pos_right _ (Nat.pow_pos (by omega))) hv
    have h2 : (v * 10 + (c.toNat - 48) + 1) * 10 ^ d.length ≤ (v + 1) * 10 * 10 ^ d.length := Nat.mul_le_mul_right _ (by omega)
    rw [Lib.parseUint10, if_pos h.1, if_neg (by omega), if_neg (by omega), parseUint_valF d _ h.2 (Nat.le_trans h2 hv), valF_cons]
    congr 3
    omega
theorem parseMag_valF {d : Bytes} (h : d.all isD = true) (h0 : d ≠ []) (hl : d.length ≤ 18) : Lib.parseMag d = .ok (valF 0 d).toNat := by
  rw [Lib.parseMag, if_neg h0, parseUint_valF d 0 h]
  · rfl
  · rw [Nat.zero_add, Nat.one_mul]
    exact Nat.le_trans (Nat.pow_le_pow_right (n := 10) (by omega) hl) (Nat.le_of_eq (by simp))
/-- strconv.Atoi at a number's text. -/
theorem atoi_num {l : Bytes} (h0 : numDig l ≠ []) (hl : (numDig l).length ≤ 18) (hd : (numDig l).all isD = true) : Lib.atoiAll l = .ok (numVal l) := by
  have hv := valF_small hd hl
  cases l with
  | nil => exact absurd (by simp [numDig, numNeg]) h0
  | cons c r =>
    by_cases hn : c = 45
    · subst hn
      have e1 : numNeg (45 :: r) = true := by simp [numNeg]
      have e2 : numDig (45 :: r) = r := by rw [numDig, if_pos e1]; rfl
      rw [e2] at h0 hl hd hv
      have hm := parseMag_valF hd h0 hl
      rw [Lib.atoiAll, if_pos (by simp), hm]
      simp only [numVal, e1, e2, if_true]
      rw [if_neg (by simp), if_neg (by simp; omega), if_pos (by simp)]
      congr 2
      omega
    · have e1 : numNeg (c :: r) = false := by simp [numNeg, hn]
      have e2 : numDig (c :: r) = c :: r := by rw [numDig, if_neg (by simp [e1])]
      rw [e2] at h0 hl hd hv
      have hm := parseMag_valF hd h0 hl
      have hc : 48 ≤ c.toNat ∧ c.toNat ≤ 57 := by simp only [List.all_cons, Bool.and_eq_true, isD_iff] at hd; exact hd.1
      rw [Lib.atoiAll, if_neg (by omega), hm]
      simp only [numVal, e1, e2]
      rw [if_neg (by omega), if_neg (by omega), if_neg (by omega)]
      simp; omega
end Go.Proofs.YtifkmkiljpeaaabDoor
