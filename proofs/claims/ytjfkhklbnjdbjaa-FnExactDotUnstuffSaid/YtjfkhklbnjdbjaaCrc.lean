/- The sum of bytes: the program's and the reference's are one. -/
import Derived.Test.YtjfkhklbnjdbjaaRows
import Derived.Test.YtjfkhklbnjdbjaaPure
import Derived.Outline
set_option linter.unusedVariables false
set_option linter.unusedSimpArgs false
set_option maxHeartbeats 8000000
set_option maxRecDepth 100000
namespace Go.Proofs.Ytjfkhklbnjdbjaa
open Go.RowKit

theorem bits_xor_nat (k : IntKind) (j : Nat) (hj : j ≤ k.bits) (hk : ∀ n : Int, 0 ≤ n → n < 2 ^ j → k.wrap n = n) (a b : Nat) (ha : a < 2 ^ j) (hb : b < 2 ^ j) : bits .xor k a b = ((a ^^^ b : Nat) : Int) := by
  have hp : 2 ^ j ≤ 2 ^ k.bits := Nat.pow_le_pow_right (by decide) hj
  have ha' : a % 2 ^ k.bits = a := Nat.mod_eq_of_lt (Nat.lt_of_lt_of_le ha hp)
  have hb' : b % 2 ^ k.bits = b := Nat.mod_eq_of_lt (Nat.lt_of_lt_of_le hb hp)
  simp only [bits, BitVec.ofInt_natCast, BitVec.toNat_xor, BitVec.toNat_ofNat, ha', hb']
  exact hk _ (Int.natCast_nonneg _) (by exact_mod_cast Nat.xor_lt_two_pow ha hb)
theorem wraps_u32 (n : Int) (h₀ : 0 ≤ n) (h₁ : n < 2 ^ 32) : IntKind.u32.wrap n = n := by rw [IntKind.wrap_u32]; omega
theorem wraps_i64 (n : Int) (h₀ : 0 ≤ n) (h₁ : n < 2 ^ 63) : IntKind.i64.wrap n = n := by rw [IntKind.wrap_i64]; omega
theorem xor_u32 (a b : Nat) (ha : a < 4294967296) (hb : b < 4294967296) : bits .xor .u32 a b = ((a ^^^ b : Nat) : Int) := bits_xor_nat .u32 32 (by decide) wraps_u32 a b ha hb
theorem xor_i64 (a b : Nat) (ha : a < 4294967296) (hb : b < 4294967296) : bits .xor .i64 a b = ((a ^^^ b : Nat) : Int) := bits_xor_nat .i64 63 (by decide) wraps_i64 a b (by omega) (by omega)
theorem and1_u32 (a : Nat) (ha : a < 4294967296) : bits .and .u32 (a : Int) 1 = (a : Int) % 2 := bits_mask .u32 32 (by decide) wraps_u32 1 (by decide) a (by omega) (by omega)

theorem xor_i64_p {x : Nat} (h : x < 8589934592) : bits .xor .i64 ((x : Int) / 2) 3988292384 = ((x / 2 ^^^ 3988292384 : Nat) : Int) := by
  have e : (3988292384 : Int) = ((3988292384 : Nat) : Int) := by omega
  have e2 : ((x : Int) / 2) = ((x / 2 : Nat) : Int) := by omega
  rw [e, e2]; exact xor_i64 (x / 2) _ (by omega) (by omega)
theorem xor_i64_f {x : Nat} (h : x < 4294967296) : bits .xor .i64 (x : Int) 4294967295 = ((x ^^^ 4294967295 : Nat) : Int) := by
  have e : (4294967295 : Int) = ((4294967295 : Nat) : Int) := by omega
  rw [e]; exact xor_i64 x _ h (by omega)

/-- One of the eight halvings. -/
def crcStep (n : Nat) : Nat := if n % 2 = 1 then (n / 2) ^^^ 3988292384 else n / 2
def crcIter : Nat → Nat → Nat | 0, n => n | k + 1, n => crcIter k (crcStep n)
def crcFold (n : Nat) (l : Bytes) : Nat := l.foldl (fun n c => crcIter 8 (n ^^^ c.toNat)) n
/-- The sum of bytes. -/
def crcN (l : Bytes) : Nat := crcFold 4294967295 l ^^^ 4294967295

theorem xor_lt32 {a b : Nat} (ha : a < 4294967296) (hb : b < 4294967296) : a ^^^ b < 4294967296 := by
  have e : (4294967296 : Nat) = 2 ^ 32 := by decide
  rw [e] at ha hb ⊢
  exact Nat.xor_lt_two_pow ha hb
theorem crcStep_lt {n : Nat} (h : n < 4294967296) : crcStep n < 4294967296 := by
  unfold crcStep; split
  · exact xor_lt32 (by omega) (by omega)
  · omega
theorem crcIter_lt (k : Nat) : ∀ {n : Nat}, n < 4294967296 → crcIter k n < 4294967296 := by
  induction k with
  | zero => intro n h; exact h
  | succ k ih => intro n h; exact ih (crcStep_lt h)
theorem crcIter_succ (k : Nat) : ∀ n, crcIter (k + 1) n = crcStep (crcIter k n) := by
  induction k with
  | zero => intro n; rfl
  | succ k ih => intro n; rw [crcIter, ih]; rfl
theorem crcXor_lt {n : Nat} (h : n < 4294967296) (c : UInt8) : n ^^^ c.toNat < 4294967296 := xor_lt32 h (by have := c.toNat_lt; omega)
theorem crcFold_lt (l : Bytes) : ∀ {n : Nat}, n < 4294967296 → crcFold n l < 4294967296 := by
  induction l with
  | nil => intro n h; exact h
  | cons c l ih => intro n h; exact ih (crcIter_lt 8 (crcXor_lt h c))
theorem crcN_lt (l : Bytes) : crcN l < 4294967296 := xor_lt32 (crcFold_lt l (by omega)) (by omega)
theorem crcFold_snoc (n : Nat) (l : Bytes) (k : Nat) (h : k < l.length) : crcFold n (l.take (k + 1)) = crcIter 8 (crcFold n (l.take k) ^^^ (l[k]).toNat) := by
  unfold crcFold
  rw [List.take_succ_eq_append_getElem h, List.foldl_append]; rfl
theorem step_u32 {m : Nat} (h : m < 4294967296) : bits .xor .u32 ((m : Int) / 2) (3988292384 * bits .and .u32 (m : Int) 1 % 4294967296) = (crcStep m : Int) := by
  rw [and1_u32 m h]
  unfold crcStep
  by_cases e : m % 2 = 1
  · rw [if_pos e]
    have h2 : (m : Int) % 2 = 1 := by omega
    have : (3988292384 * ((m : Int) % 2) % 4294967296) = ((3988292384 : Nat) : Int) := by rw [h2]; decide
    have e2 : ((m : Int) / 2) = ((m / 2 : Nat) : Int) := by omega
    rw [this, e2, xor_u32 (m / 2) _ (by omega) (by omega)]
  · rw [if_neg e]
    have h2 : (m : Int) % 2 = 0 := by omega
    have : (3988292384 * ((m : Int) % 2) % 4294967296) = ((0 : Nat) : Int) := by rw [h2]; decide
    have e2 : ((m : Int) / 2) = ((m / 2 : Nat) : Int) := by omega
    rw [this, e2, xor_u32 (m / 2) 0 (by omega) (by omega), Nat.xor_zero]
theorem step_i64_odd {x : Nat} (hx : x < 4294967296) (h : x % 2 = 1) : bits .xor .i64 ((x : Int) / 2) 3988292384 = (crcStep x : Int) := by
  rw [xor_i64_p (by omega), crcStep, if_pos h]
theorem step_i64_even {x : Nat} (h : ¬ x % 2 = 1) : ((x : Int) / 2) = (crcStep x : Int) := by
  rw [crcStep, if_neg h]; omega
theorem ints_getD (l : Bytes) (k : Nat) (h : k < l.length) : (ints l).getD k 0 = (l[k].toNat : Int) := by
  simp [ints, h]

theorem i_crc (v : Value) (l : Bytes) (w : World) (h : IsBytes w v (ints l)) : Calls Try.prog 87 #[v] w fun e w' => e = .returned (.int .i64 (crcN l)) ∧ w = w' := by
  obtain ⟨_, hl, a, c, rfl, hc⟩ := h
  rw [ints_length] at hl hc ⊢
  unfold maxLen at hl
  have HC := Lib.hid hc
  clear hc
  go_enter Try.func87, Try.ntmps87
  go_wp2
  go_loop [3, 8] (fun n i => ∃ (k : Nat), k ≤ l.length ∧ i = .int .i64 k ∧ n = .int .u32 (crcFold 4294967295 (l.take k))) (fun _ i => l.length - (intOf i).toNat)
  case atStart => exact ⟨0, by omega, rfl, rfl⟩
  case round =>
    obtain ⟨k, hk, rfl, rfl⟩ := hrel
    by_cases hlt : k < l.length
    · obtain ⟨b, o, rfl, hb, hcc⟩ := HC.out (by intro e; have := congrArg List.length e; simp [ints_length] at this; rw [this] at hlt; simp at hlt)
      have hcell := hcc k (by omega)
      rw [ints_getD l k hlt] at hcell
      have hm := crcFold_lt (l.take k) (n := 4294967295) (by omega)
      have hx := xor_u32 _ _ hm (by have := (l[k]).toNat_lt; omega : (l[k]).toNat < 4294967296)
      have HS := Lib.hid (crcFold_snoc 4294967295 l k hlt)
      have hxl := crcXor_lt hm l[k]
      generalize crcFold 4294967295 (l.take k) = m at *
      generalize (l[k]) = z at *
      clear hcc HC
      have hz := z.toNat_lt
      go_wp2
      go_loop [3, 16] (fun n i => ∃ (j : Nat), j ≤ 8 ∧ i = .int .i64 j ∧ n = .int .u32 (crcIter j (m ^^^ z.toNat))) (fun _ i => 8 - (intOf i).toNat)
      case atStart => exact ⟨0, by omega, rfl, by simp only [crcIter]⟩
      case round =>
        obtain ⟨j, hj, rfl, rfl⟩ := hrel
        by_cases hlt : j < 8
        · have HI := Lib.hid (crcIter_succ j (m ^^^ z.toNat))
          have hj2 := crcIter_lt j hxl
          generalize crcIter j (m ^^^ z.toNat) = x at *
          go_wp2
          go_round
          case rel => exact ⟨j + 1, by omega, by go_num, by rw [step_u32 hj2, HI.out]⟩
          case measure => simp [intOf]; omega
        · obtain rfl : j = 8 := by omega
          go_wp2
          go_round
          case rel => exact ⟨k + 1, by omega, by go_num, by rw [HS.out]⟩
          case measure => simp [intOf]; omega
    · obtain rfl : k = l.length := by omega
      go_wp2
      go_ret
      refine ⟨ret_i ?_, rfl⟩
      have e : IntKind.u32.max = ((4294967295 : Nat) : Int) := by decide
      have hx := crcFold_lt l (n := 4294967295) (by omega)
      have hn := crcN_lt l
      rw [e, xor_u32 _ _ (by omega) hx, Nat.xor_comm]
      show wrap64 (crcN l : Int) = _
      unfold wrap64; omega

theorem s_l07Check (v : Value) (l : Bytes) (w : World) (h : IsBytes w v (ints l)) : Calls Try.prog 74 #[v] w fun e w' => e = .returned (.int .i64 (crcN l)) ∧ w = w' := by
  obtain ⟨_, hl, a, c, rfl, hc⟩ := h
  rw [ints_length] at hl hc ⊢
  unfold maxLen at hl
  have HC := Lib.hid hc
  clear hc
  go_enter Try.func74, Try.ntmps74
  go_wp2
  go_loop [3, 4] (fun n i => ∃ (k : Nat), k ≤ l.length ∧ i = .int .i64 k ∧ n = .int .i64 (crcFold 4294967295 (l.take k))) (fun _ i => l.length - (intOf i).toNat)
  case atStart => exact ⟨0, by omega, rfl, rfl⟩
  case round =>
    obtain ⟨k, hk, rfl, rfl⟩ := hrel
    by_cases hlt : k < l.length
    · obtain ⟨b, o, rfl, hb, hcc⟩ := HC.out (by intro e; have := congrArg List.length e; simp [ints_length] at this; rw [this] at hlt; simp at hlt)
      have hcell := hcc k (by omega)
      rw [ints_getD l k hlt] at hcell
      have hm := crcFold_lt (l.take k) (n := 4294967295) (by omega)
      have hx := xor_i64 _ _ hm (by have := (l[k]).toNat_lt; omega : (l[k]).toNat < 4294967296)
      have HS := Lib.hid (crcFold_snoc 4294967295 l k hlt)
      have hxl := crcXor_lt hm l[k]
      generalize crcFold 4294967295 (l.take k) = m at *
      generalize (l[k]) = z at *
      clear hcc HC
      have hz := z.toNat_lt
      go_wp2
      go_loop [3, 5] (fun n i => ∃ (j : Nat), j ≤ 8 ∧ i = .int .i64 j ∧ n = .int .i64 (crcIter j (m ^^^ z.toNat))) (fun _ i => 8 - (intOf i).toNat)
      case atStart => exact ⟨0, by omega, rfl, by simp only [crcIter]⟩
      case round =>
        obtain ⟨j, hj, rfl, rfl⟩ := hrel
        by_cases hlt : j < 8
        · have HI := Lib.hid (crcIter_succ j (m ^^^ z.toNat))
          have hj2 := crcIter_lt j hxl
          generalize crcIter j (m ^^^ z.toNat) = x at *
          by_cases hodd : x % 2 = 1
          · have ho : (((x : Int) % 2) == 1) = true := by simp; omega
            have hy : bits .xor .i64 ((x : Int) / 2) 3988292384 = (crcStep x : Int) := step_i64_odd hj2 hodd
            have HY := Lib.hid hy
            clear hy hodd
            go_wp2
            go_round
            case rel =>
              refine ⟨j + 1, by omega, by go_num, ?_⟩
              rw [HI.out]
              rw [← HY.out]
            case measure => simp [intOf]; omega
          · have ho : (((x : Int) % 2) == 1) = false := by simp; omega
            have hy : ((x : Int) / 2) = (crcStep x : Int) := step_i64_even hodd
            have HY := Lib.hid hy
            clear hy hodd
            go_wp2
            go_round
            case rel =>
              refine ⟨j + 1, by omega, by go_num, ?_⟩
              rw [HI.out]
              rw [← HY.out]
            case measure => simp [intOf]; omega
        · obtain rfl : j = 8 := by omega
          go_wp2
          go_round
          case rel => exact ⟨k + 1, by omega, by go_num, by rw [HS.out]⟩
          case measure => simp [intOf]; omega
    · obtain rfl : k = l.length := by omega
      go_wp2
      go_ret
      refine ⟨ret_i ?_, rfl⟩
      have hx := crcFold_lt l (n := 4294967295) (by omega)
      exact xor_i64_f hx

/-- The sum as Check32 tells it. -/
def check32 (l : Bytes) : Nat := if l.length ≤ 65536 then crcN l else 0
theorem i_Check32 (v : Value) (l : Bytes) (w : World) (h : IsBytes w v (ints l)) : Calls Try.prog 76 #[v] w fun e w' => e = .returned (.int .i64 (check32 l)) ∧ w = w' := by
  have h' := Lib.hid h
  obtain ⟨_, hl, a, c, rfl, hc⟩ := h
  rw [ints_length] at hl h' ⊢
  unfold maxLen at hl
  clear hc
  by_cases hb : l.length ≤ 65536
  · have e : check32 l = crcN l := by rw [check32, if_pos hb]
    rw [e]
    clear e
    go_enter Try.func76, Try.ntmps76
    go_wp2_with fail; refine (i_crc _ l _ h'.out).mono ?_; rintro e w' ⟨rfl, rfl⟩
    go_wp2
    go_ret
    exact ⟨rfl, rfl⟩
  · have e : check32 l = 0 := by rw [check32, if_neg hb]
    rw [e]
    clear e
    go_enter Try.func76, Try.ntmps76
    go_wp2
    go_ret
    exact ⟨rfl, rfl⟩

end Go.Proofs.Ytjfkhklbnjdbjaa
