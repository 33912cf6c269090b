/- Numbers as bytes, the higher ones first. -/
import Derived.Test.YtjfkhklbnjdbjaaRows
import Derived.Test.YtjfkhklbnjdbjaaPure
import Derived.Outline
set_option linter.unusedVariables false
set_option linter.unusedSimpArgs false
set_option maxHeartbeats 8000000
set_option maxRecDepth 100000
namespace Go.Proofs.Ytjfkhklbnjdbjaa
open Go.RowKit

/-- k bytes of a number, the higher ones first. -/
def beL (n : Nat) : Nat → Bytes | 0 => [] | k + 1 => beL (n / 256) k ++ [UInt8.ofNat n]

theorem be2_ints (n : Nat) : [(n : Int) / 256 % 256, (n : Int) % 256] = ints (beL n 2) := by
  simp [ints, beL]
theorem conv_be2 (n : Nat) (w : World) : (convert 34 9 (.slice (some ⟨w.heap.size, 0, none⟩) 2 2)).run Try.prog (w.alloc (.cells #[Value.int .u8 ((n : Int) / 256 % 256), Value.int .u8 ((n : Int) % 256)] 5)) = .ok (.string (bs (beL n 2))) (w.alloc (.cells #[Value.int .u8 ((n : Int) / 256 % 256), Value.int .u8 ((n : Int) % 256)] 5)) := by
  have h := conv_bytes (P := Try.prog) (IsBytes.new w (ints (beL n 2)) #[Value.int .u8 ((n : Int) / 256 % 256), Value.int .u8 ((n : Int) % 256)] 5 2 2 (ints_range _) (by simp [ints, beL, maxLen]) (by rw [← be2_ints]; rfl) (by simp [ints, beL])) 34 5 9 Try.underlying34 Try.underlying5 Try.underlying9
  rw [strOf_ints] at h
  exact h

theorem i_inBytes2 (n : Nat) (w : World) : Calls Try.prog 75 #[.int .i64 n, .int .i64 2] w (RetB (.string (bs (beL n 2))) w) := by
  have hmk : ∀ w, (Instr.makeSlice 34 (.int .i64 2) (.int .i64 2)).run Try.prog w = .ok (.slice (some ⟨w.heap.size, 0, none⟩) 2 2) (w.alloc (.cells #[.int .u8 0, .int .u8 0] 5)) := fun _ => by kernel_rfl
  have hcv := conv_be2 n w
  go_enter Try.func75, Try.ntmps75
  go_wp2
  refine wp_loop_rounds 3 ?_
  iterate 3 (rw [rounds_succ]; go_wp2)
  go_ret
  exact retB rfl (by (repeat (first | exact Below.refl _ _ | (refine Below.alloc ?_ (by first | omega | (simp only [World.size_alloc, World.size_setCell, World.size_drew, size_drewN]; omega)) _) | (refine Below.setCell ?_ (by first | omega | (simp only [World.size_alloc, World.size_setCell, World.size_drew, size_drewN]; omega)) _) | refine Below.drew ?_ | refine below_drewN ?_ _ | (refine Below.trans ?_ (Below.mono (by assumption) (by first | omega | (simp only [World.size_alloc, World.size_setCell, World.size_drew, size_drewN]; omega)))))))

theorem be3_ints (n : Nat) : [(n : Int) / 256 / 256 % 256, (n : Int) / 256 % 256, (n : Int) % 256] = ints (beL n 3) := by
  simp [ints, beL]
theorem conv_be3 (n : Nat) (w : World) : (convert 34 9 (.slice (some ⟨w.heap.size, 0, none⟩) 3 3)).run Try.prog (w.alloc (.cells #[Value.int .u8 ((n : Int) / 256 / 256 % 256), Value.int .u8 ((n : Int) / 256 % 256), Value.int .u8 ((n : Int) % 256)] 5)) = .ok (.string (bs (beL n 3))) (w.alloc (.cells #[Value.int .u8 ((n : Int) / 256 / 256 % 256), Value.int .u8 ((n : Int) / 256 % 256), Value.int .u8 ((n : Int) % 256)] 5)) := by
  have h := conv_bytes (P := Try.prog) (IsBytes.new w (ints (beL n 3)) #[Value.int .u8 ((n : Int) / 256 / 256 % 256), Value.int .u8 ((n : Int) / 256 % 256), Value.int .u8 ((n : Int) % 256)] 5 3 3 (ints_range _) (by simp [ints, beL, maxLen]) (by rw [← be3_ints]; rfl) (by simp [ints, beL])) 34 5 9 Try.underlying34 Try.underlying5 Try.underlying9
  rw [strOf_ints] at h
  exact h

theorem i_inBytes3 (n : Nat) (w : World) : Calls Try.prog 75 #[.int .i64 n, .int .i64 3] w (RetB (.string (bs (beL n 3))) w) := by
  have hmk : ∀ w, (Instr.makeSlice 34 (.int .i64 3) (.int .i64 3)).run Try.prog w = .ok (.slice (some ⟨w.heap.size, 0, none⟩) 3 3) (w.alloc (.cells #[.int .u8 0, .int .u8 0, .int .u8 0] 5)) := fun _ => by kernel_rfl
  have hcv := conv_be3 n w
  go_enter Try.func75, Try.ntmps75
  go_wp2
  refine wp_loop_rounds 4 ?_
  iterate 4 (rw [rounds_succ]; go_wp2)
  go_ret
  exact retB rfl (by (repeat (first | exact Below.refl _ _ | (refine Below.alloc ?_ (by first | omega | (simp only [World.size_alloc, World.size_setCell, World.size_drew, size_drewN]; omega)) _) | (refine Below.setCell ?_ (by first | omega | (simp only [World.size_alloc, World.size_setCell, World.size_drew, size_drewN]; omega)) _) | refine Below.drew ?_ | refine below_drewN ?_ _ | (refine Below.trans ?_ (Below.mono (by assumption) (by first | omega | (simp only [World.size_alloc, World.size_setCell, World.size_drew, size_drewN]; omega)))))))

theorem be4_ints (n : Nat) : [(n : Int) / 256 / 256 / 256 % 256, (n : Int) / 256 / 256 % 256, (n : Int) / 256 % 256, (n : Int) % 256] = ints (beL n 4) := by
  simp [ints, beL]
theorem conv_be4 (n : Nat) (w : World) : (convert 34 9 (.slice (some ⟨w.heap.size, 0, none⟩) 4 4)).run Try.prog (w.alloc (.cells #[Value.int .u8 ((n : Int) / 256 / 256 / 256 % 256), Value.int .u8 ((n : Int) / 256 / 256 % 256), Value.int .u8 ((n : Int) / 256 % 256), Value.int .u8 ((n : Int) % 256)] 5)) = .ok (.string (bs (beL n 4))) (w.alloc (.cells #[Value.int .u8 ((n : Int) / 256 / 256 / 256 % 256), Value.int .u8 ((n : Int) / 256 / 256 % 256), Value.int .u8 ((n : Int) / 256 % 256), Value.int .u8 ((n : Int) % 256)] 5)) := by
  have h := conv_bytes (P := Try.prog) (IsBytes.new w (ints (beL n 4)) #[Value.int .u8 ((n : Int) / 256 / 256 / 256 % 256), Value.int .u8 ((n : Int) / 256 / 256 % 256), Value.int .u8 ((n : Int) / 256 % 256), Value.int .u8 ((n : Int) % 256)] 5 4 4 (ints_range _) (by simp [ints, beL, maxLen]) (by rw [← be4_ints]; rfl) (by simp [ints, beL])) 34 5 9 Try.underlying34 Try.underlying5 Try.underlying9
  rw [strOf_ints] at h
  exact h

theorem i_inBytes4 (n : Nat) (w : World) : Calls Try.prog 75 #[.int .i64 n, .int .i64 4] w (RetB (.string (bs (beL n 4))) w) := by
  have hmk : ∀ w, (Instr.makeSlice 34 (.int .i64 4) (.int .i64 4)).run Try.prog w = .ok (.slice (some ⟨w.heap.size, 0, none⟩) 4 4) (w.alloc (.cells #[.int .u8 0, .int .u8 0, .int .u8 0, .int .u8 0] 5)) := fun _ => by kernel_rfl
  have hcv := conv_be4 n w
  go_enter Try.func75, Try.ntmps75
  go_wp2
  refine wp_loop_rounds 5 ?_
  iterate 5 (rw [rounds_succ]; go_wp2)
  go_ret
  exact retB rfl (by (repeat (first | exact Below.refl _ _ | (refine Below.alloc ?_ (by first | omega | (simp only [World.size_alloc, World.size_setCell, World.size_drew, size_drewN]; omega)) _) | (refine Below.setCell ?_ (by first | omega | (simp only [World.size_alloc, World.size_setCell, World.size_drew, size_drewN]; omega)) _) | refine Below.drew ?_ | refine below_drewN ?_ _ | (refine Below.trans ?_ (Below.mono (by assumption) (by first | omega | (simp only [World.size_alloc, World.size_setCell, World.size_drew, size_drewN]; omega)))))))

theorem info_u8 : (Try.prog.info? 5).map (fun i => (i.zero, i.size, i.bytes)) = some (some (.int .u8 0), 1, 1) := by kernel_rfl

/-- The number that bytes are. -/
def numL (l : Bytes) : Nat := l.foldl (fun n c => n * 256 + c.toNat) 0
theorem numL_snoc (l : Bytes) (k : Nat) (h : k < l.length) : numL (l.take (k + 1)) = numL (l.take k) * 256 + (l[k]).toNat := by
  unfold numL
  rw [List.take_succ_eq_append_getElem h, List.foldl_append]; rfl
theorem numL_lt (l : Bytes) : numL l < 256 ^ l.length := by
  suffices ∀ (l : Bytes) (n : Nat), l.foldl (fun n c => n * 256 + c.toNat) n < (n + 1) * 256 ^ l.length by simpa [numL] using this l 0
  intro l
  induction l with
  | nil => intro n; simp
  | cons c l ih =>
    intro n
    rw [List.foldl_cons, List.length_cons]
    have h := ih (n * 256 + c.toNat)
    have hc := c.toNat_lt
    refine Nat.lt_of_lt_of_le h ?_
    rw [Nat.pow_succ, Nat.mul_comm (256 ^ l.length), ← Nat.mul_assoc]
    exact Nat.mul_le_mul_right _ (by omega)
theorem numL_be (n k : Nat) : numL (beL n k) = n % 256 ^ k := by
  induction k generalizing n with
  | zero => simp [numL, beL, Nat.mod_one]
  | succ k ih =>
    have e : numL (beL (n / 256) k ++ [UInt8.ofNat n]) = numL (beL (n / 256) k) * 256 + n % 256 := by simp [numL]
    rw [beL, e, ih, Nat.pow_succ, Nat.mul_comm (256 ^ k) 256, Nat.mod_mul]
    omega
theorem beL_length (n k : Nat) : (beL n k).length = k := by
  induction k generalizing n with
  | zero => rfl
  | succ k ih => simp [beL, ih]

theorem i_numberOf (l : Bytes) (w : World) (hl : l.length ≤ 4) : Calls Try.prog 57 #[.string (bs l)] w fun e w' => e = .returned (.int .i64 (numL l)) ∧ w = w' := by
  go_enter Try.func57, Try.ntmps57
  go_wp2
  go_loop [3, 7] (fun n i => ∃ (k : Nat), k ≤ l.length ∧ i = .int .i64 k ∧ n = .int .i64 (numL (l.take k))) (fun _ i => l.length - (intOf i).toNat)
  case atStart => exact ⟨0, by omega, rfl, rfl⟩
  case round =>
    obtain ⟨k, hk, rfl, rfl⟩ := hrel
    by_cases hlt : k < l.length
    · have HS := Lib.hid (numL_snoc l k hlt)
      have hm : numL (l.take k) < 16777216 := by
        have h1 := numL_lt (l.take k)
        rw [List.length_take] at h1
        exact Nat.lt_of_lt_of_le h1 ((Nat.pow_le_pow_right (by decide) (by omega) : 256 ^ min k l.length ≤ 256 ^ 3))
      generalize numL (l.take k) = m at *
      have hc := (l[k]).toNat_lt
      have hor : bits .or .i64 ((m : Int) * 256) ((l[k]).toNat : Int) = ((m * 256 + (l[k]).toNat : Nat) : Int) := by
        rw [bits_join .i64 63 (by decide) (fun n h0 h1 => by rw [IntKind.wrap_i64]; omega) 8 _ _ (by omega) (by omega) (by omega) (by omega) (by omega) (by omega)]
        omega
      have HO := Lib.hid hor
      clear hor
      go_wp2
      go_round
      case rel =>
        refine ⟨k + 1, by omega, by go_num, ?_⟩
        rw [HS.out, HO.out]
      case measure => simp [intOf]; omega
    · obtain rfl : k = l.length := by omega
      go_wp2
      go_ret
      refine ⟨ret_i ?_, rfl⟩
      simp
end Go.Proofs.Ytjfkhklbnjdbjaa
