/- The laws' marks: a number's text, always the same. -/
import Derived.Test.YtnphhnhnmohfiaaRows
import Derived.Test.YtnphhnhnmohfiaaKeep
import Derived.Test.YtnphhnhnmohfiaaPure
import Derived.Test.YtnphhnhnmohfiaaAppend
import Derived.Test.YtnphhnhnmohfiaaStrs
import Derived.Outline
import Derived.Deep.QuietTactic
import Derived.BigQuiet
import Derived.RegionTactic
import Derived.BigRegion
set_option linter.unusedVariables false
set_option linter.unusedSimpArgs false
set_option maxHeartbeats 8000000
set_option maxRecDepth 100000
namespace Go.Proofs.Ytnphhnhnmohfiaa
open Go.RowKit

def digL (k : Nat) : Bytes := if k = 0 then [] else digL (k / 10) ++ [UInt8.ofNat (48 + k % 10)]
termination_by k
decreasing_by omega
theorem digL_pos {k : Nat} (h : 0 < k) : digL k = digL (k / 10) ++ [UInt8.ofNat (48 + k % 10)] := by rw [digL, if_neg (by omega)]
theorem digL_zero : digL 0 = [] := by rw [digL, if_pos rfl]
/-- One byte in memory that was made just now, as a text. -/
theorem conv_one (w : World) (x : Int) (e : TypeId) (h0 : 0 ≤ x) (h1 : x ≤ 255) :
    (convert 109 9 (.slice (some ⟨w.heap.size, 0, none⟩) 1 1)).run Try.prog (w.alloc (.cells #[.int .u8 x] e)) = .ok (.string (bs [UInt8.ofNat x.toNat])) (w.alloc (.cells #[.int .u8 x] e)) := by
  have h : IsBytes (w.alloc (.cells #[.int .u8 x] e)) (.slice (some ⟨w.heap.size, 0, none⟩) 1 1) [x] :=
    (IsBytes.of_own (zs := [x]) (own_lit w e #[.int .u8 x] 1 rfl (by decide)) (by intro z hz; simp at hz; omega)).1
  exact conv_bytes (P := Try.prog) h 109 5 9 Try.underlying109 Try.underlying5 Try.underlying9
/-- A mark's text. -/
def mkT (k : Int) : ByteArray := bs (109 :: digL k.toNat)

theorem l_markText (k : Int) (w : World) (h0 : 0 < k) (h1 : k < 1000000000000) : Calls Try.prog 42 #[.int .i64 k] w (RetB (.string (mkT k)) w) := by
  have hk0 : decide (k ≤ 0) = false := by simpa using h0
  go_enter Try.func42, Try.ntmps42
  go_wp2
  go_loopw [0, 3] (fun n v wr => ∃ (m : Int) (o : Bytes), n = .int .i64 m ∧ 0 ≤ m ∧ v = .string (bs o) ∧ (o.length : Int) + m ≤ k ∧ digL m.toNat ++ o = digL k.toNat ∧ Below w.heap.size w wr) (fun n _ _ => (intOf n).toNat)
  case atStart => exact ⟨k, [], rfl, by omega, rfl, by simp, by simp, by (repeat (first | exact Below.refl _ _ | (refine Below.alloc ?_ (by first | omega | (simp only [World.size_alloc, World.size_setCell, World.size_drew, size_drewN]; omega)) _) | (refine Below.setCell ?_ (by first | omega | (simp only [World.size_alloc, World.size_setCell, World.size_drew, size_drewN]; omega)) _) | refine Below.drew ?_ | refine below_drewN ?_ _ | (refine Below.trans ?_ (Below.mono (by assumption) (by first | omega | (simp only [World.size_alloc, World.size_setCell, World.size_drew, size_drewN]; omega))))))⟩
  case round =>
    obtain ⟨m, o, rfl, hm, rfl, hlen, hd, hb⟩ := hrel
    have hsz := hb.size
    by_cases hp : 0 < m
    · have r0 := Int.emod_nonneg m (show (10 : Int) ≠ 0 by omega)
      have r1 := Int.emod_lt_of_pos m (show (0 : Int) < 10 by omega)
      have d1 : m / 10 < m := by omega
      have hcv := conv_one wr (48 + m % 10) 5 (by omega) (by omega)
      have hs : ¬ 9223372036854775807 < 1 + o.length := by omega
      go_wp2
      refine ⟨⟨m / 10, [UInt8.ofNat (48 + m % 10).toNat] ++ o, rfl, by omega, by simp [go_sem], by simp; omega, ?_, by (repeat (first | exact Below.refl _ _ | (refine Below.alloc ?_ (by first | omega | (simp only [World.size_alloc, World.size_setCell, World.size_drew, size_drewN]; omega)) _) | (refine Below.setCell ?_ (by first | omega | (simp only [World.size_alloc, World.size_setCell, World.size_drew, size_drewN]; omega)) _) | refine Below.drew ?_ | refine below_drewN ?_ _ | (refine Below.trans ?_ (Below.mono (by assumption) (by first | omega | (simp only [World.size_alloc, World.size_setCell, World.size_drew, size_drewN]; omega))))))⟩, by simp [intOf]; omega⟩
      rw [← hd, digL_pos (k := m.toNat) (by omega), show (m / 10).toNat = m.toNat / 10 by omega, show (48 + m % 10).toNat = 48 + m.toNat % 10 by omega]
      simp
    · obtain rfl : m = 0 := by omega
      go_wp2
      go_ret
      refine retB ?_ (by (repeat (first | exact Below.refl _ _ | (refine Below.alloc ?_ (by first | omega | (simp only [World.size_alloc, World.size_setCell, World.size_drew, size_drewN]; omega)) _) | (refine Below.setCell ?_ (by first | omega | (simp only [World.size_alloc, World.size_setCell, World.size_drew, size_drewN]; omega)) _) | refine Below.drew ?_ | refine below_drewN ?_ _ | (refine Below.trans ?_ (Below.mono (by assumption) (by first | omega | (simp only [World.size_alloc, World.size_setCell, World.size_drew, size_drewN]; omega)))))))
      rw [mkT, ← hd]
      simp [digL_zero, go_sem]
      exact bs_append [109] o
end Go.Proofs.Ytnphhnhnmohfiaa
