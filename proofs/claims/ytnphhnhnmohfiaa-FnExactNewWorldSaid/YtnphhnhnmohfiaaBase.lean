/- The two functions that ask for a range; a log's value. -/
import Derived.Test.YtnphhnhnmohfiaaRows
import Derived.Test.YtnphhnhnmohfiaaKit
import Derived.Outline
import Derived.Lib.Hide
set_option linter.unusedVariables false
set_option linter.unusedSimpArgs false
set_option maxHeartbeats 8000000
namespace Go.Proofs.Ytnphhnhnmohfiaa
open Go.RowKit

theorem s_in (a b c : Int) (w : World) : Calls Try.prog 15 #[.int .i64 a, .int .i64 b, .int .i64 c] w fun e w' => e = .returned (.bool (inB a b c)) ∧ w = w' := by
  go_enter Try.func15, Try.ntmps15
  go_wp2
  all_goals (go_ret; exact ⟨ret_b (by simp [inB] <;> omega), rfl⟩)

theorem i_in (a b c : Int) (w : World) : Calls Try.prog 54 #[.int .i64 a, .int .i64 b, .int .i64 c] w fun e w' => e = .returned (.bool (inB a b c)) ∧ w = w' := by
  go_enter Try.func54, Try.ntmps54
  go_wp2
  all_goals (go_ret; exact ⟨ret_b (by simp [inB] <;> omega), rfl⟩)

/-- A log's value: its room, its bytes, how many are sure. -/
abbrev logV (r : Int) (d : ByteArray) (s : Int) : Value := .agg #[.int .i64 r, .string d, .int .i64 s]

end Go.Proofs.Ytnphhnhnmohfiaa
