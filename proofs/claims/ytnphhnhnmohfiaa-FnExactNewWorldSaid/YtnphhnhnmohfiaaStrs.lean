/- Go's own functions on texts, where they are short enough to be walked. -/
import Derived.Test.YtnphhnhnmohfiaaRows
import Derived.Test.YtnphhnhnmohfiaaPure
import Derived.Outline
set_option linter.unusedVariables false
set_option linter.unusedSimpArgs false
set_option maxHeartbeats 8000000
set_option maxRecDepth 100000
namespace Go.Proofs.Ytnphhnhnmohfiaa
open Go.RowKit

theorem info_u8 : (Try.prog.info? 5).map (fun i => (i.zero, i.size, i.bytes)) = some (some (.int .u8 0), 1, 1) := by kernel_rfl
theorem info_str : (Try.prog.info? 9).map (fun i => (i.zero, i.size, i.bytes)) = some (some (.string ⟨#[]⟩), 1, 16) := by kernel_rfl

theorem str_HasPrefix (s p : Bytes) (w : World) (hs : s.length ≤ 9223372036854775807) : Calls Try.prog 58 #[.string (bs s), .string (bs p)] w fun e w' => e = .returned (.bool (p.isPrefixOf s)) ∧ w = w' := by
  by_cases hl : p.length ≤ s.length
  · go_enter Try.func58, Try.ntmps58
    go_wp2
    go_ret
    exact ⟨ret_b (prefix_take p s hl), rfl⟩
  · go_enter Try.func58, Try.ntmps58
    go_wp2
    go_ret
    refine ⟨ret_b ?_, rfl⟩
    symm
    rw [← Bool.not_eq_true, List.isPrefixOf_iff_prefix]
    intro h
    exact hl h.length_le

end Go.Proofs.Ytnphhnhnmohfiaa
