/- The laws' own choice: a number out of n that some bytes make. -/
import Derived.Test.YtjfkhklbnjdbjaaDoorRows
import Derived.Test.YtjfkhklbnjdbjaaDoorKeep
import Derived.Outline
import Derived.Deep.QuietTactic
import Derived.BigQuiet
import Derived.RegionTactic
import Derived.BigRegion
set_option linter.unusedVariables false
set_option linter.unusedSimpArgs false
set_option maxHeartbeats 8000000
set_option maxRecDepth 100000
namespace Go.Proofs.YtjfkhklbnjdbjaaDoor
open Go.ChangeShapes Go.WideShapes Go.ChangeAt Go.RowKit

/-- A choice out of n that some bytes make. -/
theorem l_at (v : Value) (zs : List Int) (i n : Int) (w : World) (h : IsBytes w v zs) (hl : zs.length ≤ 1048576) (hi0 : 0 ≤ i) (hi : i ≤ 1000000) (hn : 1 < n) (hn2 : n ≤ 1000000) :
    Calls Tryd.prog 9 #[v, .int .i64 i, .int .i64 n] w fun e w' => ∃ x m : Int, e = .returned (.int .i64 x) ∧ 0 ≤ x ∧ x < n ∧ ∃ k, w' = w.drewN k := by
  obtain ⟨hz, _, a, c, rfl, hc⟩ := h
  by_cases he : zs = []
  · subst he
    clear hc hz
    go_enter Tryd.func9, Tryd.ntmps9
    go_wp2
    go_ret
    exact ⟨_, 0, rfl, Int.emod_nonneg _ (by omega), Int.emod_lt_of_pos _ (by omega), 0, rfl⟩
  · obtain ⟨b, o, rfl, hb, hcc⟩ := hc he
    have hp : 0 < zs.length := List.length_pos_iff.mpr he
    have hl0 : ((zs.length : Int) == 0) = false := by simp; omega
    have r1 := Int.emod_nonneg i (show (zs.length : Int) ≠ 0 by omega)
    have r2 := Int.emod_lt_of_pos i (show (0 : Int) < zs.length by omega)
    have r3 := Int.emod_nonneg (i + 1) (show (zs.length : Int) ≠ 0 by omega)
    have r4 := Int.emod_lt_of_pos (i + 1) (show (0 : Int) < zs.length by omega)
    have d0 : 0 ≤ i / zs.length := Int.ediv_nonneg hi0 (by omega)
    have d1 : i / zs.length ≤ i := Int.ediv_le_self _ hi0
    have c1 := hcc (i % zs.length).toNat (by omega)
    have c2 := hcc ((i + 1) % zs.length).toNat (by omega)
    have hr : ∀ j, j < zs.length → 0 ≤ zs.getD j 0 ∧ zs.getD j 0 ≤ 255 := fun j hj => hz _ (by rw [List.getD_eq_getElem?_getD, List.getElem?_eq_getElem hj]; simp)
    obtain ⟨g1, g2⟩ := hr (i % zs.length).toNat (by omega)
    obtain ⟨g3, g4⟩ := hr ((i + 1) % zs.length).toNat (by omega)
    generalize zs.getD (i % zs.length).toNat 0 = x at *
    generalize zs.getD ((i + 1) % zs.length).toNat 0 = y at *
    clear hcc hr hz hc he
    go_enter Tryd.func9, Tryd.ntmps9
    go_wp2
    go_quiet (fail)
    go_wp2
    go_ret
    exact ⟨_, 0, rfl, Int.emod_nonneg _ (by omega), Int.emod_lt_of_pos _ (by omega), _, rfl⟩

end Go.Proofs.YtjfkhklbnjdbjaaDoor
