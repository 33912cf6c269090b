/- The reference's source: a new one. -/
import Derived.Test.YtjfkhklbnjdbjaaDoorSrc
set_option linter.unusedVariables false
set_option linter.unusedSimpArgs false
set_option maxHeartbeats 8000000
set_option maxRecDepth 100000
namespace Go.Proofs.YtjfkhklbnjdbjaaDoor
open Go.RowKit

/-- A new source. -/
theorem src_new (v : Value) (zs : List Int) (w : World) (h : IsBytes w v zs) :
    Calls Tryd.prog 15 #[v] w fun e w' => ∃ b, e = .returned (.pointer (some ⟨b, 0, none⟩)) ∧ w.heap.size ≤ b ∧ Src w' ⟨b, v, zs⟩ 0 ∧ Below w.heap.size w w' := by
  have h' := Lib.hid h
  obtain ⟨_, hl, a, c, rfl, _⟩ := h
  unfold maxLen at hl
  go_enter Tryd.func15, Tryd.ntmps15
  go_wp2
  go_ret
  have hb : Below w.heap.size w (w.alloc (.cells #[.slice a zs.length c, .int .i64 0, .int .i64 (zs.length % 1000)] 44)) := (Below.refl _ _).alloc (Nat.le_refl _) _
  refine ⟨_, rfl, Nat.le_refl _, ⟨0, _, ⟨by simp, World.cell?_alloc_at _ _ _ _ rfl, h'.out.below hb, ?_, World.cell?_alloc_at _ _ _ _ rfl, World.cell?_alloc_at _ _ _ _ rfl, World.frozen?_alloc_at _ _ _ _ rfl, World.frozen?_alloc_at _ _ _ _ rfl, by omega, by omega, by omega⟩, by omega⟩, hb⟩
  intro x n c hz e
  have := h'.out.lt x n c hz e
  exact Nat.ne_of_lt this

end Go.Proofs.YtjfkhklbnjdbjaaDoor
