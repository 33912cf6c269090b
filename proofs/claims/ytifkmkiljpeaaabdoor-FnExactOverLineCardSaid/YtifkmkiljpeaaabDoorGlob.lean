/- What the library's variables hold in a world, and that it stays. -/
import Derived.Test.YtifkmkiljpeaaabDoorWWords
import Derived.Test.YtifkmkiljpeaaabDoorKit
import Derived.Test.YtifkmkiljpeaaabDoorProg
import Derived.Lib.AppendIntMem
set_option linter.unusedVariables false
set_option linter.unusedSimpArgs false
namespace Go.Proofs.YtifkmkiljpeaaabDoor
open Go.RowKit

/-- The library's variables that the proofs read: each is there, with a value of its kind. -/
structure Glob (w : World) : Prop where
  lt : 0 < w.heap.size
  maxLen : ∃ m : Int, w.cell? ⟨0, 0, none⟩ = some (.int .i64 m)
  tab : Lib.TabIs Tryd.prog w "internal/strconv.uint64pow10" .u64 Lib.pow10Tab
theorem Glob.heap {w w' : World} (e : w'.heap = w.heap) (h : Glob w) : Glob w' where
  lt := by rw [e]; exact h.lt
  maxLen := by
    obtain ⟨m, hm⟩ := h.maxLen
    exact ⟨m, by rw [← hm]; exact World.cell?_of_block (w := w) (by rw [e])⟩
  tab := by have ht := h.tab; unfold Lib.TabIs World.var? at ht ⊢; rw [e]; exact ht
theorem Glob.below {w w' : World} (hb : Below w.heap.size w w') (h : Glob w) : Glob w' where
  lt := Nat.lt_of_lt_of_le h.lt hb.size
  maxLen := by
    obtain ⟨m, hm⟩ := h.maxLen
    exact ⟨m, (hb.cell (p := ⟨0, 0, none⟩) h.lt).trans hm⟩
  tab := Lib.tabBelow_of_tabIs h.tab w' hb
theorem Glob.of {w w' : World} (h : Glob w) (e : w'.heap = w.heap) : Glob w' := Glob.heap e h
theorem Glob.on {w w' : World} (h : Glob w) (e : Below w.heap.size w w') : Glob w' := Glob.below e h
theorem nil_beq (l : List UInt8) : (l == []) = l.isEmpty := by cases l <;> rfl
theorem nil_bne (l : List UInt8) : (l != []) = !l.isEmpty := by cases l <;> rfl
end Go.Proofs.YtifkmkiljpeaaabDoor
