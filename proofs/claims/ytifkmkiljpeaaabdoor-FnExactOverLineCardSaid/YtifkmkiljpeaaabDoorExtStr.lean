/- Contracts of the library's functions on texts, in the form of the printed ones. -/
import Derived.Test.YtifkmkiljpeaaabDoorGlob
import Derived.Test.YtifkmkiljpeaaabDoorPure
import Derived.Test.YtifkmkiljpeaaabDoorShelf
set_option linter.unusedVariables false
set_option linter.unusedSimpArgs false
set_option maxHeartbeats 8000000
set_option maxRecDepth 100000
namespace Go.Proofs.YtifkmkiljpeaaabDoor
open Go.RowKit Go.Proofs.YtifkmkiljpeaaabDoorW.PrintWords

theorem drawn_same {w w' : World} (h : w' = w) : Drawn0 w w' := by subst h; exact Drawn0.refl _
theorem drawn_some {w w' : World} (h : ∃ n, w' = w.drewN n) : Drawn0 w w' := ⟨h⟩

def strings_Index.f (a0 a1 : ByteArray) : Option Int := if a0.size < 4294967281 then some (Lib.index a0.data.toList a1.data.toList) else none
theorem strings_Index.calls (a0 a1 : ByteArray) (r : Int) (w : World) (HG : Aside0 (Glob w)) (h : strings_Index.f a0 a1 = some r) :
    Calls Tryd.prog 27 #[.string a0, .string a1] w fun e w' => e = .returned (.int .i64 r) ∧ Drawn0 w w' := by
  obtain ⟨m, hm⟩ := HG.out.maxLen
  rw [strings_Index.f] at h
  split at h
  · cases h
    exact (Tryd.strings_Index a0 a1 m w ‹_› hm).mono fun e w' h => ⟨h.1, drawn_same h.2⟩
  · cases h

def strings_Cut.f (a0 a1 : ByteArray) : Option (ByteArray × ByteArray × Bool) := if a0.size < 4294967281 then some (bs (Lib.cut a0.data.toList a1.data.toList).1, bs (Lib.cut a0.data.toList a1.data.toList).2.1, (Lib.cut a0.data.toList a1.data.toList).2.2) else none
theorem strings_Cut.calls (a0 a1 : ByteArray) (r1 r2 : ByteArray) (r3 : Bool) (w : World) (HG : Aside0 (Glob w)) (h : strings_Cut.f a0 a1 = some (r1, r2, r3)) :
    Calls Tryd.prog 44 #[.string a0, .string a1] w fun e w' => e = .returned (.tuple #[.string r1, .string r2, .bool r3]) ∧ Drawn0 w w' := by
  obtain ⟨m, hm⟩ := HG.out.maxLen
  rw [strings_Cut.f] at h
  split at h
  · cases h
    exact (Tryd.strings_Cut a0 a1 m w ‹_› hm).mono fun e w' h => ⟨h.1, drawn_some h.2⟩
  · cases h


end Go.Proofs.YtifkmkiljpeaaabDoor
