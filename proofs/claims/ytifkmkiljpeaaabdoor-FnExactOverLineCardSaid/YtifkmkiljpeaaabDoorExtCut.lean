/- Contracts of strings.Split, strings.Count, strings.ReplaceAll, strings.Contains and strings.ContainsAny, in the form of the printed ones. -/
import Derived.Test.YtifkmkiljpeaaabDoorGlob
import Derived.Test.YtifkmkiljpeaaabDoorPure
import Derived.Test.YtifkmkiljpeaaabDoorShelf
import Derived.Test.YtifkmkiljpeaaabDoorWLast
import Derived.Test.YtifkmkiljpeaaabDoorExtStr
set_option linter.unusedVariables false
set_option linter.unusedSimpArgs false
set_option maxHeartbeats 8000000
set_option maxRecDepth 100000
namespace Go.Proofs.YtifkmkiljpeaaabDoor
open Go.RowKit Go.Proofs.YtifkmkiljpeaaabDoorW.PrintWords

def strings_Split.f (a0 a1 : ByteArray) : Option (List ByteArray) := if a0.size < 4294967281 ∧ 1 ≤ a1.size then some (Lib.splitB a1 0 (Lib.countB a0 a1) a0) else none
theorem strings_Split.calls (a0 a1 : ByteArray) (r : List ByteArray) (w : World) (HG : Aside0 (Glob w)) (h : strings_Split.f a0 a1 = some r) :
    Calls Tryd.prog 40 #[.string a0, .string a1] w fun e w' => ∃ v0_ : Value, e = .returned (v0_) ∧ Kd.R Kd.string 9 w' w.heap.size (fun _ => True) v0_ r ∧ Below w.heap.size w w' := by
  obtain ⟨m, hm⟩ := HG.out.maxLen
  rw [strings_Split.f] at h
  split at h
  · rename_i hq
    cases h
    have hle := Lib.countB_le a1 hq.2 a0.size a0 (Nat.le_refl _)
    have hlen := Lib.splitB_all a1 hq.2 0 _ a0 rfl
    refine (Tryd.strings_Split a0 a1 m w hq.1 hm hq.2).mono ?_
    rintro e w' ⟨rfl, rfl⟩
    refine ⟨_, rfl, ?_, (Below.refl _ _).alloc (Nat.le_refl _) _⟩
    refine Kd.R_of_own ?_ (fun _ _ => trivial)
    have h2 := World.ownsRow_lit (base := w.heap.size) (e := 9) (size := 1) w ((Lib.splitB a1 0 (Lib.countB a0 a1) a0).map Value.string).toArray (Lib.countB a0 a1 + 1) (Nat.le_refl _) (by unfold maxLen; omega) (by simp [hlen])
    rw [hlen]
    simpa [encs] using h2
  · cases h

def strings_Count.f (a0 a1 : ByteArray) : Option Int := if a0.size < 4294967281 ∧ 2 ≤ a1.size then some (Lib.count a0.data.toList a1.data.toList : Int) else none
theorem strings_Count.calls (a0 a1 : ByteArray) (r : Int) (w : World) (HG : Aside0 (Glob w)) (h : strings_Count.f a0 a1 = some r) :
    Calls Tryd.prog 19 #[.string a0, .string a1] w fun e w' => e = .returned (.int .i64 r) ∧ Drawn0 w w' := by
  obtain ⟨m, hm⟩ := HG.out.maxLen
  rw [strings_Count.f] at h
  split at h
  · rename_i hq
    cases h
    exact (Tryd.strings_Count a0 a1 m w hq.1 hm hq.2).mono fun e w' h => ⟨h.1, drawn_same h.2⟩
  · cases h

def strings_ReplaceAll.f (a0 a1 a2 : ByteArray) : Option ByteArray := if a0.size < 4294967281 ∧ 1 ≤ a1.size ∧ a2.size ≤ 100 then some (bs (Lib.replaceAll a0.data.toList a1.data.toList a2.data.toList)) else none
theorem strings_ReplaceAll.calls (a0 a1 a2 : ByteArray) (r : ByteArray) (w : World) (HG : Aside0 (Glob w)) (h : strings_ReplaceAll.f a0 a1 a2 = some r) :
    Calls Tryd.prog 47 #[.string a0, .string a1, .string a2] w fun e w' => e = .returned (.string r) ∧ Below w.heap.size w w' := by
  obtain ⟨m, hm⟩ := HG.out.maxLen
  rw [strings_ReplaceAll.f] at h
  split at h
  · rename_i hq
    cases h
    have hle := Lib.countB_le a1 hq.2.1 a0.size a0 (Nat.le_refl _)
    exact Tryd.strings_ReplaceAll a0 a1 a2 m w hq.1 hm hq.2.1 (by have := Nat.mul_le_mul hle hq.2.2; have := hq.1; omega)
  · cases h

def strings_Contains.f (a0 a1 : ByteArray) : Option Bool := if a0.size < 4294967281 then some (Lib.contains a0.data.toList a1.data.toList) else none
theorem strings_Contains.calls (a0 a1 : ByteArray) (r : Bool) (w : World) (HG : Aside0 (Glob w)) (h : strings_Contains.f a0 a1 = some r) :
    Calls Tryd.prog 68 #[.string a0, .string a1] w fun e w' => e = .returned (.bool r) ∧ Drawn0 w w' := by
  obtain ⟨m, hm⟩ := HG.out.maxLen
  rw [strings_Contains.f] at h
  split at h
  · cases h
    exact (Tryd.strings_Contains a0 a1 m w ‹_› hm).mono fun e w' h => ⟨h.1, drawn_same h.2⟩
  · cases h

def asciiL (a : ByteArray) : Bool := a.data.toList.all fun b => b.toNat < 128
theorem asciiL_at {a : ByteArray} (h : asciiL a = true) (j : Nat) (b : UInt8) (hj : a.data.toList[j]? = some b) : b.toNat < 128 := by
  have := List.all_eq_true.1 h b (List.mem_of_getElem? hj)
  simpa using this
def strings_ContainsAny.f (a0 a1 : ByteArray) : Option Bool := if a0.size < 4294967281 ∧ a1.size < 4294967281 ∧ asciiL a0 = true ∧ asciiL a1 = true then some (Lib.containsAny a0.data.toList a1.data.toList) else none
theorem strings_ContainsAny.calls (a0 a1 : ByteArray) (r : Bool) (w : World) (h : strings_ContainsAny.f a0 a1 = some r) :
    Calls Tryd.prog 42 #[.string a0, .string a1] w fun e w' => e = .returned (.bool r) ∧ Below w.heap.size w w' := by
  rw [strings_ContainsAny.f] at h
  split at h
  · rename_i hq
    cases h
    exact Tryd.strings_ContainsAny_laid a0 a1 w hq.1 hq.2.1 (fun j b hj => asciiL_at hq.2.2.1 j b hj) (fun j b hj => asciiL_at hq.2.2.2 j b hj)
  · cases h
end Go.Proofs.YtifkmkiljpeaaabDoor
