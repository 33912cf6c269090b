/- Contracts of the library's functions on texts, in the form of the printed ones. -/
import Derived.Test.YtnphhnhnmohfiaaDoorGlob
import Derived.Test.YtnphhnhnmohfiaaDoorPure
import Derived.Test.YtnphhnhnmohfiaaDoorShelf
set_option linter.unusedVariables false
set_option linter.unusedSimpArgs false
set_option maxHeartbeats 8000000
set_option maxRecDepth 100000
namespace Go.Proofs.YtnphhnhnmohfiaaDoor
open Go.RowKit Go.Proofs.YtnphhnhnmohfiaaDoorW.PrintWords

theorem drawn_same {w w' : World} (h : w' = w) : Drawn0 w w' := by subst h; exact Drawn0.refl _
theorem drawn_some {w w' : World} (h : ∃ n, w' = w.drewN n) : Drawn0 w w' := ⟨h⟩

def strings_Index.f (a0 a1 : ByteArray) : Option Int := if a0.size < 4294967281 then some (Lib.index a0.data.toList a1.data.toList) else none
theorem strings_Index.calls (a0 a1 : ByteArray) (r : Int) (w : World) (HG : Aside0 (Glob w)) (h : strings_Index.f a0 a1 = some r) :
    Calls Tryd.prog 99 #[.string a0, .string a1] w fun e w' => e = .returned (.int .i64 r) ∧ Drawn0 w w' := by
  obtain ⟨m, hm⟩ := HG.out.maxLen
  rw [strings_Index.f] at h
  split at h
  · cases h
    exact (Tryd.strings_Index a0 a1 m w ‹_› hm).mono fun e w' h => ⟨h.1, drawn_same h.2⟩
  · cases h

def strings_Cut.f (a0 a1 : ByteArray) : Option (ByteArray × ByteArray × Bool) := if a0.size < 4294967281 then some (bs (Lib.cut a0.data.toList a1.data.toList).1, bs (Lib.cut a0.data.toList a1.data.toList).2.1, (Lib.cut a0.data.toList a1.data.toList).2.2) else none
theorem strings_Cut.calls (a0 a1 : ByteArray) (r1 r2 : ByteArray) (r3 : Bool) (w : World) (HG : Aside0 (Glob w)) (h : strings_Cut.f a0 a1 = some (r1, r2, r3)) :
    Calls Tryd.prog 157 #[.string a0, .string a1] w fun e w' => e = .returned (.tuple #[.string r1, .string r2, .bool r3]) ∧ Drawn0 w w' := by
  obtain ⟨m, hm⟩ := HG.out.maxLen
  rw [strings_Cut.f] at h
  split at h
  · cases h
    exact (Tryd.strings_Cut a0 a1 m w ‹_› hm).mono fun e w' h => ⟨h.1, drawn_some h.2⟩
  · cases h

def strings_Trim.f (a0 a1 : ByteArray) : Option ByteArray := if a0.size ≤ 9223372036854775807 ∧ a1 = bs [32] then some (bs (Lib.trimB a0.data.toList 32)) else none
theorem strings_Trim.calls (a0 a1 : ByteArray) (r : ByteArray) (w : World) (h : strings_Trim.f a0 a1 = some r) :
    Calls Tryd.prog 158 #[.string a0, .string a1] w fun e w' => e = .returned (.string r) ∧ Drawn0 w w' := by
  rw [strings_Trim.f] at h
  split at h
  · obtain ⟨h1, rfl⟩ := ‹_ ∧ _›
    cases h
    exact (Tryd.strings_Trim_one a0 32 (by decide) w h1).mono fun e w' h => ⟨h.1, by rcases h.2 with h | h; exact drawn_same h; exact ⟨⟨1, h⟩⟩⟩
  · cases h

/-- What strconv.Atoi answers where it answers with no error. -/
def atoiOk (t : ByteArray) : Option Int := if t.size ≤ 9223372036854775806 then (match Lib.atoiAll t.data.toList with | .ok v => some v | _ => none) else none
theorem x_Atoi (a0 : ByteArray) (v : Int) (w : World) (h : atoiOk a0 = some v) :
    Calls Tryd.prog 193 #[.string a0] w fun e w' => e = .returned (.tuple #[.int .i64 v, .nilIface]) ∧ Below w.heap.size w w' := by
  rw [atoiOk] at h
  split at h
  · have e : Lib.atoiAll a0.data.toList = .ok v := by split at h <;> first | (cases h; assumption) | cases h
    refine (Tryd.strconv_Atoi_ok a0 ‹_› v e w).mono fun e w' h => ⟨h.1, ?_⟩
    rcases h.2 with rfl | ⟨t, rfl⟩
    · exact Below.refl _ _
    · exact ⟨rfl, rfl, rfl, by rw [Lib.bytesWorld_size]; omega, fun k hk => Lib.bytesWorld_at_old w _ t k hk⟩
  · cases h
end Go.Proofs.YtnphhnhnmohfiaaDoor
