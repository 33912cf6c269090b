/- Contracts of strconv.Itoa and strings.Join, in the form of the printed ones. -/
import Derived.Test.YtifkmkiljpeaaabDoorGlob
import Derived.Test.YtifkmkiljpeaaabDoorPure
import Derived.Test.YtifkmkiljpeaaabDoorShelf
import Derived.Lib.AppendIntMem
set_option linter.unusedVariables false
set_option linter.unusedSimpArgs false
set_option maxHeartbeats 8000000
set_option maxRecDepth 100000
namespace Go.Proofs.YtifkmkiljpeaaabDoor
open Go.RowKit Go.Proofs.YtifkmkiljpeaaabDoorW.PrintWords

def strconv_Itoa.f (n : Int) : Option ByteArray := if -9223372036854775808 ≤ n ∧ n ≤ 9223372036854775807 then some (bs (Lib.itoa n)) else none
theorem strconv_Itoa.calls (n : Int) (r : ByteArray) (w : World) (HG : Aside0 (Glob w)) (h : strconv_Itoa.f n = some r) :
    Calls Tryd.prog 20 #[.int .i64 n] w fun e w' => e = .returned (.string r) ∧ Below w.heap.size w w' := by
  rw [strconv_Itoa.f] at h
  split at h
  · cases h
    refine (Tryd.strconv_Itoa n (‹_ ∧ _› : _ ∧ _).1 (‹_ ∧ _› : _ ∧ _).2 w HG.out.tab).mono ?_
    rintro e w' ⟨rfl, k, os, rfl⟩
    exact ⟨rfl, Lib.below_grow _ w (Nat.le_refl _) k os⟩
  · cases h

def strings_Join.f (l : List ByteArray) (sep : ByteArray) : Option ByteArray := if 0 < l.length ∧ l.length ≤ 1099511627776 ∧ (Lib.join (l.map (·.data.toList)) sep.data.toList).length ≤ 1099511627776 then some (bs (Lib.join (l.map (·.data.toList)) sep.data.toList)) else none
theorem strings_Join.calls (A0 : Option Addr) (c0 : Nat) (l0 : List ByteArray) (a1 : ByteArray) (r : ByteArray) (w : World) (hr0 : Kd.C Kd.string w A0 l0.length l0) (hc0 : l0.length ≤ c0) (h : strings_Join.f l0 a1 = some r) :
    Calls Tryd.prog 22 #[.slice A0 l0.length c0, .string a1] w fun e w' => e = .returned (.string r) ∧ Below w.heap.size w w' := by
  rw [strings_Join.f] at h
  split at h
  · rename_i hq
    obtain ⟨q0, q1, q2⟩ := hq
    cases h
    obtain ⟨⟨b, o, sp⟩, c, rfl, -, hK, hc⟩ := Kd.C_get hr0 ByteArray.empty 0 (by omega) (by omega)
    have hcell : ∀ (j : Nat) x, l0[j]? = some x → w.cell? ((⟨b, o, sp⟩ : Addr).add j) = some (.string x) := by
      intro j x hx
      have hj : j < l0.length := (List.getElem?_eq_some_iff.mp hx).1
      obtain ⟨ad', c', e', -, hK', hc'⟩ := Kd.C_get hr0 ByteArray.empty (j : Int) (by omega) (by omega)
      cases e'
      have e2 : l0.getD (j : Int).toNat ByteArray.empty = x := by rw [Int.toNat_natCast, List.getD, hx]; rfl
      rw [e2] at hK'
      obtain rfl : c' = [.string x] := hK'
      have := hc' 0 _ rfl
      simpa [show (Kd.string).sz = 1 from rfl] using this
    have h0 := hcell 0 l0[0] (List.getElem?_eq_getElem q0)
    have hs : sp = none := by
      cases sp with
      | none => rfl
      | some z => exfalso; unfold World.cell? Addr.add at h0; split at h0 <;> simp at h0
    subst hs
    have hlt : b < w.heap.size := World.block_lt_of_cell? w _ h0
    refine (Tryd.strings_Join b o c0 l0 a1 w (fun j x hx => ?_) hlt (by omega) hc0 (by omega))
    have := hcell j x hx
    unfold Addr.add at this
    by_cases hj : j = 0
    · subst hj; simpa using this
    · simpa [hj] using this
  · cases h
end Go.Proofs.YtifkmkiljpeaaabDoor
