/- Texts laid together: YtcmnndnigjkldaaGreatDoorExtStr, YtcmnndnigjkldaaGreatDoorExtCase, YtcmnndnigjkldaaGreatDoorExtText, YtcmnndnigjkldaaGreatDoorExtCut. -/
import Derived.Test.YtcmnndnigjkldaaGreatDoorOwnA
import Derived.Test.YtcmnndnigjkldaaGreatDoorShelf
import Derived.Outline
import Derived.Deep.QuietTactic
import Derived.BigQuiet
import Derived.Lib.AppendIntMem
import Derived.Test.YtcmnndnigjkldaaGreatDoorWLast
section
set_option linter.unusedVariables false
set_option linter.unusedSimpArgs false
set_option maxHeartbeats 8000000
set_option maxRecDepth 100000
namespace Go.Proofs.YtcmnndnigjkldaaGreatDoor
open Go.RowKit Go.Proofs.YtcmnndnigjkldaaGreatDoorW.PrintWords
theorem drawn_same {w w' : World} (h : w' = w) : Drawn0 w w' := by subst h; exact Drawn0.refl _
theorem drawn_some {w w' : World} (h : ∃ n, w' = w.drewN n) : Drawn0 w w' := ⟨h⟩
def strings_Index.f (a0 a1 : ByteArray) : Option Int := if a0.size < 4294967281 then some (Lib.index a0.data.toList a1.data.toList) else none
theorem strings_Index.calls (a0 a1 : ByteArray) (r : Int) (w : World) (HG : Aside0 (Glob w)) (h : strings_Index.f a0 a1 = some r) :
    Calls Tryz.prog 57 #[.string a0, .string a1] w fun e w' => e = .returned (.int .i64 r) ∧ Drawn0 w w' := by
  obtain ⟨m, hm⟩ := HG.out.maxLen
  rw [strings_Index.f] at h
  split at h
  · cases h
    exact (Tryz.strings_Index a0 a1 m w ‹_› hm).mono fun e w' h => ⟨h.1, drawn_same h.2⟩
  · cases h
def strings_Cut.f (a0 a1 : ByteArray) : Option (ByteArray × ByteArray × Bool) := if a0.size < 4294967281 then some (bs (Lib.cut a0.data.toList a1.data.toList).1, bs (Lib.cut a0.data.toList a1.data.toList).2.1, (Lib.cut a0.data.toList a1.data.toList).2.2) else none
theorem strings_Cut.calls (a0 a1 : ByteArray) (r1 r2 : ByteArray) (r3 : Bool) (w : World) (HG : Aside0 (Glob w)) (h : strings_Cut.f a0 a1 = some (r1, r2, r3)) :
    Calls Tryz.prog 33 #[.string a0, .string a1] w fun e w' => e = .returned (.tuple #[.string r1, .string r2, .bool r3]) ∧ Drawn0 w w' := by
  obtain ⟨m, hm⟩ := HG.out.maxLen
  rw [strings_Cut.f] at h
  split at h
  · cases h
    exact (Tryz.strings_Cut a0 a1 m w ‹_› hm).mono fun e w' h => ⟨h.1, drawn_some h.2⟩
  · cases h
end Go.Proofs.YtcmnndnigjkldaaGreatDoor
end
section
set_option linter.unusedVariables false
set_option linter.unusedSimpArgs false
set_option maxHeartbeats 8000000
set_option maxRecDepth 100000
namespace Go.Proofs.YtcmnndnigjkldaaGreatDoor
open Go.RowKit Go.Proofs.YtcmnndnigjkldaaGreatDoorW.PrintWords
/-- The block b's first cells are these bytes, and may be written. -/
structure ByteRow (w : World) (b : Nat) (l : Bytes) : Prop where
  lt : b < w.heap.size
  cell : ∀ j (h : j < l.length), w.cell? ⟨b, j, none⟩ = some (.int .u8 l[j].toNat)
  fz : ∀ j, j < l.length → w.frozen? ⟨b, j, none⟩ = false
theorem ByteRow.conv (w : World) (e : TypeId) (l : Bytes) : ByteRow (Lib.bytesWorld w e (bs l)) w.heap.size l := by
  refine ⟨by rw [Lib.bytesWorld_size]; omega, fun j h => ?_, fun j h => ?_⟩
  · rw [Lib.bytesWorld_cell w e (bs l) j (by simpa using h)]
    simp [bs_data, h]
  · have hs : l.length ≤ (Lib.bytesCells w e (bs l)).size := by simp [Lib.bytesCells, bs]
    have h2 : ¬ (Lib.bytesCells w e (bs l)).size ≤ j := by omega
    simp [World.frozen?, Lib.bytesWorld_at_new, h2]
theorem ByteRow.set {w : World} {b : Nat} {l : Bytes} (h : ByteRow w b l) (k : Nat) (hk : k < l.length) (c : UInt8) (x : Int) (hx : x = c.toNat) : ByteRow (w.setCell ⟨b, k, none⟩ (.int .u8 x)) b (l.set k c) := by
  subst hx
  refine ⟨by have := h.lt; simpa [World.setCell] using this, fun j hj => ?_, fun j hj => by rw [World.frozen?_setCell]; exact h.fz j (by simpa using hj)⟩
  have hj' : j < l.length := by simpa using hj
  by_cases e : j = k
  · subst e
    rw [World.cell?_setCell_same _ _ _ (h.cell j hj')]
    simp
  · rw [World.cell?_setCell_other _ _ _ _ (by simp only [ne_eq, Addr.mk.injEq, true_and, and_true]; omega), h.cell j hj']
    rw [List.getElem_set_ne (by omega)]
theorem ByteRow.drew {w : World} {b : Nat} {l : Bytes} (h : ByteRow w b l) (n : Nat) : ByteRow (w.drewN n) b l := ⟨h.lt, h.cell, h.fz⟩
theorem ByteRow.bytes {w : World} {b : Nat} {l : Bytes} (h : ByteRow w b l) (hm : l.length ≤ maxLen) (c n : Nat) (hn : n = l.length) : IsBytes w (.slice (some ⟨b, 0, none⟩) n c) (ints l) := by
  subst hn
  refine ⟨ints_range l, by rw [ints_length]; exact hm, some ⟨b, 0, none⟩, c, by rw [ints_length], fun _ => ⟨b, 0, rfl, h.lt, fun i hi => ?_⟩⟩
  rw [ints_length] at hi
  rw [Nat.zero_add, h.cell i hi]
  simp [ints, hi]
/-- The first k bytes turned. -/
def mapTo (f : UInt8 → UInt8) (l : Bytes) (k : Nat) : Bytes := (l.take k).map f ++ l.drop k
theorem mapTo_length (f : UInt8 → UInt8) (l : Bytes) (k : Nat) : (mapTo f l k).length = l.length := by simp [mapTo]; omega
theorem mapTo_zero (f : UInt8 → UInt8) (l : Bytes) : mapTo f l 0 = l := by simp [mapTo]
theorem mapTo_all (f : UInt8 → UInt8) (l : Bytes) (k : Nat) (h : l.length ≤ k) : mapTo f l k = l.map f := by simp [mapTo, List.take_of_length_le h, List.drop_of_length_le h]
theorem mapTo_at (f : UInt8 → UInt8) (l : Bytes) (k : Nat) (h : k < l.length) : (mapTo f l k)[k]'(by rw [mapTo_length]; exact h) = l[k] := by
  have : ((l.take k).map f).length = k := by simp; omega
  simp only [mapTo]
  rw [List.getElem_append_right (by omega), List.getElem_drop]
  congr 1
  omega
theorem mapTo_succ (f : UInt8 → UInt8) (l : Bytes) (k : Nat) (h : k < l.length) : mapTo f l (k + 1) = (mapTo f l k).set k (f l[k]) := by
  have e : ((l.take k).map f).length = k := by simp; omega
  rw [mapTo, mapTo, List.take_succ_eq_append_getElem h, List.map_append, List.set_append_right (h := by omega), e, Nat.sub_self, List.drop_eq_getElem_cons h, List.set_cons_zero]
  simp
theorem mapTo_same (f : UInt8 → UInt8) (l : Bytes) (k : Nat) (h : k < l.length) (hf : f l[k] = l[k]) : mapTo f l (k + 1) = mapTo f l k := by
  rw [mapTo_succ f l k h, hf]
  apply List.ext_getElem
  · simp
  · intro i h1 h2
    by_cases e : i = k
    · subst e; rw [List.getElem_set_self, mapTo_at f l i h]
    · rw [List.getElem_set_ne (by omega)]
def upC (c : UInt8) : UInt8 := if 97 ≤ c.toNat ∧ c.toNat ≤ 122 then c - 32 else c
def lowC (c : UInt8) : UInt8 := if 65 ≤ c.toNat ∧ c.toNat ≤ 90 then c + 32 else c
theorem upC_yes {c : UInt8} (h0 : 97 ≤ c.toNat) (h1 : c.toNat ≤ 122) : ((c.toNat : Int) - 32) = (upC c).toNat := by
  rw [upC, if_pos ⟨h0, h1⟩, UInt8.toNat_sub_of_le _ _ (by rw [UInt8.le_iff_toNat_le]; simp; omega)]
  simp; omega
theorem upC_no {c : UInt8} (h : ¬ (97 ≤ c.toNat ∧ c.toNat ≤ 122)) : upC c = c := by rw [upC, if_neg h]
theorem lowC_yes {c : UInt8} (h0 : 65 ≤ c.toNat) (h1 : c.toNat ≤ 90) : ((c.toNat : Int) + 32) = (lowC c).toNat := by
  rw [lowC, if_pos ⟨h0, h1⟩, UInt8.toNat_add]
  simp; omega
theorem lowC_no {c : UInt8} (h : ¬ (65 ≤ c.toNat ∧ c.toNat ≤ 90)) : lowC c = c := by rw [lowC, if_neg h]
def upL (t : ByteArray) : ByteArray := bs (t.data.toList.map upC)
def lowL (t : ByteArray) : ByteArray := bs (t.data.toList.map lowC)
theorem below_bytesW {w : World} (e : TypeId) (s : ByteArray) : Below w.heap.size w (Lib.bytesWorld w e s) := below_bytesWorld (Below.refl _ _) (Nat.le_refl _) e s
def spec_l11Upper.f (a0 : ByteArray) : Option ByteArray := if a0.size ≤ maxLen then some (bs (a0.data.toList.map upC)) else none
theorem spec_l11Upper.calls (a0 : ByteArray) (r : ByteArray) (w : World) (h : spec_l11Upper.f a0 = some r) :
    Calls Tryz.prog 17 #[.string a0] w fun e w' => e = .returned (.string r) ∧ Below w.heap.size w w' := by
  obtain ⟨l, rfl⟩ := bs_ex a0
  rw [spec_l11Upper.f, bs_size, bs_data] at h
  split at h
  case isFalse => cases h
  case isTrue hl =>
  cases h
  have HL := Lib.hid hl
  have hl2 := hl
  unfold maxLen at hl2
  clear hl
  have hcv := fun (w : World) => Lib.run_convert_string_bytes (P := Tryz.prog) w 9 55 5 (bs l) Tryz.underlying9 Tryz.underlying55 Tryz.underlying5
  have R0 := Lib.hid (ByteRow.conv w 5 l)
  have B0 := Lib.hid (below_bytesW (w := w) 5 (bs l))
  go_enter Tryz.func17, Tryz.ntmps17
  go_wp2
  go_loopw [4] (fun i wr => ∃ k : Nat, k ≤ l.length ∧ i = .int .i64 k ∧ ByteRow wr w.heap.size (mapTo upC l k) ∧ Below w.heap.size w wr) (fun i _ => l.length - (intOf i).toNat)
  case atStart => exact ⟨0, Nat.zero_le _, rfl, by rw [mapTo_zero]; exact R0.out, B0.out⟩
  case round =>
    clear hcv R0 B0
    obtain ⟨k, hk, rfl, hR, hb⟩ := hrel
    have HR := Lib.hid hR
    have hbw := hb.size
    by_cases hlt : k < l.length
    · have hml := mapTo_length upC l k
      have hc0 := hR.cell k (by omega)
      have hf0 := hR.fz k (by omega)
      rw [mapTo_at upC l k hlt] at hc0
      have hS : ∀ x : Int, x = (upC l[k]).toNat → ByteRow (wr.setCell ⟨w.heap.size, k, none⟩ (.int .u8 x)) w.heap.size (mapTo upC l (k + 1)) := fun x hx => by rw [mapTo_succ upC l k hlt]; exact hR.set k (by omega) _ x hx
      have HS := Lib.hid hS
      have hu := (l[k]).toNat_lt
      have HM : 97 ≤ (l[k]).toNat → (l[k]).toNat ≤ 122 → Hid (((l[k].toNat : Int) - 32) = (upC l[k]).toNat) := fun a b => Lib.hid (upC_yes a b)
      have HN : ¬ (97 ≤ (l[k]).toNat ∧ (l[k]).toNat ≤ 122) → Hid (mapTo upC l (k + 1) = mapTo upC l k) := fun a => Lib.hid (mapTo_same upC l k hlt (upC_no a))
      clear hR hS hml
      by_cases hA : 97 ≤ (l[k]).toNat ∧ (l[k]).toNat ≤ 122
      · obtain ⟨hA0, hA1⟩ := hA
        have E := HM hA0 hA1
        clear HM HN
        have t0 : decide ((97 : Int) ≤ (l[k].toNat : Int)) = true := decide_eq_true (by omega)
        have t1 : decide ((l[k].toNat : Int) ≤ 122) = true := decide_eq_true (by omega)
        go_wp2
        exact ⟨⟨k + 1, by omega, int_eq (by omega), HS.out _ E.out, hb.setCell (Nat.le_refl _) _⟩, by simp [intOf]; omega⟩
      · have E := HN hA
        clear HM HN
        by_cases hA0 : 97 ≤ (l[k]).toNat
        · have hA1 : ¬ (l[k]).toNat ≤ 122 := fun h => hA ⟨hA0, h⟩
          have t0 : decide ((97 : Int) ≤ (l[k].toNat : Int)) = true := decide_eq_true (by omega)
          have t1 : decide ((l[k].toNat : Int) ≤ 122) = false := decide_eq_false (by omega)
          clear hA
          go_wp2
          exact ⟨⟨k + 1, by omega, int_eq (by omega), by rw [E.out]; exact HR.out, hb⟩, by simp [intOf]; omega⟩
        · have t0 : decide ((97 : Int) ≤ (l[k].toNat : Int)) = false := decide_eq_false (by omega)
          clear hA
          go_wp2
          exact ⟨⟨k + 1, by omega, int_eq (by omega), by rw [E.out]; exact HR.out, hb⟩, by simp [intOf]; omega⟩
    · obtain rfl : k = l.length := by omega
      have hcv := conv_bytes (P := Tryz.prog) (hR.bytes (by rw [mapTo_length]; exact HL.out) (grownCap w l.length 0 5) l.length (by rw [mapTo_length])) 55 5 9 Tryz.underlying55 Tryz.underlying5 Tryz.underlying9
      rw [strOf_ints, mapTo_all upC l _ (Nat.le_refl _)] at hcv
      clear hR HR
      go_wp2
      go_ret
      exact ⟨rfl, hb⟩
def impl_upper.f (a0 : ByteArray) : Option ByteArray := if a0.size ≤ maxLen then some (bs (a0.data.toList.map upC)) else none
theorem impl_upper.calls (a0 : ByteArray) (r : ByteArray) (w : World) (h : impl_upper.f a0 = some r) :
    Calls Tryz.prog 32 #[.string a0] w fun e w' => e = .returned (.string r) ∧ Below w.heap.size w w' := by
  obtain ⟨l, rfl⟩ := bs_ex a0
  rw [impl_upper.f, bs_size, bs_data] at h
  split at h
  case isFalse => cases h
  case isTrue hl =>
  cases h
  have HL := Lib.hid hl
  have hl2 := hl
  unfold maxLen at hl2
  clear hl
  have hcv := fun (w : World) => Lib.run_convert_string_bytes (P := Tryz.prog) w 9 55 5 (bs l) Tryz.underlying9 Tryz.underlying55 Tryz.underlying5
  have R0 := Lib.hid (ByteRow.conv w 5 l)
  have B0 := Lib.hid (below_bytesW (w := w) 5 (bs l))
  go_enter Tryz.func32, Tryz.ntmps32
  go_wp2
  go_loopw [10] (fun i wr => ∃ k : Nat, k ≤ l.length ∧ i = .int .i64 k ∧ ByteRow wr w.heap.size (mapTo upC l k) ∧ Below w.heap.size w wr) (fun i _ => l.length - (intOf i).toNat)
  case atStart => exact ⟨0, Nat.zero_le _, rfl, by rw [mapTo_zero]; exact R0.out, B0.out⟩
  case round =>
    clear hcv R0 B0
    obtain ⟨k, hk, rfl, hR, hb⟩ := hrel
    have HR := Lib.hid hR
    have hbw := hb.size
    by_cases hlt : k < l.length
    · have hml := mapTo_length upC l k
      have hc0 := hR.cell k (by omega)
      have hf0 := hR.fz k (by omega)
      rw [mapTo_at upC l k hlt] at hc0
      have hS : ∀ x : Int, x = (upC l[k]).toNat → ByteRow (wr.setCell ⟨w.heap.size, k, none⟩ (.int .u8 x)) w.heap.size (mapTo upC l (k + 1)) := fun x hx => by rw [mapTo_succ upC l k hlt]; exact hR.set k (by omega) _ x hx
      have HS := Lib.hid hS
      have hu := (l[k]).toNat_lt
      have HM : 97 ≤ (l[k]).toNat → (l[k]).toNat ≤ 122 → Hid (((l[k].toNat : Int) - 32) = (upC l[k]).toNat) := fun a b => Lib.hid (upC_yes a b)
      have HN : ¬ (97 ≤ (l[k]).toNat ∧ (l[k]).toNat ≤ 122) → Hid (mapTo upC l (k + 1) = mapTo upC l k) := fun a => Lib.hid (mapTo_same upC l k hlt (upC_no a))
      clear hR hS hml
      by_cases hA : 97 ≤ (l[k]).toNat ∧ (l[k]).toNat ≤ 122
      · obtain ⟨hA0, hA1⟩ := hA
        have E := HM hA0 hA1
        clear HM HN
        have t0 : decide ((97 : Int) ≤ (l[k].toNat : Int)) = true := decide_eq_true (by omega)
        have t1 : decide ((l[k].toNat : Int) ≤ 122) = true := decide_eq_true (by omega)
        go_wp2
        exact ⟨⟨k + 1, by omega, int_eq (by omega), HS.out _ E.out, hb.setCell (Nat.le_refl _) _⟩, by simp [intOf]; omega⟩
      · have E := HN hA
        clear HM HN
        by_cases hA0 : 97 ≤ (l[k]).toNat
        · have hA1 : ¬ (l[k]).toNat ≤ 122 := fun h => hA ⟨hA0, h⟩
          have t0 : decide ((97 : Int) ≤ (l[k].toNat : Int)) = true := decide_eq_true (by omega)
          have t1 : decide ((l[k].toNat : Int) ≤ 122) = false := decide_eq_false (by omega)
          clear hA
          go_wp2
          exact ⟨⟨k + 1, by omega, int_eq (by omega), by rw [E.out]; exact HR.out, hb⟩, by simp [intOf]; omega⟩
        · have t0 : decide ((97 : Int) ≤ (l[k].toNat : Int)) = false := decide_eq_false (by omega)
          clear hA
          go_wp2
          exact ⟨⟨k + 1, by omega, int_eq (by omega), by rw [E.out]; exact HR.out, hb⟩, by simp [intOf]; omega⟩
    · obtain rfl : k = l.length := by omega
      have hcv := conv_bytes (P := Tryz.prog) (hR.bytes (by rw [mapTo_length]; exact HL.out) (grownCap w l.length 0 5) l.length (by rw [mapTo_length])) 55 5 9 Tryz.underlying55 Tryz.underlying5 Tryz.underlying9
      rw [strOf_ints, mapTo_all upC l _ (Nat.le_refl _)] at hcv
      clear hR HR
      go_wp2
      go_ret
      exact ⟨rfl, hb⟩
end Go.Proofs.YtcmnndnigjkldaaGreatDoor
end
section
set_option linter.unusedVariables false
set_option linter.unusedSimpArgs false
set_option maxHeartbeats 8000000
set_option maxRecDepth 100000
namespace Go.Proofs.YtcmnndnigjkldaaGreatDoor
open Go.RowKit Go.Proofs.YtcmnndnigjkldaaGreatDoorW.PrintWords
def strconv_Itoa.f (n : Int) : Option ByteArray := if -9223372036854775808 ≤ n ∧ n ≤ 9223372036854775807 then some (bs (Lib.itoa n)) else none
theorem strconv_Itoa.calls (n : Int) (r : ByteArray) (w : World) (HG : Aside0 (Glob w)) (h : strconv_Itoa.f n = some r) :
    Calls Tryz.prog 27 #[.int .i64 n] w fun e w' => e = .returned (.string r) ∧ Below w.heap.size w w' := by
  rw [strconv_Itoa.f] at h
  split at h
  · cases h
    refine (Tryz.strconv_Itoa n (‹_ ∧ _› : _ ∧ _).1 (‹_ ∧ _› : _ ∧ _).2 w HG.out.tab).mono ?_
    rintro e w' ⟨rfl, k, os, rfl⟩
    exact ⟨rfl, Lib.below_grow _ w (Nat.le_refl _) k os⟩
  · cases h
def strings_Join.f (l : List ByteArray) (sep : ByteArray) : Option ByteArray := if 0 ≤ l.length ∧ l.length ≤ 1099511627776 ∧ (Lib.join (l.map (·.data.toList)) sep.data.toList).length ≤ 1099511627776 then some (bs (Lib.join (l.map (·.data.toList)) sep.data.toList)) else none
theorem strings_Join.calls (A0 : Option Addr) (c0 : Nat) (l0 : List ByteArray) (a1 : ByteArray) (r : ByteArray) (w : World) (hr0 : Kd.C Kd.string w A0 l0.length l0) (hc0 : l0.length ≤ c0) (h : strings_Join.f l0 a1 = some r) :
    Calls Tryz.prog 28 #[.slice A0 l0.length c0, .string a1] w fun e w' => e = .returned (.string r) ∧ Below w.heap.size w w' := by
  rw [strings_Join.f] at h
  split at h
  · rename_i hq
    obtain ⟨q0, q1, q2⟩ := hq
    cases h
    by_cases hnil : l0 = []
    · subst hnil
      exact (Tryz.strings_Join_none A0 c0 a1 w).mono fun e w' h => ⟨h.1, by rw [h.2]; exact Below.refl _ _⟩
    replace q0 : 0 < l0.length := List.length_pos_iff.mpr hnil
    obtain ⟨⟨b, o, sp⟩, c, rfl, -, hK, hc⟩ := Kd.C_get hr0 ByteArray.empty 0 (by omega) (by omega)
    have hcell : ∀ (j : Nat) x, l0[j]? = some x → w.cell? ((⟨b, o, sp⟩ : Addr).add j) = some (.string x) := by
      intro j x hx
      have hj : j < l0.length := (List.getElem?_eq_some_iff.mp hx).1
      obtain ⟨ad', c', e', -, hK', hc'⟩ := Kd.C_get hr0 ByteArray.empty (j : Int) (by omega) (by omega)
      cases e'
      have e2 : l0.getD (j : Int).toNat ByteArray.empty = x := by rw [Int.toNat_natCast, List.getD, hx]; rfl
      rw [e2] at hK'
      obtain rfl : c' = [.string x] := hK'
      have := hc' 0 _ rfl
      simpa [show (Kd.string).sz = 1 from rfl] using this
    have h0 := hcell 0 l0[0] (List.getElem?_eq_getElem q0)
    have hs : sp = none := by
      cases sp with
      | none => rfl
      | some z => exfalso; unfold World.cell? Addr.add at h0; split at h0 <;> simp at h0
    subst hs
    have hlt : b < w.heap.size := World.block_lt_of_cell? w _ h0
    refine (Tryz.strings_Join b o c0 l0 a1 w (fun j x hx => ?_) hlt (by omega) hc0 (by omega))
    have := hcell j x hx
    unfold Addr.add at this
    by_cases hj : j = 0
    · subst hj; simpa using this
    · simpa [hj] using this
  · cases h
end Go.Proofs.YtcmnndnigjkldaaGreatDoor
end
section
set_option linter.unusedVariables false
set_option linter.unusedSimpArgs false
set_option maxHeartbeats 8000000
set_option maxRecDepth 100000
namespace Go.Proofs.YtcmnndnigjkldaaGreatDoor
open Go.RowKit Go.Proofs.YtcmnndnigjkldaaGreatDoorW.PrintWords
def strings_Split.f (a0 a1 : ByteArray) : Option (List ByteArray) := if a0.size < 4294967281 ∧ 1 ≤ a1.size then some (Lib.splitB a1 0 (Lib.countB a0 a1) a0) else none
theorem strings_Split.calls (a0 a1 : ByteArray) (r : List ByteArray) (w : World) (HG : Aside0 (Glob w)) (h : strings_Split.f a0 a1 = some r) :
    Calls Tryz.prog 73 #[.string a0, .string a1] w fun e w' => ∃ v0_ : Value, e = .returned (v0_) ∧ Kd.R Kd.string 9 w' w.heap.size (fun _ => True) v0_ r ∧ Below w.heap.size w w' := by
  obtain ⟨m, hm⟩ := HG.out.maxLen
  rw [strings_Split.f] at h
  split at h
  · rename_i hq
    cases h
    have hle := Lib.countB_le a1 hq.2 a0.size a0 (Nat.le_refl _)
    have hlen := Lib.splitB_all a1 hq.2 0 _ a0 rfl
    refine (Tryz.strings_Split a0 a1 m w hq.1 hm hq.2).mono ?_
    rintro e w' ⟨rfl, rfl⟩
    refine ⟨_, rfl, ?_, (Below.refl _ _).alloc (Nat.le_refl _) _⟩
    refine Kd.R_of_own ?_ (fun _ _ => trivial)
    have h2 := World.ownsRow_lit (base := w.heap.size) (e := 9) (size := 1) w ((Lib.splitB a1 0 (Lib.countB a0 a1) a0).map Value.string).toArray (Lib.countB a0 a1 + 1) (Nat.le_refl _) (by unfold maxLen; omega) (by simp [hlen])
    rw [hlen]
    simpa [encs] using h2
  · cases h
def strings_Count.f (a0 a1 : ByteArray) : Option Int := if a0.size < 4294967281 ∧ 2 ≤ a1.size then some (Lib.count a0.data.toList a1.data.toList : Int) else none
theorem strings_Count.calls (a0 a1 : ByteArray) (r : Int) (w : World) (HG : Aside0 (Glob w)) (h : strings_Count.f a0 a1 = some r) :
    Calls Tryz.prog 96 #[.string a0, .string a1] w fun e w' => e = .returned (.int .i64 r) ∧ Drawn0 w w' := by
  obtain ⟨m, hm⟩ := HG.out.maxLen
  rw [strings_Count.f] at h
  split at h
  · rename_i hq
    cases h
    exact (Tryz.strings_Count a0 a1 m w hq.1 hm hq.2).mono fun e w' h => ⟨h.1, drawn_same h.2⟩
  · cases h
def strings_ReplaceAll.f (a0 a1 a2 : ByteArray) : Option ByteArray := if a0.size < 4294967281 ∧ 1 ≤ a1.size ∧ a2.size ≤ 100 then some (bs (Lib.replaceAll a0.data.toList a1.data.toList a2.data.toList)) else none
theorem strings_ReplaceAll.calls (a0 a1 a2 : ByteArray) (r : ByteArray) (w : World) (HG : Aside0 (Glob w)) (h : strings_ReplaceAll.f a0 a1 a2 = some r) :
    Calls Tryz.prog 77 #[.string a0, .string a1, .string a2] w fun e w' => e = .returned (.string r) ∧ Below w.heap.size w w' := by
  obtain ⟨m, hm⟩ := HG.out.maxLen
  rw [strings_ReplaceAll.f] at h
  split at h
  · rename_i hq
    cases h
    have hle := Lib.countB_le a1 hq.2.1 a0.size a0 (Nat.le_refl _)
    exact Tryz.strings_ReplaceAll a0 a1 a2 m w hq.1 hm hq.2.1 (by have := Nat.mul_le_mul hle hq.2.2; have := hq.1; omega)
  · cases h
def strings_Contains.f (a0 a1 : ByteArray) : Option Bool := if a0.size < 4294967281 then some (Lib.contains a0.data.toList a1.data.toList) else none
theorem strings_Contains.calls (a0 a1 : ByteArray) (r : Bool) (w : World) (HG : Aside0 (Glob w)) (h : strings_Contains.f a0 a1 = some r) :
    Calls Tryz.prog 92 #[.string a0, .string a1] w fun e w' => e = .returned (.bool r) ∧ Drawn0 w w' := by
  obtain ⟨m, hm⟩ := HG.out.maxLen
  rw [strings_Contains.f] at h
  split at h
  · cases h
    exact (Tryz.strings_Contains a0 a1 m w ‹_› hm).mono fun e w' h => ⟨h.1, drawn_same h.2⟩
  · cases h
def asciiL (a : ByteArray) : Bool := a.data.toList.all fun b => b.toNat < 128
theorem asciiL_at {a : ByteArray} (h : asciiL a = true) (j : Nat) (b : UInt8) (hj : a.data.toList[j]? = some b) : b.toNat < 128 := by
  have := List.all_eq_true.1 h b (List.mem_of_getElem? hj)
  simpa using this
def strings_ContainsAny.f (a0 a1 : ByteArray) : Option Bool := if a0.size < 4294967281 ∧ a1.size < 4294967281 ∧ asciiL a0 = true ∧ asciiL a1 = true then some (Lib.containsAny a0.data.toList a1.data.toList) else none
theorem strings_ContainsAny.calls (a0 a1 : ByteArray) (r : Bool) (w : World) (h : strings_ContainsAny.f a0 a1 = some r) :
    Calls Tryz.prog 75 #[.string a0, .string a1] w fun e w' => e = .returned (.bool r) ∧ Below w.heap.size w w' := by
  rw [strings_ContainsAny.f] at h
  split at h
  · rename_i hq
    cases h
    exact Tryz.strings_ContainsAny_laid a0 a1 w hq.1 hq.2.1 (fun j b hj => asciiL_at hq.2.2.1 j b hj) (fun j b hj => asciiL_at hq.2.2.2 j b hj)
  · cases h
end Go.Proofs.YtcmnndnigjkldaaGreatDoor
end
