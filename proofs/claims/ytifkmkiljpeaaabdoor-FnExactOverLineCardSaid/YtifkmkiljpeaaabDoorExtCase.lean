/- Texts in great and in small letters: the four functions that turn bytes in place. -/
import Derived.Test.YtifkmkiljpeaaabDoorGlob
import Derived.Test.YtifkmkiljpeaaabDoorPure
import Derived.Outline
import Derived.Deep.QuietTactic
import Derived.BigQuiet
set_option linter.unusedVariables false
set_option linter.unusedSimpArgs false
set_option maxHeartbeats 8000000
set_option maxRecDepth 100000
namespace Go.Proofs.YtifkmkiljpeaaabDoor
open Go.RowKit Go.Proofs.YtifkmkiljpeaaabDoorW.PrintWords

/-- The block b's first cells are these bytes, and may be written. -/
structure ByteRow (w : World) (b : Nat) (l : Bytes) : Prop where
  lt : b < w.heap.size
  cell : ∀ j (h : j < l.length), w.cell? ⟨b, j, none⟩ = some (.int .u8 l[j].toNat)
  fz : ∀ j, j < l.length → w.frozen? ⟨b, j, none⟩ = false
theorem ByteRow.conv (w : World) (e : TypeId) (l : Bytes) : ByteRow (Lib.bytesWorld w e (bs l)) w.heap.size l := by
  refine ⟨by rw [Lib.bytesWorld_size]; omega, fun j h => ?_, fun j h => ?_⟩
  · rw [Lib.bytesWorld_cell w e (bs l) j (by simpa using h)]
    simp [bs_data, h]
  · have hs : l.length ≤ (Lib.bytesCells w e (bs l)).size := by simp [Lib.bytesCells, bs]
    have h2 : ¬ (Lib.bytesCells w e (bs l)).size ≤ j := by omega
    simp [World.frozen?, Lib.bytesWorld_at_new, h2]
theorem ByteRow.set {w : World} {b : Nat} {l : Bytes} (h : ByteRow w b l) (k : Nat) (hk : k < l.length) (c : UInt8) (x : Int) (hx : x = c.toNat) : ByteRow (w.setCell ⟨b, k, none⟩ (.int .u8 x)) b (l.set k c) := by
  subst hx
  refine ⟨by have := h.lt; simpa [World.setCell] using this, fun j hj => ?_, fun j hj => by rw [World.frozen?_setCell]; exact h.fz j (by simpa using hj)⟩
  have hj' : j < l.length := by simpa using hj
  by_cases e : j = k
  · subst e
    rw [World.cell?_setCell_same _ _ _ (h.cell j hj')]
    simp
  · rw [World.cell?_setCell_other _ _ _ _ (by simp only [ne_eq, Addr.mk.injEq, true_and, and_true]; omega), h.cell j hj']
    rw [List.getElem_set_ne (by omega)]
theorem ByteRow.drew {w : World} {b : Nat} {l : Bytes} (h : ByteRow w b l) (n : Nat) : ByteRow (w.drewN n) b l := ⟨h.lt, h.cell, h.fz⟩
theorem ByteRow.bytes {w : World} {b : Nat} {l : Bytes} (h : ByteRow w b l) (hm : l.length ≤ maxLen) (c n : Nat) (hn : n = l.length) : IsBytes w (.slice (some ⟨b, 0, none⟩) n c) (ints l) := by
  subst hn
  refine ⟨ints_range l, by rw [ints_length]; exact hm, some ⟨b, 0, none⟩, c, by rw [ints_length], fun _ => ⟨b, 0, rfl, h.lt, fun i hi => ?_⟩⟩
  rw [ints_length] at hi
  rw [Nat.zero_add, h.cell i hi]
  simp [ints, hi]

/-- The first k bytes turned. -/
def mapTo (f : UInt8 → UInt8) (l : Bytes) (k : Nat) : Bytes := (l.take k).map f ++ l.drop k
theorem mapTo_length (f : UInt8 → UInt8) (l : Bytes) (k : Nat) : (mapTo f l k).length = l.length := by simp [mapTo]; omega
theorem mapTo_zero (f : UInt8 → UInt8) (l : Bytes) : mapTo f l 0 = l := by simp [mapTo]
theorem mapTo_all (f : UInt8 → UInt8) (l : Bytes) (k : Nat) (h : l.length ≤ k) : mapTo f l k = l.map f := by simp [mapTo, List.take_of_length_le h, List.drop_of_length_le h]
theorem mapTo_at (f : UInt8 → UInt8) (l : Bytes) (k : Nat) (h : k < l.length) : (mapTo f l k)[k]'(by rw [mapTo_length]; exact h) = l[k] := by
  have : ((l.take k).map f).length = k := by simp; omega
  simp only [mapTo]
  rw [List.getElem_append_right (by omega), List.getElem_drop]
  congr 1
  omega
theorem mapTo_succ (f : UInt8 → UInt8) (l : Bytes) (k : Nat) (h : k < l.length) : mapTo f l (k + 1) = (mapTo f l k).set k (f l[k]) := by
  have e : ((l.take k).map f).length = k := by simp; omega
  rw [mapTo, mapTo, List.take_succ_eq_append_getElem h, List.map_append, List.set_append_right (h := by omega), e, Nat.sub_self, List.drop_eq_getElem_cons h, List.set_cons_zero]
  simp
theorem mapTo_same (f : UInt8 → UInt8) (l : Bytes) (k : Nat) (h : k < l.length) (hf : f l[k] = l[k]) : mapTo f l (k + 1) = mapTo f l k := by
  rw [mapTo_succ f l k h, hf]
  apply List.ext_getElem
  · simp
  · intro i h1 h2
    by_cases e : i = k
    · subst e; rw [List.getElem_set_self, mapTo_at f l i h]
    · rw [List.getElem_set_ne (by omega)]

def upC (c : UInt8) : UInt8 := if 97 ≤ c.toNat ∧ c.toNat ≤ 122 then c - 32 else c
def lowC (c : UInt8) : UInt8 := if 65 ≤ c.toNat ∧ c.toNat ≤ 90 then c + 32 else c
theorem upC_yes {c : UInt8} (h0 : 97 ≤ c.toNat) (h1 : c.toNat ≤ 122) : ((c.toNat : Int) - 32) = (upC c).toNat := by
  rw [upC, if_pos ⟨h0, h1⟩, UInt8.toNat_sub_of_le _ _ (by rw [UInt8.le_iff_toNat_le]; simp; omega)]
  simp; omega
theorem upC_no {c : UInt8} (h : ¬ (97 ≤ c.toNat ∧ c.toNat ≤ 122)) : upC c = c := by rw [upC, if_neg h]
theorem lowC_yes {c : UInt8} (h0 : 65 ≤ c.toNat) (h1 : c.toNat ≤ 90) : ((c.toNat : Int) + 32) = (lowC c).toNat := by
  rw [lowC, if_pos ⟨h0, h1⟩, UInt8.toNat_add]
  simp; omega
theorem lowC_no {c : UInt8} (h : ¬ (65 ≤ c.toNat ∧ c.toNat ≤ 90)) : lowC c = c := by rw [lowC, if_neg h]
def upL (t : ByteArray) : ByteArray := bs (t.data.toList.map upC)
def lowL (t : ByteArray) : ByteArray := bs (t.data.toList.map lowC)

theorem below_bytesW {w : World} (e : TypeId) (s : ByteArray) : Below w.heap.size w (Lib.bytesWorld w e s) := below_bytesWorld (Below.refl _ _) (Nat.le_refl _) e s


def spec_l07Lower.f (a0 : ByteArray) : Option ByteArray := if a0.size ≤ maxLen then some (bs (a0.data.toList.map lowC)) else none
theorem spec_l07Lower.calls (a0 : ByteArray) (r : ByteArray) (w : World) (h : spec_l07Lower.f a0 = some r) :
    Calls Tryd.prog 24 #[.string a0] w fun e w' => e = .returned (.string r) ∧ Below w.heap.size w w' := by
  obtain ⟨l, rfl⟩ := bs_ex a0
  rw [spec_l07Lower.f, bs_size, bs_data] at h
  split at h
  case isFalse => cases h
  case isTrue hl =>
  cases h
  have HL := Lib.hid hl
  have hl2 := hl
  unfold maxLen at hl2
  clear hl
  have hcv := fun (w : World) => Lib.run_convert_string_bytes (P := Tryd.prog) w 9 51 5 (bs l) Tryd.underlying9 Tryd.underlying51 Tryd.underlying5
  have R0 := Lib.hid (ByteRow.conv w 5 l)
  have B0 := Lib.hid (below_bytesW (w := w) 5 (bs l))
  go_enter Tryd.func24, Tryd.ntmps24
  go_wp2
  go_loopw [4] (fun i wr => ∃ k : Nat, k ≤ l.length ∧ i = .int .i64 k ∧ ByteRow wr w.heap.size (mapTo lowC l k) ∧ Below w.heap.size w wr) (fun i _ => l.length - (intOf i).toNat)
  case atStart => exact ⟨0, Nat.zero_le _, rfl, by rw [mapTo_zero]; exact R0.out, B0.out⟩
  case round =>
    clear hcv R0 B0
    obtain ⟨k, hk, rfl, hR, hb⟩ := hrel
    have HR := Lib.hid hR
    have hbw := hb.size
    by_cases hlt : k < l.length
    · have hml := mapTo_length lowC l k
      have hc0 := hR.cell k (by omega)
      have hf0 := hR.fz k (by omega)
      rw [mapTo_at lowC l k hlt] at hc0
      have hS : ∀ x : Int, x = (lowC l[k]).toNat → ByteRow (wr.setCell ⟨w.heap.size, k, none⟩ (.int .u8 x)) w.heap.size (mapTo lowC l (k + 1)) := fun x hx => by rw [mapTo_succ lowC l k hlt]; exact hR.set k (by omega) _ x hx
      have HS := Lib.hid hS
      have hu := (l[k]).toNat_lt
      have HM : 65 ≤ (l[k]).toNat → (l[k]).toNat ≤ 90 → Hid (((l[k].toNat : Int) + 32) = (lowC l[k]).toNat) := fun a b => Lib.hid (lowC_yes a b)
      have HN : ¬ (65 ≤ (l[k]).toNat ∧ (l[k]).toNat ≤ 90) → Hid (mapTo lowC l (k + 1) = mapTo lowC l k) := fun a => Lib.hid (mapTo_same lowC l k hlt (lowC_no a))
      clear hR hS hml
      by_cases hA : 65 ≤ (l[k]).toNat ∧ (l[k]).toNat ≤ 90
      · obtain ⟨hA0, hA1⟩ := hA
        have E := HM hA0 hA1
        clear HM HN
        have t0 : decide ((65 : Int) ≤ (l[k].toNat : Int)) = true := decide_eq_true (by omega)
        have t1 : decide ((l[k].toNat : Int) ≤ 90) = true := decide_eq_true (by omega)
        go_wp2
        exact ⟨⟨k + 1, by omega, int_eq (by omega), HS.out _ E.out, hb.setCell (Nat.le_refl _) _⟩, by simp [intOf]; omega⟩
      · have E := HN hA
        clear HM HN
        by_cases hA0 : 65 ≤ (l[k]).toNat
        · have hA1 : ¬ (l[k]).toNat ≤ 90 := fun h => hA ⟨hA0, h⟩
          have t0 : decide ((65 : Int) ≤ (l[k].toNat : Int)) = true := decide_eq_true (by omega)
          have t1 : decide ((l[k].toNat : Int) ≤ 90) = false := decide_eq_false (by omega)
          clear hA
          go_wp2
          exact ⟨⟨k + 1, by omega, int_eq (by omega), by rw [E.out]; exact HR.out, hb⟩, by simp [intOf]; omega⟩
        · have t0 : decide ((65 : Int) ≤ (l[k].toNat : Int)) = false := decide_eq_false (by omega)
          clear hA
          go_wp2
          exact ⟨⟨k + 1, by omega, int_eq (by omega), by rw [E.out]; exact HR.out, hb⟩, by simp [intOf]; omega⟩
    · obtain rfl : k = l.length := by omega
      have hcv := conv_bytes (P := Tryd.prog) (hR.bytes (by rw [mapTo_length]; exact HL.out) (grownCap w l.length 0 5) l.length (by rw [mapTo_length])) 51 5 9 Tryd.underlying51 Tryd.underlying5 Tryd.underlying9
      rw [strOf_ints, mapTo_all lowC l _ (Nat.le_refl _)] at hcv
      clear hR HR
      go_wp2
      go_ret
      exact ⟨rfl, hb⟩


def impl_lower.f (a0 : ByteArray) : Option ByteArray := if a0.size ≤ maxLen then some (bs (a0.data.toList.map lowC)) else none
theorem impl_lower.calls (a0 : ByteArray) (r : ByteArray) (w : World) (h : impl_lower.f a0 = some r) :
    Calls Tryd.prog 53 #[.string a0] w fun e w' => e = .returned (.string r) ∧ Below w.heap.size w w' := by
  obtain ⟨l, rfl⟩ := bs_ex a0
  rw [impl_lower.f, bs_size, bs_data] at h
  split at h
  case isFalse => cases h
  case isTrue hl =>
  cases h
  have HL := Lib.hid hl
  have hl2 := hl
  unfold maxLen at hl2
  clear hl
  have hcv := fun (w : World) => Lib.run_convert_string_bytes (P := Tryd.prog) w 9 51 5 (bs l) Tryd.underlying9 Tryd.underlying51 Tryd.underlying5
  have R0 := Lib.hid (ByteRow.conv w 5 l)
  have B0 := Lib.hid (below_bytesW (w := w) 5 (bs l))
  go_enter Tryd.func53, Tryd.ntmps53
  go_wp2
  go_loopw [10] (fun i wr => ∃ k : Nat, k ≤ l.length ∧ i = .int .i64 k ∧ ByteRow wr w.heap.size (mapTo lowC l k) ∧ Below w.heap.size w wr) (fun i _ => l.length - (intOf i).toNat)
  case atStart => exact ⟨0, Nat.zero_le _, rfl, by rw [mapTo_zero]; exact R0.out, B0.out⟩
  case round =>
    clear hcv R0 B0
    obtain ⟨k, hk, rfl, hR, hb⟩ := hrel
    have HR := Lib.hid hR
    have hbw := hb.size
    by_cases hlt : k < l.length
    · have hml := mapTo_length lowC l k
      have hc0 := hR.cell k (by omega)
      have hf0 := hR.fz k (by omega)
      rw [mapTo_at lowC l k hlt] at hc0
      have hS : ∀ x : Int, x = (lowC l[k]).toNat → ByteRow (wr.setCell ⟨w.heap.size, k, none⟩ (.int .u8 x)) w.heap.size (mapTo lowC l (k + 1)) := fun x hx => by rw [mapTo_succ lowC l k hlt]; exact hR.set k (by omega) _ x hx
      have HS := Lib.hid hS
      have hu := (l[k]).toNat_lt
      have HM : 65 ≤ (l[k]).toNat → (l[k]).toNat ≤ 90 → Hid (((l[k].toNat : Int) + 32) = (lowC l[k]).toNat) := fun a b => Lib.hid (lowC_yes a b)
      have HN : ¬ (65 ≤ (l[k]).toNat ∧ (l[k]).toNat ≤ 90) → Hid (mapTo lowC l (k + 1) = mapTo lowC l k) := fun a => Lib.hid (mapTo_same lowC l k hlt (lowC_no a))
      clear hR hS hml
      by_cases hA : 65 ≤ (l[k]).toNat ∧ (l[k]).toNat ≤ 90
      · obtain ⟨hA0, hA1⟩ := hA
        have E := HM hA0 hA1
        clear HM HN
        have t0 : decide ((65 : Int) ≤ (l[k].toNat : Int)) = true := decide_eq_true (by omega)
        have t1 : decide ((l[k].toNat : Int) ≤ 90) = true := decide_eq_true (by omega)
        go_wp2
        exact ⟨⟨k + 1, by omega, int_eq (by omega), HS.out _ E.out, hb.setCell (Nat.le_refl _) _⟩, by simp [intOf]; omega⟩
      · have E := HN hA
        clear HM HN
        by_cases hA0 : 65 ≤ (l[k]).toNat
        · have hA1 : ¬ (l[k]).toNat ≤ 90 := fun h => hA ⟨hA0, h⟩
          have t0 : decide ((65 : Int) ≤ (l[k].toNat : Int)) = true := decide_eq_true (by omega)
          have t1 : decide ((l[k].toNat : Int) ≤ 90) = false := decide_eq_false (by omega)
          clear hA
          go_wp2
          exact ⟨⟨k + 1, by omega, int_eq (by omega), by rw [E.out]; exact HR.out, hb⟩, by simp [intOf]; omega⟩
        · have t0 : decide ((65 : Int) ≤ (l[k].toNat : Int)) = false := decide_eq_false (by omega)
          clear hA
          go_wp2
          exact ⟨⟨k + 1, by omega, int_eq (by omega), by rw [E.out]; exact HR.out, hb⟩, by simp [intOf]; omega⟩
    · obtain rfl : k = l.length := by omega
      have hcv := conv_bytes (P := Tryd.prog) (hR.bytes (by rw [mapTo_length]; exact HL.out) (grownCap w l.length 0 5) l.length (by rw [mapTo_length])) 51 5 9 Tryd.underlying51 Tryd.underlying5 Tryd.underlying9
      rw [strOf_ints, mapTo_all lowC l _ (Nat.le_refl _)] at hcv
      clear hR HR
      go_wp2
      go_ret
      exact ⟨rfl, hb⟩

end Go.Proofs.YtifkmkiljpeaaabDoor
