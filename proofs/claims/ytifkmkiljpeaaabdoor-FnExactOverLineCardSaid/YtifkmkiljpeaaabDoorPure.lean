/- Texts as lists of bytes; no program in sight. -/
import Derived.Test.YtifkmkiljpeaaabDoorKeep
set_option linter.unusedVariables false
set_option linter.unusedSimpArgs false
namespace Go.Proofs.YtifkmkiljpeaaabDoor
open Go.RowKit

abbrev Bytes := List UInt8
/-- The text of bytes. -/
def bs (l : Bytes) : ByteArray := ⟨l.toArray⟩
theorem bs_data (l : Bytes) : (bs l).data.toList = l := rfl
theorem bs_of (t : ByteArray) : bs t.data.toList = t := byteArray_ext rfl
theorem bs_ex (t : ByteArray) : ∃ l, t = bs l := ⟨_, (bs_of t).symm⟩
theorem bs_inj {a b : Bytes} (h : bs a = bs b) : a = b := by have := congrArg (fun t : ByteArray => t.data.toList) h; exact this
theorem bs_eq {a b : Bytes} : bs a = bs b ↔ a = b := ⟨bs_inj, fun h => by rw [h]⟩
@[simp, go_sem] theorem bs_size (l : Bytes) : (bs l).size = l.length := by simp [bs, ByteArray.size]
@[go_sem] theorem bs_append (a b : Bytes) : bs a ++ bs b = bs (a ++ b) := byteArray_ext (by simp [bs])
theorem extract_list (t : ByteArray) (a b : Nat) : (t.extract a b).data.toList = (t.data.toList.take b).drop a := by
  rw [ByteArray.data_extract, Array.toList_extract, List.extract_eq_take_drop, List.drop_take]
@[go_sem] theorem bs_extract (l : Bytes) (a b : Nat) : (bs l).extract a b = bs ((l.take b).drop a) := byteArray_ext (by rw [extract_list]; rfl)
@[go_sem] theorem bs_getElem (l : Bytes) (k : Nat) (h : k < (bs l).size) : (bs l)[k]'h = l[k]'(by simpa using h) := by
  show (bs l).data[k] = _
  simp [bs]
@[go_sem] theorem bs_toList (l : Bytes) : (bs l).toList = l := ByteArray.toList_eq _
theorem prefix_take (p s : Bytes) (h : p.length ≤ s.length) : (s.take p.length == p) = p.isPrefixOf s := by
  rw [Bool.eq_iff_iff, beq_iff_eq, List.isPrefixOf_iff_prefix, List.prefix_iff_eq_take]
  exact ⟨fun h => h.symm, fun h => h.symm⟩
theorem bs_nil : (⟨#[]⟩ : ByteArray) = bs [] := rfl

/-- Bytes as whole numbers. -/
def ints (l : Bytes) : List Int := l.map fun c => (c.toNat : Int)
theorem ints_length (l : Bytes) : (ints l).length = l.length := by simp [ints]
theorem ints_range (l : Bytes) : ∀ z ∈ ints l, 0 ≤ z ∧ z ≤ 255 := by
  intro z hz
  obtain ⟨c, _, rfl⟩ := List.mem_map.1 hz
  have := c.toNat_lt; omega
theorem strOf_ints (l : Bytes) : strOfNums (ints l) = bs l := byteArray_ext (by
  simp only [strOfNums_data, ints, List.map_map, bs_data]
  exact (List.map_congr_left (g := id) (fun c _ => by simp)).trans (List.map_id l))
theorem ints_ex {zs : List Int} (h : ∀ z ∈ zs, 0 ≤ z ∧ z ≤ 255) : ∃ l, zs = ints l := by
  refine ⟨zs.map fun z => UInt8.ofNat z.toNat, ?_⟩
  simp only [ints, List.map_map]
  symm
  rw [List.map_congr_left (g := id), List.map_id]
  intro z hz
  have := h z hz
  simp only [Function.comp, id, UInt8.toNat_ofNat']
  omega

/-- What the conversion of a text to bytes gives. -/
theorem IsBytes.conv (w : World) (e : TypeId) (l : Bytes) (n c : Nat) (hl : l.length ≤ maxLen) (hn : n = l.length) : IsBytes (Lib.bytesWorld w e (bs l)) (.slice (some ⟨w.heap.size, 0, none⟩) n c) (ints l) := by
  subst hn
  refine ⟨ints_range l, by rw [ints_length]; exact hl, some ⟨w.heap.size, 0, none⟩, c, by rw [ints_length], fun _ => ⟨w.heap.size, 0, rfl, by rw [Lib.bytesWorld_size]; omega, fun i hi => ?_⟩⟩
  rw [ints_length] at hi
  rw [Nat.zero_add, Lib.bytesWorld_cell w e (bs l) i (by simpa using hi)]
  simp [ints, hi, bs_data]

end Go.Proofs.YtifkmkiljpeaaabDoor
