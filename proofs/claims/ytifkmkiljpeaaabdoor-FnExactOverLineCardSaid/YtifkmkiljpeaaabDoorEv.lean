/- How printed functions are reckoned on: from some number of rounds on. No program in sight. -/
import Derived.Test.YtifkmkiljpeaaabDoorWMore
import Derived.Test.YtifkmkiljpeaaabDoorPure
set_option linter.unusedVariables false
set_option linter.unusedSimpArgs false
namespace Go.Proofs.YtifkmkiljpeaaabDoor
open Go.RowKit Go.Proofs.YtifkmkiljpeaaabDoorW.PrintWords

theorem ev_pos {α : Type} {c : Prop} [Decidable c] {t e : Nat → Option α} {r : α} (h : c) (H : Ev t r) : Ev (fun k => if c then t k else e k) r := by
  obtain ⟨K, H⟩ := H; exact ⟨K, fun k hk => (if_pos h).trans (H k hk)⟩
theorem ev_neg {α : Type} {c : Prop} [Decidable c] {t e : Nat → Option α} {r : α} (h : ¬ c) (H : Ev e r) : Ev (fun k => if c then t k else e k) r := by
  obtain ⟨K, H⟩ := H; exact ⟨K, fun k hk => (if_neg h).trans (H k hk)⟩
theorem ev_ite {α : Type} {c : Prop} [Decidable c] {t e : Nat → Option α} {r : α} (h1 : c → Ev t r) (h2 : ¬ c → Ev e r) : Ev (fun k => if c then t k else e k) r := by
  by_cases h : c
  · exact ev_pos h (h1 h)
  · exact ev_neg h (h2 h)
theorem ev_bindc {α β : Type} {o : Option α} {f : Nat → α → Option β} {a : α} {r : β} (h : o = some a) (H : Ev (fun n => f n a) r) : Ev (fun n => o.bind (f n)) r := by
  subst h; exact H
theorem ev_some {α : Type} {a r : α} (h : a = r) : Ev (fun _ => some a) r := by subst h; exact Ev.now a
theorem ev_one {α : Type} {g : Nat → Option α} {r r' : α} (h : Ev g r) (h' : Ev g r') : r = r' := by
  obtain ⟨K, h⟩ := h; obtain ⟨K', h'⟩ := h'
  have := (h (max K K') (by omega)).symm.trans (h' (max K K') (by omega))
  exact Option.some.inj this
theorem ev_to {α : Type} {g : Nat → Option α} {r r' : α} (e : r = r') (h : Ev g r) : Ev g r' := e ▸ h
theorem w64 {x : Int} (h0 : -9223372036854775808 ≤ x) (h1 : x < 9223372036854775808) : wrap64 x = x := by unfold wrap64; omega
theorem w64n {k : Nat} (h : k < 9223372036854775807) : wrap64 ((k : Int) + 1) = ((k + 1 : Nat) : Int) := by unfold wrap64; omega
theorem bt_bs (l : Bytes) (k : Nat) (h : k < l.length) : bt (bs l) (k : Int) = (l[k].toNat : Int) := by
  have hs : (bs l).size = l.length := bs_size l
  unfold bt
  rw [dif_pos (by simp only [Int.toNat_natCast]; omega)]
  simp only [Int.toNat_natCast]
  rw [bs_getElem]
theorem bt_zero (l : Bytes) (h : 0 < l.length) : bt (bs l) 0 = (l[0].toNat : Int) := bt_bs l 0 h
theorem bt_lt (s : ByteArray) (i : Int) : 0 ≤ bt s i ∧ bt s i ≤ 255 := bt_range s i
theorem drop_cons (l : Bytes) (k : Nat) (h : k < l.length) : l.drop k = l[k] :: l.drop (k + 1) := List.drop_eq_getElem_cons h
theorem strOf_one (x : Int) : strOfNums [x] = bs [UInt8.ofNat x.toNat] := rfl
theorem u8_int {a : UInt8} {n : Nat} (hn : n < 256 := by decide) : ((a.toNat : Int) = n) ↔ a = UInt8.ofNat n := by
  constructor
  · intro e; apply UInt8.toNat_inj.mp; simp; omega
  · rintro rfl; simp; omega
theorem rdOf_nat {α : Type} (d : α) (l : List α) (k : Nat) (h : k < l.length) : rdOf d l (k : Int) = l[k] := by
  unfold rdOf; simp [List.getElem?_eq_getElem h]
end Go.Proofs.YtifkmkiljpeaaabDoor
