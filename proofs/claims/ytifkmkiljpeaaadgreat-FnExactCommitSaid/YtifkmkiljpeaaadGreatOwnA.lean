/- Texts laid together: YtifkmkiljpeaaadGreatKit, YtifkmkiljpeaaadGreatKeep, YtifkmkiljpeaaadGreatPure, YtifkmkiljpeaaadGreatStrs, YtifkmkiljpeaaadGreatBytesOf, YtifkmkiljpeaaadGreatCrc, YtifkmkiljpeaaadGreatLogPure, YtifkmkiljpeaaadGreatLogFrame, YtifkmkiljpeaaadGreatBase, YtifkmkiljpeaaadGreatLogRecO, YtifkmkiljpeaaadGreatAppend, YtifkmkiljpeaaadGreatBuilder, YtifkmkiljpeaaadGreatShelf. -/
import Derived.WalkKit
import Derived.ProofKit
import Derived.Below
import Derived.Deep.Draws
import Derived.WalkSmall
import Derived.Lib.Hide
import Derived.Laws.BytesArg
import Derived.Lib.ConvBytes
import Derived.Test.YtifkmkiljpeaaadGreatRows
import Derived.Outline
import Derived.WalkSpells
import Derived.Laws.AppendOwnNone
import Derived.Lib.Builder
import Derived.Shelf.Strings.Builder1
import Derived.Ground.Names2Prog
import Derived.Shelf.Slices.Clone
import Derived.Ground.SlgnProg
import Derived.Shelf.SlicesE.Clone
import Derived.Test.YtifkmkiljpeaaadGreatProg
section
set_option linter.unusedVariables false
set_option linter.unusedSimpArgs false
set_option maxHeartbeats 8000000
namespace Go.Proofs.YtifkmkiljpeaaadGreat
open Go.RowKit
theorem fa (w : World) (n : Nat) : (w.drewN n).heap.size = w.heap.size := rfl
theorem ret_b {a b : Bool} (h : a = b) : Ending.returned (.bool a) = .returned (.bool b) := by rw [h]
theorem ret_i {k : IntKind} {a b : Int} (h : a = b) : Ending.returned (.int k a) = .returned (.int k b) := by rw [h]
theorem bcell {W w1 : World} (hb : Below W.heap.size W w1) : (∀ b o, b < W.heap.size -> w1.cell? ⟨b, o, none⟩ = W.cell? ⟨b, o, none⟩) /\ (∀ b o, b < W.heap.size -> w1.frozen? ⟨b, o, none⟩ = W.frozen? ⟨b, o, none⟩) :=
  ⟨fun b o h => hb.cell (p := ⟨b, o, none⟩) h, fun b o h => hb.frozen (p := ⟨b, o, none⟩) h⟩
theorem bcall {W w1 : World} (hb : Below W.heap.size W w1) : (∀ b o, b < W.heap.size -> w1.cell? ⟨b, o, none⟩ = W.cell? ⟨b, o, none⟩) /\ (∀ b o, b < W.heap.size -> w1.frozen? ⟨b, o, none⟩ = W.frozen? ⟨b, o, none⟩) /\ W.heap.size <= w1.heap.size :=
  ⟨fun b o h => hb.cell (p := ⟨b, o, none⟩) h, fun b o h => hb.frozen (p := ⟨b, o, none⟩) h, hb.size⟩
def RetB (v : Value) (w : World) (e : Ending) (w' : World) : Prop := e = .returned v /\ Below w.heap.size w w'
theorem retB {v v' : Value} {w w' : World} (h : v' = v) (hb : Below w.heap.size w w') : RetB v w (.returned v') w' := ⟨by rw [h], hb⟩
theorem int_eq {k : IntKind} {a b : Int} (h : a = b) : Value.int k a = .int k b := by rw [h]
@[go_sem] theorem two_max (k k' : IntKind) (x y : Int) (ats : Array TypeId) (ty : TypeId) : Builtin.max_ ats ty #[.int k x, .int k' y] = pure (.int k (max x y)) := by
  simp only [Builtin.max_, List.foldlM_cons, List.foldlM_nil, Builtin.max2, gt_iff_lt]
  have : (if x < y then y else x) = max x y := by omega
  rw [this]; rfl
@[go_sem] theorem two_min (k k' : IntKind) (x y : Int) (ats : Array TypeId) (ty : TypeId) : Builtin.min_ ats ty #[.int k x, .int k' y] = pure (.int k (min x y)) := by
  simp only [Builtin.min_, List.foldlM_cons, List.foldlM_nil, Builtin.min2]
  have : (if y < x then y else x) = min x y := by omega
  rw [this]; rfl
def inB (n low high : Int) : Bool := decide (low <= n) && decide (n <= high)
theorem inB_iff {n low high : Int} : inB n low high = true ↔ low <= n /\ n <= high := by simp [inB]
end Go.Proofs.YtifkmkiljpeaaadGreat
end
section
set_option linter.unusedVariables false
set_option linter.unusedSimpArgs false
set_option maxHeartbeats 8000000
namespace Go.Proofs.YtifkmkiljpeaaadGreat
open Go.RowKit
@[go_sem] theorem cell_alloc_drewN_at (w : World) (k : Nat) (c : Array Value) (t : TypeId) (i : Nat) : ((w.drewN k).alloc (.cells c t)).cell? ⟨w.heap.size, i, none⟩ = c[i]? := World.cell?_alloc_at _ _ _ _ rfl
@[go_sem] theorem frozen_alloc_drewN_at (w : World) (k : Nat) (c : Array Value) (t : TypeId) (i : Nat) : ((w.drewN k).alloc (.cells c t)).frozen? ⟨w.heap.size, i, none⟩ = false := World.frozen?_alloc_at _ _ _ _ rfl
@[go_sem] theorem cell_alloc_drewN_past (w : World) (k : Nat) (o : Obj) (n i : Nat) (h : n < w.heap.size) : ((w.drewN k).alloc o).cell? ⟨n, i, none⟩ = w.cell? ⟨n, i, none⟩ := World.cell?_alloc_past _ _ _ h
@[go_sem] theorem frozen_alloc_drewN_past (w : World) (k : Nat) (o : Obj) (n i : Nat) (h : n < w.heap.size) : ((w.drewN k).alloc o).frozen? ⟨n, i, none⟩ = w.frozen? ⟨n, i, none⟩ := World.frozen?_alloc_past _ _ _ h
structure Keep (own : Nat -> Prop) (w w' : World) : Prop where
  os : w'.os = w.os
  tape : w'.tape = w.tape
  output : w'.output = w.output
  size : w.heap.size <= w'.heap.size
  block : ∀ k, k < w.heap.size -> ¬ own k -> w'.heap[k]? = w.heap[k]?
theorem Keep.refl (own : Nat -> Prop) (w : World) : Keep own w w := ⟨rfl, rfl, rfl, Nat.le_refl _, fun _ _ _ => rfl⟩
theorem Keep.trans {own : Nat -> Prop} {a b c : World} (h : Keep own a b) (k : Keep own b c) : Keep own a c :=
  ⟨k.os.trans h.os, k.tape.trans h.tape, k.output.trans h.output, Nat.le_trans h.size k.size, fun i hi ho => (k.block i (Nat.lt_of_lt_of_le hi h.size) ho).trans (h.block i hi ho)⟩
theorem Keep.mono {own own' : Nat -> Prop} {w w' : World} (h : Keep own w w') (m : ∀ k, k < w.heap.size -> own k -> own' k) : Keep own' w w' :=
  ⟨h.os, h.tape, h.output, h.size, fun k hk ho => h.block k hk (fun hx => ho (m k hk hx))⟩
theorem Keep.of_below {own : Nat -> Prop} {B : Nat} {w w' : World} (h : Below B w w') (hB : w.heap.size <= B) : Keep own w w' :=
  ⟨h.os, h.tape, h.output, h.size, fun k hk _ => h.block k (Nat.lt_of_lt_of_le hk hB)⟩
theorem Keep.below {own : Nat -> Prop} {B : Nat} {w w' : World} (h : Keep own w w') (hB : B <= w.heap.size) (m : ∀ k, k < B -> ¬ own k) : Below B w w' :=
  ⟨h.os, h.tape, h.output, h.size, fun k hk => h.block k (Nat.lt_of_lt_of_le hk hB) (m k hk)⟩
theorem Keep.after {own : Nat -> Prop} {B : Nat} {a b c : World} (h : Below B a b) (k : Keep own b c) (m : ∀ k, k < B -> ¬ own k) (hB : B <= b.heap.size) : Below B a c := h.trans (k.below hB m)
theorem Keep.cell {own : Nat -> Prop} {w w' : World} (h : Keep own w w') {p : Addr} (hp : p.block < w.heap.size) (ho : ¬ own p.block) : w'.cell? p = w.cell? p := World.cell?_of_block (w := w) (h.block p.block hp ho)
theorem Keep.frozen {own : Nat -> Prop} {w w' : World} (h : Keep own w w') {p : Addr} (hp : p.block < w.heap.size) (ho : ¬ own p.block) : w'.frozen? p = w.frozen? p := World.frozen?_of_block (w := w) (h.block p.block hp ho)
theorem Keep.alloc {own : Nat -> Prop} {a w : World} (h : Keep own a w) (o : Obj) : Keep own a (w.alloc o) :=
  h.trans ⟨rfl, rfl, rfl, by simp, fun k hk _ => Below.heap_alloc _ _ _ hk⟩
theorem Keep.drew {own : Nat -> Prop} {a w : World} (h : Keep own a w) : Keep own a w.drew := ⟨h.os, h.tape, h.output, h.size, h.block⟩
theorem Keep.drewN {own : Nat -> Prop} {a w : World} (h : Keep own a w) (n : Nat) : Keep own a (w.drewN n) := ⟨h.os, h.tape, h.output, h.size, h.block⟩
theorem Keep.setCell {own : Nat -> Prop} {a w : World} (h : Keep own a w) {p : Addr} (hp : own p.block ∨ a.heap.size <= p.block) (u : Value) : Keep own a (w.setCell p u) :=
  ⟨h.os, h.tape, h.output, by have := h.size; simp [World.setCell]; omega, fun k hk ho => by
    rw [Below.heap_setCell _ _ _ _ (by rintro rfl; rcases hp with hp | hp; exact ho hp; omega)]; exact h.block k hk ho⟩
def fz (w : World) (v : Value) (zs : List Int) : Prop :=
  (∀ z ∈ zs, 0 <= z /\ z <= 255) /\ zs.length <= maxLen /\ ∃ (a : Option Addr) (c : Nat), v = .slice a zs.length c /\ (zs ≠ [] -> ∃ b o, a = some ⟨b, o, none⟩ /\ b < w.heap.size /\ ∀ i, i < zs.length -> w.cell? ⟨b, o + i, none⟩ = some (.int .u8 (zs.getD i 0)))
theorem fz.keep {own : Nat -> Prop} {w w' : World} {v : Value} {zs : List Int} (h : fz w v zs) (k : Keep own w w') (hd : ∀ a n c, zs ≠ [] -> v = .slice (some a) n c -> ¬ own a.block) : fz w' v zs := by
  obtain ⟨h1, h2, a, c, rfl, h3⟩ := h
  refine ⟨h1, h2, a, c, rfl, fun hz => ?_⟩
  obtain ⟨b, o, rfl, hb, hc⟩ := h3 hz
  refine ⟨b, o, rfl, Nat.lt_of_lt_of_le hb k.size, fun i hi => ?_⟩
  have hd' : ¬ own b := hd ⟨b, o, none⟩ _ _ hz rfl
  rw [k.cell (p := ⟨b, o + i, none⟩) hb hd']
  exact hc i hi
theorem fz.below {w w' : World} {v : Value} {zs : List Int} (h : fz w v zs) (k : Below w.heap.size w w') : fz w' v zs :=
  h.keep (own := fun _ => False) (Keep.of_below k (Nat.le_refl _)) (fun _ _ _ _ _ h => h)
theorem fz.lt {w : World} {v : Value} {zs : List Int} (h : fz w v zs) : ∀ a n c, zs ≠ [] -> v = .slice (some a) n c -> a.block < w.heap.size := by
  obtain ⟨_, _, a, c, rfl, h3⟩ := h
  intro a' n c' hz e
  obtain ⟨b, o, rfl, hb, _⟩ := h3 hz
  cases e
  exact hb
theorem Keep.grown {own : Nat -> Prop} {a w w' : World} {row : Option Nat} (h : Keep own a w) (hg : w.grownBy w' row) (hr : ∀ k, row = some k -> a.heap.size <= k) : Keep own a w' :=
  ⟨hg.os.trans h.os, hg.tape.trans h.tape, hg.output.trans h.output, Nat.le_trans h.size hg.size, fun k hk ho =>
    (hg.block k (Nat.lt_of_lt_of_le hk h.size) (fun e => by have := hr k e.symm; omega)).trans (h.block k hk ho)⟩
theorem own_keep {own : Nat -> Prop} {w w' : World} {B : Nat} {e : TypeId} {size : Nat} {v : Value} {n : Nat} {xs : List Value} (h : w.ownsRow B e size v n xs) (k : Keep own w w') (hd : ∀ g, B <= g -> ¬ own g) : w'.ownsRow B e size v n xs := by
  obtain ⟨h1, h | ⟨g, cap, cur, rfl, hB, hg, r⟩⟩ := h
  · exact ⟨h1, .inl h⟩
  have hlt : g < w.heap.size := by
    rcases Nat.lt_or_ge g w.heap.size with h | h
    · exact h
    rw [Array.getElem?_eq_none h] at hg; cases hg
  exact ⟨h1, .inr ⟨g, cap, cur, rfl, hB, by rw [k.block g hlt (hd g hB)]; exact hg, r⟩⟩
theorem fz.of_own {w : World} {B : Nat} {e : TypeId} {v : Value} {zs : List Int} (h : w.ownsRow B e 1 v zs.length (zs.map (Value.int .u8))) (hz : ∀ z ∈ zs, 0 <= z /\ z <= 255) : fz w v zs /\ ∀ a n c, v = .slice (some a) n c -> B <= a.block := by
  obtain ⟨_, h | ⟨g, cap, cur, rfl, hB, hg, hn, hc, hs, ht⟩⟩ := h
  · obtain ⟨rfl, h0⟩ := h
    obtain rfl := List.eq_nil_of_length_eq_zero h0
    exact ⟨⟨by simp, by simp, none, 0, rfl, fun h => absurd rfl h⟩, by simp⟩
  have hlt : g < w.heap.size := by
    rcases Nat.lt_or_ge g w.heap.size with h | h
    · exact h
    rw [Array.getElem?_eq_none h] at hg; cases hg
  refine ⟨⟨hz, by omega, some ⟨g, 0, none⟩, cap, rfl, fun _ => ⟨g, 0, rfl, hlt, fun i hi => ?_⟩⟩, by simp; omega⟩
  simp only [World.cell?, hg]
  have : (cur.toList.take (zs.length * 1))[i]? = some (.int .u8 (zs.getD i 0)) := by rw [ht]; simp [List.getElem?_eq_getElem hi]
  rw [List.getElem?_take, if_pos (by omega)] at this
  simpa using this
theorem byteArray_ext {a b : ByteArray} (h : a.data.toList = b.data.toList) : a = b := by
  cases a; cases b; simp only [ByteArray.mk.injEq]; exact Array.toList_inj.mp h
theorem conv_bytes {P : Program} {w : World} {v : Value} {zs : List Int} (h : fz w v zs) (src e dst : TypeId) (hs : P.underlying src = some (.slice e)) (he : P.underlying e = some (.int .u8)) (hd : P.underlying dst = some .string) :
    (convert src dst v).run P w = .ok (.string (strOfNums zs)) w := by
  obtain ⟨_, _, a, c, rfl, hc⟩ := h
  by_cases hz : zs = []
  · subst hz
    cases a with
    | none => exact run_convert_bytes_nil _ src e hs he _ _ dst hd
    | some a =>
      rw [run_convert_bytes_string w src dst e _ _ c hs he hd]
      exact run_bytesToString w a 0 c [] (run_loadCells_list w a [] (by simp))
  obtain ⟨b, o, rfl, _, hcell⟩ := hc hz
  exact run_convert_bytes_arg _ src e hs he b o zs.length c zs rfl hcell dst hd
def IsStrs (w : World) (v : Value) (l : List ByteArray) : Prop :=
  l.length <= maxLen /\ ∃ (a : Option Addr) (c : Nat), v = .slice a l.length c /\ (l ≠ [] -> ∃ b o, a = some ⟨b, o, none⟩ /\ b < w.heap.size /\ ∀ (i : Nat) t, l[i]? = some t -> w.cell? ⟨b, o + i, none⟩ = some (.string t))
theorem IsStrs.keep {own : Nat -> Prop} {w w' : World} {v : Value} {l : List ByteArray} (h : IsStrs w v l) (k : Keep own w w') (hd : ∀ a n c, v = .slice (some a) n c -> ¬ own a.block) : IsStrs w' v l := by
  obtain ⟨h2, a, c, rfl, h3⟩ := h
  refine ⟨h2, a, c, rfl, fun hz => ?_⟩
  obtain ⟨b, o, rfl, hb, hc⟩ := h3 hz
  refine ⟨b, o, rfl, Nat.lt_of_lt_of_le hb k.size, fun i t hi => ?_⟩
  have hd' : ¬ own b := hd ⟨b, o, none⟩ _ _ rfl
  rw [k.cell (p := ⟨b, o + i, none⟩) hb hd']
  exact hc i t hi
theorem IsStrs.below {w w' : World} {v : Value} {l : List ByteArray} (h : IsStrs w v l) (k : Below w.heap.size w w') : IsStrs w' v l :=
  h.keep (own := fun _ => False) (Keep.of_below k (Nat.le_refl _)) (fun _ _ _ _ h => h)
theorem fz.new (w : World) (zs : List Int) (cs : Array Value) (e : TypeId) (n c : Nat) (hz : ∀ z ∈ zs, 0 <= z /\ z <= 255) (hl : zs.length <= maxLen) (hc : cs = (zs.map (Value.int .u8)).toArray) (hn : n = zs.length) : fz (w.alloc (.cells cs e)) (.slice (some ⟨w.heap.size, 0, none⟩) n c) zs := by
  subst hc hn
  refine ⟨hz, hl, some ⟨w.heap.size, 0, none⟩, c, rfl, fun _ => ⟨w.heap.size, 0, rfl, by simp, fun i hi => ?_⟩⟩
  rw [World.cell?_alloc_at _ _ _ _ rfl]
  simp [hi]
theorem below_bytesWorld {B : Nat} {a w : World} (h : Below B a w) (hB : B <= w.heap.size) (e : TypeId) (s : ByteArray) : Below B a (Lib.bytesWorld w e s) := by
  have hw : Below w.heap.size w (Lib.bytesWorld w e s) := ⟨rfl, rfl, rfl, by rw [Lib.bytesWorld_size]; omega, fun k hk => Lib.bytesWorld_at_old w e s k hk⟩
  exact h.trans (hw.mono hB)
theorem IsStrs.new (w : World) (l : List ByteArray) (cs : Array Value) (e : TypeId) (n c : Nat) (hl : l.length <= maxLen) (hc : cs = (l.map Value.string).toArray) (hn : n = l.length) : IsStrs (w.alloc (.cells cs e)) (.slice (some ⟨w.heap.size, 0, none⟩) n c) l := by
  subst hc hn
  refine ⟨hl, some ⟨w.heap.size, 0, none⟩, c, rfl, fun _ => ⟨w.heap.size, 0, rfl, by simp, fun i t hi => ?_⟩⟩
  rw [World.cell?_alloc_at _ _ _ _ rfl]
  simp [hi]
theorem IsStrs.of_own {w : World} {B : Nat} {e : TypeId} {v : Value} {l : List ByteArray} (h : w.ownsRow B e 1 v l.length (l.map Value.string)) : IsStrs w v l /\ ∀ a n c, v = .slice (some a) n c -> B <= a.block := by
  obtain ⟨_, h | ⟨g, cap, cur, rfl, hB, hg, hn, hc, hs, ht⟩⟩ := h
  · obtain ⟨rfl, h0⟩ := h
    obtain rfl := List.eq_nil_of_length_eq_zero h0
    exact ⟨⟨by simp, none, 0, rfl, fun h => absurd rfl h⟩, by simp⟩
  have hlt : g < w.heap.size := by
    rcases Nat.lt_or_ge g w.heap.size with h | h
    · exact h
    rw [Array.getElem?_eq_none h] at hg; cases hg
  refine ⟨⟨by omega, some ⟨g, 0, none⟩, cap, rfl, fun _ => ⟨g, 0, rfl, hlt, fun i t hi => ?_⟩⟩, by simp; omega⟩
  simp only [World.cell?, hg]
  have hil : i < l.length := by
    rcases Nat.lt_or_ge i l.length with h | h
    · exact h
    rw [List.getElem?_eq_none h] at hi; cases hi
  have : (cur.toList.take (l.length * 1))[i]? = some (.string t) := by rw [ht]; simp [hi]
  rw [List.getElem?_take, if_pos (by omega)] at this
  simpa using this
end Go.Proofs.YtifkmkiljpeaaadGreat
end
section
set_option linter.unusedVariables false
set_option linter.unusedSimpArgs false
namespace Go.Proofs.YtifkmkiljpeaaadGreat
open Go.RowKit
abbrev Bytes := List UInt8
def bs (l : Bytes) : ByteArray := ⟨l.toArray⟩
theorem bs_data (l : Bytes) : (bs l).data.toList = l := rfl
theorem bs_of (t : ByteArray) : bs t.data.toList = t := byteArray_ext rfl
theorem bs_ex (t : ByteArray) : ∃ l, t = bs l := ⟨_, (bs_of t).symm⟩
@[simp, go_sem] theorem ee (l : Bytes) : (bs l).size = l.length := by simp [bs, ByteArray.size]
@[go_sem] theorem bs_append (a b : Bytes) : bs a ++ bs b = bs (a ++ b) := byteArray_ext (by simp [bs])
theorem extract_list (t : ByteArray) (a b : Nat) : (t.extract a b).data.toList = (t.data.toList.take b).drop a := by
  rw [ByteArray.data_extract, Array.toList_extract, List.extract_eq_take_drop, List.drop_take]
@[go_sem] theorem bs_extract (l : Bytes) (a b : Nat) : (bs l).extract a b = bs ((l.take b).drop a) := byteArray_ext (by rw [extract_list]; rfl)
@[go_sem] theorem bs_getElem (l : Bytes) (k : Nat) (h : k < (bs l).size) : (bs l)[k]'h = l[k]'(by simpa using h) := by
  show (bs l).data[k] = _
  simp [bs]
@[go_sem] theorem bs_toList (l : Bytes) : (bs l).toList = l := ByteArray.toList_eq _
theorem prefix_take (p s : Bytes) (h : p.length <= s.length) : (s.take p.length == p) = p.isPrefixOf s := by
  rw [Bool.eq_iff_iff, beq_iff_eq, List.isPrefixOf_iff_prefix, List.prefix_iff_eq_take]
  exact ⟨fun h => h.symm, fun h => h.symm⟩
def ints (l : Bytes) : List Int := l.map fun c => (c.toNat : Int)
theorem ints_length (l : Bytes) : (ints l).length = l.length := by simp [ints]
theorem ints_range (l : Bytes) : ∀ z ∈ ints l, 0 <= z /\ z <= 255 := by
  intro z hz
  obtain ⟨c, _, rfl⟩ := List.mem_map.1 hz
  have := c.toNat_lt; omega
theorem strOf_ints (l : Bytes) : strOfNums (ints l) = bs l := byteArray_ext (by
  simp only [strOfNums_data, ints, List.map_map, bs_data]
  exact (List.map_congr_left (g := id) (fun c _ => by simp)).trans (List.map_id l))
theorem fz.conv (w : World) (e : TypeId) (l : Bytes) (n c : Nat) (hl : l.length <= maxLen) (hn : n = l.length) : fz (Lib.bytesWorld w e (bs l)) (.slice (some ⟨w.heap.size, 0, none⟩) n c) (ints l) := by
  subst hn
  refine ⟨ints_range l, by rw [ints_length]; exact hl, some ⟨w.heap.size, 0, none⟩, c, by rw [ints_length], fun _ => ⟨w.heap.size, 0, rfl, by rw [Lib.bytesWorld_size]; omega, fun i hi => ?_⟩⟩
  rw [ints_length] at hi
  rw [Nat.zero_add, Lib.bytesWorld_cell w e (bs l) i (by simpa using hi)]
  simp [ints, hi, bs_data]
end Go.Proofs.YtifkmkiljpeaaadGreat
end
section
set_option linter.unusedVariables false
set_option linter.unusedSimpArgs false
set_option maxHeartbeats 8000000
set_option maxRecDepth 100000
namespace Go.Proofs.YtifkmkiljpeaaadGreat
open Go.RowKit
theorem info_u8 : (Tryz.prog.info? 5).map (fun i => (i.zero, i.size, i.bytes)) = some (some (.int .u8 0), 1, 1) := by kernel_rfl
theorem info_str : (Tryz.prog.info? 9).map (fun i => (i.zero, i.size, i.bytes)) = some (some (.string ⟨#[]⟩), 1, 16) := by kernel_rfl
theorem str_HasPrefix (s p : Bytes) (w : World) (hs : s.length <= 9223372036854775807) : Calls Tryz.prog 88 #[.string (bs s), .string (bs p)] w fun e w' => e = .returned (.bool (p.isPrefixOf s)) /\ w = w' := by
  by_cases hl : p.length <= s.length
  · go_enter Tryz.func88, Tryz.ntmps88
    go_wp2
    go_ret
    exact ⟨ret_b (prefix_take p s hl), rfl⟩
  go_enter Tryz.func88, Tryz.ntmps88
  go_wp2
  go_ret
  refine ⟨ret_b ?_, rfl⟩
  symm
  rw [← Bool.not_eq_true, List.isPrefixOf_iff_prefix]
  intro h
  exact hl h.length_le
end Go.Proofs.YtifkmkiljpeaaadGreat
end
section
set_option linter.unusedVariables false
set_option linter.unusedSimpArgs false
set_option maxHeartbeats 8000000
set_option maxRecDepth 100000
namespace Go.Proofs.YtifkmkiljpeaaadGreat
open Go.RowKit
def beL (n : Nat) : Nat -> Bytes | 0 => [] | k + 1 => beL (n / 256) k ++ [UInt8.ofNat n]
theorem be3_ints (n : Nat) : [(n : Int) / 256 / 256 % 256, (n : Int) / 256 % 256, (n : Int) % 256] = ints (beL n 3) := by
  simp [ints, beL]
theorem conv_be3 (n : Nat) (w : World) : (convert 74 9 (.slice (some ⟨w.heap.size, 0, none⟩) 3 3)).run Tryz.prog (w.alloc (.cells #[Value.int .u8 ((n : Int) / 256 / 256 % 256), Value.int .u8 ((n : Int) / 256 % 256), Value.int .u8 ((n : Int) % 256)] 5)) = .ok (.string (bs (beL n 3))) (w.alloc (.cells #[Value.int .u8 ((n : Int) / 256 / 256 % 256), Value.int .u8 ((n : Int) / 256 % 256), Value.int .u8 ((n : Int) % 256)] 5)) := by
  have h := conv_bytes (P := Tryz.prog) (fz.new w (ints (beL n 3)) #[Value.int .u8 ((n : Int) / 256 / 256 % 256), Value.int .u8 ((n : Int) / 256 % 256), Value.int .u8 ((n : Int) % 256)] 5 3 3 (ints_range _) (by simp [ints, beL, maxLen]) (by rw [← be3_ints]; rfl) (by simp [ints, beL])) 74 5 9 Tryz.underlying74 Tryz.underlying5 Tryz.underlying9
  rw [strOf_ints] at h
  exact h
theorem i_inBytes3 (n : Nat) (w : World) : Calls Tryz.prog 119 #[.int .i64 n, .int .i64 3] w (RetB (.string (bs (beL n 3))) w) := by
  have hmk : ∀ w, (Instr.makeSlice 74 (.int .i64 3) (.int .i64 3)).run Tryz.prog w = .ok (.slice (some ⟨w.heap.size, 0, none⟩) 3 3) (w.alloc (.cells #[.int .u8 0, .int .u8 0, .int .u8 0] 5)) := fun _ => by kernel_rfl
  have hcv := conv_be3 n w
  go_enter Tryz.func119, Tryz.ntmps119
  go_wp2
  refine wp_loop_rounds 4 ?_
  iterate 4 (rw [rounds_succ]; go_wp2)
  go_ret
  exact retB rfl (by (repeat (first | exact Below.refl _ _ | (refine Below.alloc ?_ (by first | omega | (simp only [World.size_alloc, World.size_setCell, World.size_drew, fa]; omega)) _) | (refine Below.setCell ?_ (by first | omega | (simp only [World.size_alloc, World.size_setCell, World.size_drew, fa]; omega)) _) | refine Below.drew ?_ | refine below_drewN ?_ _ | (refine Below.trans ?_ (Below.mono (by assumption) (by first | omega | (simp only [World.size_alloc, World.size_setCell, World.size_drew, fa]; omega)))))))
theorem be4_ints (n : Nat) : [(n : Int) / 256 / 256 / 256 % 256, (n : Int) / 256 / 256 % 256, (n : Int) / 256 % 256, (n : Int) % 256] = ints (beL n 4) := by
  simp [ints, beL]
theorem conv_be4 (n : Nat) (w : World) : (convert 74 9 (.slice (some ⟨w.heap.size, 0, none⟩) 4 4)).run Tryz.prog (w.alloc (.cells #[Value.int .u8 ((n : Int) / 256 / 256 / 256 % 256), Value.int .u8 ((n : Int) / 256 / 256 % 256), Value.int .u8 ((n : Int) / 256 % 256), Value.int .u8 ((n : Int) % 256)] 5)) = .ok (.string (bs (beL n 4))) (w.alloc (.cells #[Value.int .u8 ((n : Int) / 256 / 256 / 256 % 256), Value.int .u8 ((n : Int) / 256 / 256 % 256), Value.int .u8 ((n : Int) / 256 % 256), Value.int .u8 ((n : Int) % 256)] 5)) := by
  have h := conv_bytes (P := Tryz.prog) (fz.new w (ints (beL n 4)) #[Value.int .u8 ((n : Int) / 256 / 256 / 256 % 256), Value.int .u8 ((n : Int) / 256 / 256 % 256), Value.int .u8 ((n : Int) / 256 % 256), Value.int .u8 ((n : Int) % 256)] 5 4 4 (ints_range _) (by simp [ints, beL, maxLen]) (by rw [← be4_ints]; rfl) (by simp [ints, beL])) 74 5 9 Tryz.underlying74 Tryz.underlying5 Tryz.underlying9
  rw [strOf_ints] at h
  exact h
theorem i_inBytes4 (n : Nat) (w : World) : Calls Tryz.prog 119 #[.int .i64 n, .int .i64 4] w (RetB (.string (bs (beL n 4))) w) := by
  have hmk : ∀ w, (Instr.makeSlice 74 (.int .i64 4) (.int .i64 4)).run Tryz.prog w = .ok (.slice (some ⟨w.heap.size, 0, none⟩) 4 4) (w.alloc (.cells #[.int .u8 0, .int .u8 0, .int .u8 0, .int .u8 0] 5)) := fun _ => by kernel_rfl
  have hcv := conv_be4 n w
  go_enter Tryz.func119, Tryz.ntmps119
  go_wp2
  refine wp_loop_rounds 5 ?_
  iterate 5 (rw [rounds_succ]; go_wp2)
  go_ret
  exact retB rfl (by (repeat (first | exact Below.refl _ _ | (refine Below.alloc ?_ (by first | omega | (simp only [World.size_alloc, World.size_setCell, World.size_drew, fa]; omega)) _) | (refine Below.setCell ?_ (by first | omega | (simp only [World.size_alloc, World.size_setCell, World.size_drew, fa]; omega)) _) | refine Below.drew ?_ | refine below_drewN ?_ _ | (refine Below.trans ?_ (Below.mono (by assumption) (by first | omega | (simp only [World.size_alloc, World.size_setCell, World.size_drew, fa]; omega)))))))
def ff (l : Bytes) : Nat := l.foldl (fun n c => n * 256 + c.toNat) 0
theorem numL_snoc (l : Bytes) (k : Nat) (h : k < l.length) : ff (l.take (k + 1)) = ff (l.take k) * 256 + (l[k]).toNat := by
  unfold ff
  rw [List.take_succ_eq_append_getElem h, List.foldl_append]; rfl
theorem numL_lt (l : Bytes) : ff l < 256 ^ l.length := by
  suffices ∀ (l : Bytes) (n : Nat), l.foldl (fun n c => n * 256 + c.toNat) n < (n + 1) * 256 ^ l.length by simpa [ff] using this l 0
  intro l
  induction l with
  | nil => intro n; simp
  | cons c l ih =>
    intro n
    rw [List.foldl_cons, List.length_cons]
    have h := ih (n * 256 + c.toNat)
    have hc := c.toNat_lt
    refine Nat.lt_of_lt_of_le h ?_
    rw [Nat.pow_succ, Nat.mul_comm (256 ^ l.length), ← Nat.mul_assoc]
    exact Nat.mul_le_mul_right _ (by omega)
theorem beL_length (n k : Nat) : (beL n k).length = k := by
  induction k generalizing n with
  | zero => rfl
  | succ k ih => simp [beL, ih]
theorem i_numberOf (l : Bytes) (w : World) (hl : l.length <= 4) : Calls Tryz.prog 87 #[.string (bs l)] w fun e w' => e = .returned (.int .i64 (ff l)) /\ w = w' := by
  go_enter Tryz.func87, Tryz.ntmps87
  go_wp2
  go_loop [3, 7] (fun n i => ∃ (k : Nat), k <= l.length /\ i = .int .i64 k /\ n = .int .i64 (ff (l.take k))) (fun _ i => l.length - (intOf i).toNat)
  case atStart => exact ⟨0, by omega, rfl, rfl⟩
  case round =>
    obtain ⟨k, hk, rfl, rfl⟩ := hrel
    by_cases hlt : k < l.length
    · have HS := Lib.hid (numL_snoc l k hlt)
      have hm : ff (l.take k) < 16777216 := by
        have h1 := numL_lt (l.take k)
        rw [List.length_take] at h1
        exact Nat.lt_of_lt_of_le h1 ((Nat.pow_le_pow_right (by decide) (by omega) : 256 ^ min k l.length <= 256 ^ 3))
      generalize ff (l.take k) = m at *
      have hc := (l[k]).toNat_lt
      have hor : bits .or .i64 ((m : Int) * 256) ((l[k]).toNat : Int) = ((m * 256 + (l[k]).toNat : Nat) : Int) := by
        rw [bits_join .i64 63 (by decide) (fun n h0 h1 => by rw [IntKind.wrap_i64]; omega) 8 _ _ (by omega) (by omega) (by omega) (by omega) (by omega) (by omega)]
        omega
      have HO := Lib.hid hor
      clear hor
      go_wp2
      go_round
      case rel =>
        refine ⟨k + 1, by omega, by go_num, ?_⟩
        rw [HS.out, HO.out]
      case measure => simp [intOf]; omega
    obtain rfl : k = l.length := by omega
    go_wp2
    go_ret
    refine ⟨ret_i ?_, rfl⟩
    simp
end Go.Proofs.YtifkmkiljpeaaadGreat
end
section
set_option linter.unusedVariables false
set_option linter.unusedSimpArgs false
set_option maxHeartbeats 8000000
set_option maxRecDepth 100000
namespace Go.Proofs.YtifkmkiljpeaaadGreat
open Go.RowKit
theorem bits_xor_nat (k : IntKind) (j : Nat) (hj : j <= k.bits) (hk : ∀ n : Int, 0 <= n -> n < 2 ^ j -> k.wrap n = n) (a b : Nat) (ha : a < 2 ^ j) (hb : b < 2 ^ j) : bits .xor k a b = ((a ^^^ b : Nat) : Int) := by
  have hp : 2 ^ j <= 2 ^ k.bits := Nat.pow_le_pow_right (by decide) hj
  have ha' : a % 2 ^ k.bits = a := Nat.mod_eq_of_lt (Nat.lt_of_lt_of_le ha hp)
  have hb' : b % 2 ^ k.bits = b := Nat.mod_eq_of_lt (Nat.lt_of_lt_of_le hb hp)
  simp only [bits, BitVec.ofInt_natCast, BitVec.toNat_xor, BitVec.toNat_ofNat, ha', hb']
  exact hk _ (Int.natCast_nonneg _) (by exact_mod_cast Nat.xor_lt_two_pow ha hb)
theorem wraps_u32 (n : Int) (h₀ : 0 <= n) (h₁ : n < 2 ^ 32) : IntKind.u32.wrap n = n := by rw [IntKind.wrap_u32]; omega
theorem wraps_i64 (n : Int) (h₀ : 0 <= n) (h₁ : n < 2 ^ 63) : IntKind.i64.wrap n = n := by rw [IntKind.wrap_i64]; omega
theorem xor_u32 (a b : Nat) (ha : a < 4294967296) (hb : b < 4294967296) : bits .xor .u32 a b = ((a ^^^ b : Nat) : Int) := bits_xor_nat .u32 32 (by decide) wraps_u32 a b ha hb
theorem xor_i64 (a b : Nat) (ha : a < 4294967296) (hb : b < 4294967296) : bits .xor .i64 a b = ((a ^^^ b : Nat) : Int) := bits_xor_nat .i64 63 (by decide) wraps_i64 a b (by omega) (by omega)
theorem and1_u32 (a : Nat) (ha : a < 4294967296) : bits .and .u32 (a : Int) 1 = (a : Int) % 2 := bits_mask .u32 32 (by decide) wraps_u32 1 (by decide) a (by omega) (by omega)
theorem xor_i64_p {x : Nat} (h : x < 8589934592) : bits .xor .i64 ((x : Int) / 2) 3988292384 = ((x / 2 ^^^ 3988292384 : Nat) : Int) := by
  have e : (3988292384 : Int) = ((3988292384 : Nat) : Int) := by omega
  have e2 : ((x : Int) / 2) = ((x / 2 : Nat) : Int) := by omega
  rw [e, e2]; exact xor_i64 (x / 2) _ (by omega) (by omega)
theorem xor_i64_f {x : Nat} (h : x < 4294967296) : bits .xor .i64 (x : Int) 4294967295 = ((x ^^^ 4294967295 : Nat) : Int) := by
  have e : (4294967295 : Int) = ((4294967295 : Nat) : Int) := by omega
  rw [e]; exact xor_i64 x _ h (by omega)
def crcStep (n : Nat) : Nat := if n % 2 = 1 then (n / 2) ^^^ 3988292384 else n / 2
def crcIter : Nat -> Nat -> Nat | 0, n => n | k + 1, n => crcIter k (crcStep n)
def crcFold (n : Nat) (l : Bytes) : Nat := l.foldl (fun n c => crcIter 8 (n ^^^ c.toNat)) n
def crcN (l : Bytes) : Nat := crcFold 4294967295 l ^^^ 4294967295
theorem xor_lt32 {a b : Nat} (ha : a < 4294967296) (hb : b < 4294967296) : a ^^^ b < 4294967296 := by
  have e : (4294967296 : Nat) = 2 ^ 32 := by decide
  rw [e] at ha hb ⊢
  exact Nat.xor_lt_two_pow ha hb
theorem crcStep_lt {n : Nat} (h : n < 4294967296) : crcStep n < 4294967296 := by
  unfold crcStep; split
  · exact xor_lt32 (by omega) (by omega)
  omega
theorem crcIter_lt (k : Nat) : ∀ {n : Nat}, n < 4294967296 -> crcIter k n < 4294967296 := by
  induction k with
  | zero => intro n h; exact h
  | succ k ih => intro n h; exact ih (crcStep_lt h)
theorem crcIter_succ (k : Nat) : ∀ n, crcIter (k + 1) n = crcStep (crcIter k n) := by
  induction k with
  | zero => intro n; rfl
  | succ k ih => intro n; rw [crcIter, ih]; rfl
theorem crcXor_lt {n : Nat} (h : n < 4294967296) (c : UInt8) : n ^^^ c.toNat < 4294967296 := xor_lt32 h (by have := c.toNat_lt; omega)
theorem crcFold_lt (l : Bytes) : ∀ {n : Nat}, n < 4294967296 -> crcFold n l < 4294967296 := by
  induction l with
  | nil => intro n h; exact h
  | cons c l ih => intro n h; exact ih (crcIter_lt 8 (crcXor_lt h c))
theorem crcN_lt (l : Bytes) : crcN l < 4294967296 := xor_lt32 (crcFold_lt l (by omega)) (by omega)
theorem crcFold_snoc (n : Nat) (l : Bytes) (k : Nat) (h : k < l.length) : crcFold n (l.take (k + 1)) = crcIter 8 (crcFold n (l.take k) ^^^ (l[k]).toNat) := by
  unfold crcFold
  rw [List.take_succ_eq_append_getElem h, List.foldl_append]; rfl
theorem step_u32 {m : Nat} (h : m < 4294967296) : bits .xor .u32 ((m : Int) / 2) (3988292384 * bits .and .u32 (m : Int) 1 % 4294967296) = (crcStep m : Int) := by
  rw [and1_u32 m h]
  unfold crcStep
  by_cases e : m % 2 = 1
  · rw [if_pos e]
    have h2 : (m : Int) % 2 = 1 := by omega
    have : (3988292384 * ((m : Int) % 2) % 4294967296) = ((3988292384 : Nat) : Int) := by rw [h2]; decide
    have e2 : ((m : Int) / 2) = ((m / 2 : Nat) : Int) := by omega
    rw [this, e2, xor_u32 (m / 2) _ (by omega) (by omega)]
  rw [if_neg e]
  have h2 : (m : Int) % 2 = 0 := by omega
  have : (3988292384 * ((m : Int) % 2) % 4294967296) = ((0 : Nat) : Int) := by rw [h2]; decide
  have e2 : ((m : Int) / 2) = ((m / 2 : Nat) : Int) := by omega
  rw [this, e2, xor_u32 (m / 2) 0 (by omega) (by omega), Nat.xor_zero]
theorem step_i64_odd {x : Nat} (hx : x < 4294967296) (h : x % 2 = 1) : bits .xor .i64 ((x : Int) / 2) 3988292384 = (crcStep x : Int) := by
  rw [xor_i64_p (by omega), crcStep, if_pos h]
theorem step_i64_even {x : Nat} (h : ¬ x % 2 = 1) : ((x : Int) / 2) = (crcStep x : Int) := by
  rw [crcStep, if_neg h]; omega
theorem ints_getD (l : Bytes) (k : Nat) (h : k < l.length) : (ints l).getD k 0 = (l[k].toNat : Int) := by
  simp [ints, h]
theorem i_crc (v : Value) (l : Bytes) (w : World) (h : fz w v (ints l)) : Calls Tryz.prog 134 #[v] w fun e w' => e = .returned (.int .i64 (crcN l)) /\ w = w' := by
  obtain ⟨_, hl, a, c, rfl, hc⟩ := h
  rw [ints_length] at hl hc ⊢
  unfold maxLen at hl
  have HC := Lib.hid hc
  clear hc
  go_enter Tryz.func134, Tryz.ntmps134
  go_wp2
  go_loop [3, 8] (fun n i => ∃ (k : Nat), k <= l.length /\ i = .int .i64 k /\ n = .int .u32 (crcFold 4294967295 (l.take k))) (fun _ i => l.length - (intOf i).toNat)
  case atStart => exact ⟨0, by omega, rfl, rfl⟩
  case round =>
    obtain ⟨k, hk, rfl, rfl⟩ := hrel
    by_cases hlt : k < l.length
    · obtain ⟨b, o, rfl, hb, hcc⟩ := HC.out (by intro e; have := congrArg List.length e; simp [ints_length] at this; rw [this] at hlt; simp at hlt)
      have hcell := hcc k (by omega)
      rw [ints_getD l k hlt] at hcell
      have hm := crcFold_lt (l.take k) (n := 4294967295) (by omega)
      have hx := xor_u32 _ _ hm (by have := (l[k]).toNat_lt; omega : (l[k]).toNat < 4294967296)
      have HS := Lib.hid (crcFold_snoc 4294967295 l k hlt)
      have hxl := crcXor_lt hm l[k]
      generalize crcFold 4294967295 (l.take k) = m at *
      generalize (l[k]) = z at *
      clear hcc HC
      have hz := z.toNat_lt
      go_wp2
      go_loop [3, 16] (fun n i => ∃ (j : Nat), j <= 8 /\ i = .int .i64 j /\ n = .int .u32 (crcIter j (m ^^^ z.toNat))) (fun _ i => 8 - (intOf i).toNat)
      case atStart => exact ⟨0, by omega, rfl, by simp only [crcIter]⟩
      case round =>
        obtain ⟨j, hj, rfl, rfl⟩ := hrel
        by_cases hlt : j < 8
        · have HI := Lib.hid (crcIter_succ j (m ^^^ z.toNat))
          have hj2 := crcIter_lt j hxl
          generalize crcIter j (m ^^^ z.toNat) = x at *
          go_wp2
          go_round
          case rel => exact ⟨j + 1, by omega, by go_num, by rw [step_u32 hj2, HI.out]⟩
          case measure => simp [intOf]; omega
        obtain rfl : j = 8 := by omega
        go_wp2
        go_round
        case rel => exact ⟨k + 1, by omega, by go_num, by rw [HS.out]⟩
        case measure => simp [intOf]; omega
    obtain rfl : k = l.length := by omega
    go_wp2
    go_ret
    refine ⟨ret_i ?_, rfl⟩
    have e : IntKind.u32.max = ((4294967295 : Nat) : Int) := by decide
    have hx := crcFold_lt l (n := 4294967295) (by omega)
    have hn := crcN_lt l
    rw [e, xor_u32 _ _ (by omega) hx, Nat.xor_comm]
    show wrap64 (crcN l : Int) = _
    unfold wrap64; omega
theorem s_l07Check (v : Value) (l : Bytes) (w : World) (h : fz w v (ints l)) : Calls Tryz.prog 113 #[v] w fun e w' => e = .returned (.int .i64 (crcN l)) /\ w = w' := by
  obtain ⟨_, hl, a, c, rfl, hc⟩ := h
  rw [ints_length] at hl hc ⊢
  unfold maxLen at hl
  have HC := Lib.hid hc
  clear hc
  go_enter Tryz.func113, Tryz.ntmps113
  go_wp2
  go_loop [3, 4] (fun n i => ∃ (k : Nat), k <= l.length /\ i = .int .i64 k /\ n = .int .i64 (crcFold 4294967295 (l.take k))) (fun _ i => l.length - (intOf i).toNat)
  case atStart => exact ⟨0, by omega, rfl, rfl⟩
  case round =>
    obtain ⟨k, hk, rfl, rfl⟩ := hrel
    by_cases hlt : k < l.length
    · obtain ⟨b, o, rfl, hb, hcc⟩ := HC.out (by intro e; have := congrArg List.length e; simp [ints_length] at this; rw [this] at hlt; simp at hlt)
      have hcell := hcc k (by omega)
      rw [ints_getD l k hlt] at hcell
      have hm := crcFold_lt (l.take k) (n := 4294967295) (by omega)
      have hx := xor_i64 _ _ hm (by have := (l[k]).toNat_lt; omega : (l[k]).toNat < 4294967296)
      have HS := Lib.hid (crcFold_snoc 4294967295 l k hlt)
      have hxl := crcXor_lt hm l[k]
      generalize crcFold 4294967295 (l.take k) = m at *
      generalize (l[k]) = z at *
      clear hcc HC
      have hz := z.toNat_lt
      go_wp2
      go_loop [3, 5] (fun n i => ∃ (j : Nat), j <= 8 /\ i = .int .i64 j /\ n = .int .i64 (crcIter j (m ^^^ z.toNat))) (fun _ i => 8 - (intOf i).toNat)
      case atStart => exact ⟨0, by omega, rfl, by simp only [crcIter]⟩
      case round =>
        obtain ⟨j, hj, rfl, rfl⟩ := hrel
        by_cases hlt : j < 8
        · have HI := Lib.hid (crcIter_succ j (m ^^^ z.toNat))
          have hj2 := crcIter_lt j hxl
          generalize crcIter j (m ^^^ z.toNat) = x at *
          by_cases hodd : x % 2 = 1
          · have ho : (((x : Int) % 2) == 1) = true := by simp; omega
            have hy : bits .xor .i64 ((x : Int) / 2) 3988292384 = (crcStep x : Int) := step_i64_odd hj2 hodd
            have HY := Lib.hid hy
            clear hy hodd
            go_wp2
            go_round
            case rel =>
              refine ⟨j + 1, by omega, by go_num, ?_⟩
              rw [HI.out]
              rw [← HY.out]
            case measure => simp [intOf]; omega
          have ho : (((x : Int) % 2) == 1) = false := by simp; omega
          have hy : ((x : Int) / 2) = (crcStep x : Int) := step_i64_even hodd
          have HY := Lib.hid hy
          clear hy hodd
          go_wp2
          go_round
          case rel =>
            refine ⟨j + 1, by omega, by go_num, ?_⟩
            rw [HI.out]
            rw [← HY.out]
          case measure => simp [intOf]; omega
        obtain rfl : j = 8 := by omega
        go_wp2
        go_round
        case rel => exact ⟨k + 1, by omega, by go_num, by rw [HS.out]⟩
        case measure => simp [intOf]; omega
    obtain rfl : k = l.length := by omega
    go_wp2
    go_ret
    refine ⟨ret_i ?_, rfl⟩
    have hx := crcFold_lt l (n := 4294967295) (by omega)
    exact xor_i64_f hx
def check32 (l : Bytes) : Nat := if l.length <= 65536 then crcN l else 0
theorem i_Check32 (v : Value) (l : Bytes) (w : World) (h : fz w v (ints l)) : Calls Tryz.prog 120 #[v] w fun e w' => e = .returned (.int .i64 (check32 l)) /\ w = w' := by
  have h' := Lib.hid h
  obtain ⟨_, hl, a, c, rfl, hc⟩ := h
  rw [ints_length] at hl h' ⊢
  unfold maxLen at hl
  clear hc
  by_cases hb : l.length <= 65536
  · have e : check32 l = crcN l := by rw [check32, if_pos hb]
    rw [e]
    clear e
    go_enter Tryz.func120, Tryz.ntmps120
    go_wp2_with fail; refine (i_crc _ l _ h'.out).mono ?_; rintro e w' ⟨rfl, rfl⟩
    go_wp2
    go_ret
    exact ⟨rfl, rfl⟩
  have e : check32 l = 0 := by rw [check32, if_neg hb]
  rw [e]
  clear e
  go_enter Tryz.func120, Tryz.ntmps120
  go_wp2
  go_ret
  exact ⟨rfl, rfl⟩
end Go.Proofs.YtifkmkiljpeaaadGreat
end
section
set_option linter.unusedVariables false
set_option linter.unusedSimpArgs false
set_option maxHeartbeats 8000000
namespace Go.Proofs.YtifkmkiljpeaaadGreat
open Go.RowKit
def frameL (r : Bytes) : Bytes := beL r.length 3 ++ beL (check32 (beL r.length 3 ++ r)) 4 ++ r
theorem frameL_length (r : Bytes) : (frameL r).length = 7 + r.length := by simp [frameL, beL_length]; omega
def recAt (t : Bytes) : Int ⊕ Bytes :=
  if t.length < 7 then .inl 18
  else if inB (ff (t.take 3)) 1 20000 = false then .inl 8
  else if t.length < 7 + ff (t.take 3) then .inl 18
  else if (frameL ((t.drop 7).take (ff (t.take 3)))).isPrefixOf t then .inr ((t.drop 7).take (ff (t.take 3)))
  else .inl 8
def recsN : Nat -> Bytes -> List Bytes × Nat × Int
  | 0, _ => ([], 0, 0)
  | k + 1, t => if t = [] then ([], 0, 0) else match recAt t with
    | .inl c => ([], 0, c)
    | .inr r => let x := recsN k (t.drop (7 + r.length)); (r :: x.1, 7 + r.length + x.2.1, x.2.2)
def recs (t : Bytes) : List Bytes × Nat × Int := recsN (t.length + 1) t
theorem recAt_len {t r : Bytes} (h : recAt t = .inr r) : 1 <= r.length /\ r.length <= 20000 /\ 7 + r.length <= t.length := by
  unfold recAt at h
  split at h; · cases h
  split at h; · cases h
  split at h; · cases h
  split at h
  · cases h
    rename_i h1 h2 h3 _
    rw [Bool.not_eq_false, inB_iff] at h2
    simp only [List.length_take, List.length_drop]
    omega
  cases h
theorem recsN_enough (k : Nat) : ∀ (j : Nat) (t : Bytes), t.length < k -> t.length < j -> recsN k t = recsN j t := by
  induction k with
  | zero => intro j t h; omega
  | succ k ih =>
    intro j t hk hj
    obtain ⟨j, rfl⟩ : ∃ i, j = i + 1 := ⟨j - 1, by omega⟩
    simp only [recsN]
    by_cases ht : t = []
    · simp [ht]
    rw [if_neg ht, if_neg ht]
    cases hr : recAt t with
    | inl c => rfl
    | inr r =>
      have := recAt_len hr
      have e := ih j (t.drop (7 + r.length)) (by simp; omega) (by simp; omega)
      simp only [e]
theorem recs_nil : recs [] = ([], 0, 0) := rfl
theorem recs_stop {t : Bytes} {c : Int} (ht : t ≠ []) (h : recAt t = .inl c) : recs t = ([], 0, c) := by
  simp only [recs, recsN, if_neg ht, h]
theorem recs_next {t r : Bytes} (ht : t ≠ []) (h : recAt t = .inr r) : recs t = (r :: (recs (t.drop (7 + r.length))).1, 7 + r.length + (recs (t.drop (7 + r.length))).2.1, (recs (t.drop (7 + r.length))).2.2) := by
  have := recAt_len h
  have e : recsN t.length (t.drop (7 + r.length)) = recs (t.drop (7 + r.length)) := recsN_enough _ _ _ (by simp; omega) (by simp)
  have e2 : recs t = (match recAt t with | .inl c => ([], 0, c) | .inr r => (r :: (recsN t.length (t.drop (7 + r.length))).1, 7 + r.length + (recsN t.length (t.drop (7 + r.length))).2.1, (recsN t.length (t.drop (7 + r.length))).2.2)) := by
    show recsN (t.length + 1) t = _
    rw [recsN, if_neg ht]
  rw [e2, h]
  simp only [e]
end Go.Proofs.YtifkmkiljpeaaadGreat
end
section
set_option linter.unusedVariables false
set_option linter.unusedSimpArgs false
set_option maxHeartbeats 8000000
set_option maxRecDepth 100000
namespace Go.Proofs.YtifkmkiljpeaaadGreat
open Go.RowKit
theorem conv_str (l : Bytes) (w : World) : (convert 9 74 (.string (bs l))).run Tryz.prog w = .ok (.slice (some ⟨w.heap.size, 0, none⟩) (bs l).size (grownCap w (bs l).size 0 5)) (Lib.bytesWorld w 5 (bs l)) :=
  Lib.run_convert_string_bytes w 9 74 5 (bs l) Tryz.underlying9 Tryz.underlying74 Tryz.underlying5
theorem i_recordBytes (r : Bytes) (w : World) (hr : r.length <= 65536) : Calls Tryz.prog 89 #[.string (bs r)] w (RetB (.string (bs (frameL r))) w) := by
  have hcv := conv_str (beL r.length 3 ++ r)
  have hb3 := beL_length r.length 3
  have hb4 := beL_length (check32 (beL r.length 3 ++ r)) 4
  have hs1 : ¬ 9223372036854775807 < 3 + r.length := by omega
  have hs2 : ¬ 9223372036854775807 < 7 + r.length := by omega
  have hs3 : ¬ 9223372036854775807 < 3 + 4 + r.length := by omega
  go_enter Tryz.func89, Tryz.ntmps89
  go_wp2_with fail; refine (i_inBytes3 r.length _).mono ?_; rintro e w1 ⟨rfl, hb1⟩; have hz1 := hb1.size; (try simp only [World.size_alloc, World.size_setCell, World.size_drew, fa] at hz1); (try (have hq1_1 := fun o => hb1.cell (p := ⟨w.heap.size, o, none⟩) (by first | omega | (simp only [World.size_alloc, World.size_setCell, World.size_drew, fa]; omega)); have hr1_1 := fun o => hb1.frozen (p := ⟨w.heap.size, o, none⟩) (by first | omega | (simp only [World.size_alloc, World.size_setCell, World.size_drew, fa]; omega)))); (try (have hl1_1 : w.heap.size < w1.heap.size := (by omega); have hm1_1 : w.heap.size <= w1.heap.size := (by omega); have hn1_1 : ¬ w.heap.size = w1.heap.size := (by omega); have ho1_1 : ¬ w1.heap.size = w.heap.size := (by omega))); (try (have hq1_2 := fun o => hb1.cell (p := ⟨w.heap.size + 1, o, none⟩) (by first | omega | (simp only [World.size_alloc, World.size_setCell, World.size_drew, fa]; omega)); have hr1_2 := fun o => hb1.frozen (p := ⟨w.heap.size + 1, o, none⟩) (by first | omega | (simp only [World.size_alloc, World.size_setCell, World.size_drew, fa]; omega)))); (try (have hl1_2 : w.heap.size + 1 < w1.heap.size := (by omega); have hm1_2 : w.heap.size + 1 <= w1.heap.size := (by omega); have hn1_2 : ¬ w.heap.size + 1 = w1.heap.size := (by omega); have ho1_2 : ¬ w1.heap.size = w.heap.size + 1 := (by omega))); (try (have hq1_3 := fun o => hb1.cell (p := ⟨w.heap.size + 1 + 1, o, none⟩) (by first | omega | (simp only [World.size_alloc, World.size_setCell, World.size_drew, fa]; omega)); have hr1_3 := fun o => hb1.frozen (p := ⟨w.heap.size + 1 + 1, o, none⟩) (by first | omega | (simp only [World.size_alloc, World.size_setCell, World.size_drew, fa]; omega)))); (try (have hl1_3 : w.heap.size + 1 + 1 < w1.heap.size := (by omega); have hm1_3 : w.heap.size + 1 + 1 <= w1.heap.size := (by omega); have hn1_3 : ¬ w.heap.size + 1 + 1 = w1.heap.size := (by omega); have ho1_3 : ¬ w1.heap.size = w.heap.size + 1 + 1 := (by omega))); have hB1 : Below w.heap.size w w1 := (by (repeat (first | exact Below.refl _ _ | (refine Below.alloc ?_ (by first | omega | (simp only [World.size_alloc, World.size_setCell, World.size_drew, fa]; omega)) _) | (refine Below.setCell ?_ (by first | omega | (simp only [World.size_alloc, World.size_setCell, World.size_drew, fa]; omega)) _) | refine Below.drew ?_ | refine below_drewN ?_ _ | (refine Below.trans ?_ (Below.mono (by assumption) (by first | omega | (simp only [World.size_alloc, World.size_setCell, World.size_drew, fa]; omega))))))); have hC1 := (bcell hB1).1; have hF1 := (bcell hB1).2
  go_wp2_with fail
  refine (i_Check32 _ (beL r.length 3 ++ r) _ (fz.conv w1 _ _ _ _ (by simp [maxLen]; omega) (by simp [hb3]))).mono ?_
  rintro e w2 ⟨rfl, rfl⟩
  have hb2 := below_bytesWorld hB1 hB1.size 5 (bs (beL r.length 3 ++ r))
  go_wp2_with fail
  refine (i_inBytes4 _ _).mono ?_
  rintro e w3 ⟨rfl, hb3'⟩
  have hB3 := hb2.trans (hb3'.mono hb2.size)
  go_wp2
  go_ret
  exact retB rfl hB3
theorem beL_get (size : Nat) : ∀ (n k : Nat) (h : k < size), (beL n size)[k]'(by rw [beL_length]; exact h) = UInt8.ofNat (n / 256 ^ (size - 1 - k)) := by
  induction size with
  | zero => intro n k h; omega
  | succ s ih =>
    intro n k h
    simp only [beL, List.getElem_append, beL_length]
    split
    · rename_i hk
      rw [ih _ _ hk, Nat.div_div_eq_div_mul, ← Nat.pow_succ', show (s - 1 - k).succ = s + 1 - 1 - k by omega]
    obtain rfl : k = s := by omega
    simp
theorem ints_be_take (n size k : Nat) (h : k < size) : (ints ((beL n size).take (k + 1))).map (Value.int .u8) = (ints ((beL n size).take k)).map (Value.int .u8) ++ [Value.int .u8 ((n : Int) / 2 ^ (8 * (size - 1 - k)) % 256)] := by
  have hl : k < (beL n size).length := by rw [beL_length]; exact h
  rw [List.take_succ_eq_append_getElem hl, beL_get size n k h]
  simp only [ints, List.map_append, List.map_cons, List.map_nil, UInt8.toNat_ofNat']
  congr 3
  rw [show (256 : Nat) = 2 ^ 8 by decide, ← Nat.pow_mul]
  norm_cast
theorem s_l08Bytes (n size : Nat) (w : World) (hs : size <= 8) : Calls Tryz.prog 80 #[.int .i64 n, .int .i64 size] w fun e w' => ∃ v, e = .returned v /\ fz w' v (ints (beL n size)) /\ Below w.heap.size w w' := by
  obtain ⟨i0, hi, hz0, hz1, hz2⟩ := info_parts info_u8
  go_enter Tryz.func80, Tryz.ntmps80
  go_wp2
  go_loopw [5, 6] (fun v i wr => ∃ (k : Nat), k <= size /\ i = .int .i64 ((size : Int) - 1 - k) /\ wr.ownsRow w.heap.size 5 1 v k ((ints ((beL n size).take k)).map (Value.int .u8)) /\ Below w.heap.size w wr) (fun _ i _ => (intOf i + 1).toNat)
  case atStart => exact ⟨0, by omega, by simp, World.ownsRow_made w #[] 0 (Nat.le_refl _) (by decide) rfl, (Below.refl _ _).alloc (Nat.le_refl _) _⟩
  case round =>
    obtain ⟨k, hk, rfl, hown, hbel⟩ := hrel
    by_cases hlt : k < size
    · have HS := Lib.hid (ints_be_take n size k hlt)
      have hzl := hbel.size
      go_wp2_with (at_builtin; refine wpList_append_own _ rfl _ _ 74 rfl w.heap.size 5 i0 (.int .u8 0) 1 1 Tryz.underlying74 hi hz0 hz1 hz2 rfl (by decide) _ _ _ rfl (hown.alloc _) ⟨wr.heap.size, 0, none⟩ 1 1 [.int .u8 ((n : Int) / 2 ^ (8 * (size - 1 - k)) % 256)] rfl rfl ?c1 ?c2 ?c3 ?c4 ?c5 ?_)
      case c1 =>
        intro j u hj
        match j, hj with
        | 0, hj => simp at hj; subst hj; simp [Addr.add, go_sem]
      case c2 => intro u hu; simp at hu; subst hu; rfl
      case c3 => unfold maxLen; omega
      case c4 => omega
      case c5 => simp; omega
      intro v' w3 hown3 hgrow _
      have hb3 : Below w.heap.size w w3 := ((hbel.alloc (by omega) _).grown hgrow (by simp; omega) (fun g e => (hown.lt g e).1))
      rw [← HS.out] at hown3
      clear HS
      go_wp2
      exact ⟨⟨k + 1, by omega, int_eq (by omega), hown3, hb3⟩, by simp [intOf]; omega⟩
    obtain rfl : k = size := by omega
    go_wp2
    go_ret
    rw [List.take_of_length_le (by rw [beL_length]; omega)] at hown
    have hl : (ints (beL n k)).length = k := by rw [ints_length, beL_length]
    exact ⟨_, rfl, (fz.of_own (zs := ints (beL n k)) (by rw [hl]; exact hown) (ints_range _)).1, hbel⟩
theorem s_l08Frame (r : Bytes) (w : World) (hr : r.length <= 65000) : Calls Tryz.prog 81 #[.string (bs r)] w (RetB (.string (bs (frameL r))) w) := by
  have hcv := conv_str (beL r.length 3 ++ r)
  have hb3 := beL_length r.length 3
  have hb4 := beL_length (crcN (beL r.length 3 ++ r)) 4
  have hs1 : ¬ 9223372036854775807 < 3 + r.length := by omega
  have hs3 : ¬ 9223372036854775807 < 3 + 4 + r.length := by omega
  have hf : bs (frameL r) = bs (beL r.length 3 ++ beL (crcN (beL r.length 3 ++ r)) 4 ++ r) := by rw [frameL, check32, if_pos (by simp [hb3]; omega)]
  rw [hf]
  clear hf
  go_enter Tryz.func81, Tryz.ntmps81
  go_wp2_with fail
  refine (s_l08Bytes r.length 3 _ (by omega)).mono ?_
  rintro e w1 ⟨v1, rfl, hv1, hb1⟩
  have hc1 := conv_bytes (P := Tryz.prog) hv1 74 5 9 Tryz.underlying74 Tryz.underlying5 Tryz.underlying9
  rw [strOf_ints] at hc1
  go_wp2_with fail
  refine (s_l07Check _ (beL r.length 3 ++ r) _ (fz.conv w1 _ _ _ _ (by simp [maxLen]; omega) (by simp [hb3]))).mono ?_
  rintro e w2 ⟨rfl, rfl⟩
  have hb2 := below_bytesWorld hb1 hb1.size 5 (bs (beL r.length 3 ++ r))
  go_wp2_with fail
  refine (s_l08Bytes _ 4 _ (by omega)).mono ?_
  rintro e w3 ⟨v3, rfl, hv3, hb3'⟩
  have hB3 := hb2.trans (hb3'.mono hb2.size)
  have hc3 := conv_bytes (P := Tryz.prog) hv3 74 5 9 Tryz.underlying74 Tryz.underlying5 Tryz.underlying9
  rw [strOf_ints] at hc3
  clear hc1
  go_wp2
  go_ret
  exact retB rfl hB3
end Go.Proofs.YtifkmkiljpeaaadGreat
end
section
set_option linter.unusedVariables false
set_option linter.unusedSimpArgs false
set_option maxHeartbeats 8000000
namespace Go.Proofs.YtifkmkiljpeaaadGreat
open Go.RowKit
theorem i_in (a b c : Int) (w : World) : Calls Tryz.prog 54 #[.int .i64 a, .int .i64 b, .int .i64 c] w fun e w' => e = .returned (.bool (inB a b c)) /\ w = w' := by
  go_enter Tryz.func54, Tryz.ntmps54
  go_wp2
  all_goals (go_ret; exact ⟨ret_b (by simp [inB] <;> omega), rfl⟩)
abbrev logV (r : Int) (d : ByteArray) (s : Int) : Value := .agg #[.int .i64 r, .string d, .int .i64 s]
end Go.Proofs.YtifkmkiljpeaaadGreat
end
section
set_option linter.unusedVariables false
set_option linter.unusedSimpArgs false
set_option maxHeartbeats 8000000
set_option maxRecDepth 100000
namespace Go.Proofs.YtifkmkiljpeaaadGreat
open Go.RowKit
theorem recs_from {d : Bytes} {at_ : Nat} {acc : List Bytes} (h : recs d = (acc ++ (recs (d.drop at_)).1, at_ + (recs (d.drop at_)).2.1, (recs (d.drop at_)).2.2)) {r : Bytes} (hr : recAt (d.drop at_) = .inr r) :
    recs d = ((acc ++ [r]) ++ (recs (d.drop (at_ + (7 + r.length)))).1, at_ + (7 + r.length) + (recs (d.drop (at_ + (7 + r.length)))).2.1, (recs (d.drop (at_ + (7 + r.length)))).2.2) := by
  have hl := recAt_len hr
  rw [h, recs_next (by intro e; rw [e] at hl; simp at hl) hr, List.drop_drop]
  simp only [List.append_assoc, List.singleton_append, Prod.mk.injEq, true_and, Nat.add_assoc, and_self]
theorem recs_at_end {d : Bytes} {at_ : Nat} {acc : List Bytes} (h : recs d = (acc ++ (recs (d.drop at_)).1, at_ + (recs (d.drop at_)).2.1, (recs (d.drop at_)).2.2)) (ht : d.drop at_ = []) : recs d = (acc, at_, 0) := by
  rw [h, ht]; simp [recs_nil]
theorem recs_at_stop {d : Bytes} {at_ : Nat} {acc : List Bytes} (h : recs d = (acc ++ (recs (d.drop at_)).1, at_ + (recs (d.drop at_)).2.1, (recs (d.drop at_)).2.2)) (ht : d.drop at_ ≠ []) {c : Int} (hc : recAt (d.drop at_) = .inl c) : recs d = (acc, at_, c) := by
  rw [h, recs_stop ht hc]; simp
theorem own_lower {w : World} {base base' : Nat} {e : TypeId} {size n : Nat} {v : Value} {xs : List Value} (h : w.ownsRow base e size v n xs) (hb : base' <= base) : w.ownsRow base' e size v n xs := by
  rcases h with ⟨h1, h2 | ⟨g, cap, cur, a, b, c⟩⟩
  · exact ⟨h1, .inl h2⟩
  exact ⟨h1, .inr ⟨g, cap, cur, a, Nat.le_trans hb b, c⟩⟩
def RecsO (d : Bytes) (w : World) (e : Ending) (w' : World) : Prop :=
  ∃ v, e = .returned (.tuple #[v, .int .i64 (recs d).2.1, .int .i64 (recs d).2.2]) /\ w'.ownsRow w.heap.size 9 1 v (recs d).1.length (((recs d).1.map bs).map Value.string) /\ Below w.heap.size w w'
theorem recs_mk {d : Bytes} {w w' : World} {acc : List Bytes} {at_ : Nat} {c : Int} {v : Value} (h : recs d = (acc, at_, c)) (hown : w'.ownsRow (w.heap.size + 1) 9 1 v acc.length ((acc.map bs).map Value.string)) (hb : Below w.heap.size w w') : RecsO d w (.returned (.tuple #[v, .int .i64 at_, .int .i64 c])) w' := by
  refine ⟨v, by rw [h], by rw [h]; exact own_lower hown (by omega), hb⟩
theorem i_recordsO (room sure : Int) (d : Bytes) (w : World) (hd : d.length <= 65000) : Calls Tryz.prog 47 #[logV room (bs d) sure] w (RecsO d w) := by
  obtain ⟨i0, hi, hz0, hz1, hz2⟩ := info_parts info_str
  go_enter Tryz.func47, Tryz.ntmps47
  go_wp2
  go_loopw [5, 6] (fun v i wr => ∃ (acc : List Bytes) (at_ : Nat), i = .int .i64 at_ /\ at_ <= d.length /\ acc.length <= at_ /\ recs d = (acc ++ (recs (d.drop at_)).1, at_ + (recs (d.drop at_)).2.1, (recs (d.drop at_)).2.2) /\
      wr.ownsRow (w.heap.size + 1) 9 1 v acc.length ((acc.map bs).map Value.string) /\ wr.cell? ⟨w.heap.size, 1, none⟩ = some (.string (bs d)) /\ Below w.heap.size w wr) (fun _ i _ => d.length - (intOf i).toNat)
  case atStart => exact ⟨[], 0, rfl, by omega, by simp, by simp, by have := World.ownsRow_made (base := w.heap.size + 1) (size := 1) (e := 9) (w.alloc (.cells #[.int .i64 room, .string (bs d), .int .i64 sure] 32)) #[] 0 (by simp) (by decide) rfl; simpa using this, by simp [go_sem], by (repeat (first | exact Below.refl _ _ | (refine Below.alloc ?_ (by first | omega | (simp only [World.size_alloc, World.size_setCell, World.size_drew, fa]; omega)) _) | (refine Below.setCell ?_ (by first | omega | (simp only [World.size_alloc, World.size_setCell, World.size_drew, fa]; omega)) _) | refine Below.drew ?_ | refine below_drewN ?_ _ | (refine Below.trans ?_ (Below.mono (by assumption) (by first | omega | (simp only [World.size_alloc, World.size_setCell, World.size_drew, fa]; omega))))))⟩
  case round =>
    obtain ⟨acc, at_, rfl, hat, hal, hrec, hown, hcell, hbel⟩ := hrel
    have hzl := hbel.size
    have HR := Lib.hid hrec
    clear hrec
    by_cases hlt : at_ < d.length
    · have hne : d.drop at_ ≠ [] := by intro e; have := congrArg List.length e; simp at this; omega
      by_cases h7 : d.length - at_ < 7
      · have hra : recAt (d.drop at_) = .inl 18 := by unfold recAt; rw [if_pos (by simpa using h7)]
        have hd7 : decide ((↑(d.length - at_) : Int) < 7) = true := by simp; omega
        have HE := Lib.hid (recs_at_stop HR.out hne hra)
        clear hne hra HR
        go_wp2
        go_ret3
        exact recs_mk HE.out hown hbel
      have hd7 : decide ((↑(d.length - at_) : Int) < 7) = false := by simp; omega
      go_wp2_with fail
      refine (i_numberOf _ _ (by simp; omega)).mono ?_
      rintro e w1 ⟨rfl, rfl⟩
      go_wp2_with fail
      refine (i_in _ _ _ _).mono ?_
      rintro e w1 ⟨rfl, rfl⟩
      by_cases hin : inB (ff ((d.drop at_).take 3)) 1 20000 = false
      · have hra : recAt (d.drop at_) = .inl 8 := by unfold recAt; rw [if_neg (by simpa using h7), if_pos hin]
        have HE := Lib.hid (recs_at_stop HR.out hne hra)
        clear hne hra HR
        go_wp2
        go_ret3
        exact recs_mk HE.out hown hbel
      have hin' := Bool.not_eq_false _ ▸ hin
      have hnr := inB_iff.mp hin'
      by_cases hshort : d.length - at_ < 7 + ff ((d.drop at_).take 3)
      · have hra : recAt (d.drop at_) = .inl 18 := by unfold recAt; rw [if_neg (by simpa using h7), if_neg hin, if_pos (by simpa using hshort)]
        have HE := Lib.hid (recs_at_stop HR.out hne hra)
        clear hne hra HR hin
        generalize ff ((d.drop at_).take 3) = n at *
        have hds : decide ((↑(d.length - at_) : Int) < 7 + (n : Int)) = true := by simp; omega
        go_wp2
        go_ret3
        exact recs_mk HE.out hown hbel
      have hra : recAt (d.drop at_) = if (frameL (((d.drop at_).drop 7).take (ff ((d.drop at_).take 3)))).isPrefixOf (d.drop at_) then .inr (((d.drop at_).drop 7).take (ff ((d.drop at_).take 3))) else .inl 8 := by
        unfold recAt; rw [if_neg (by simpa using h7), if_neg hin, if_neg (by simpa using hshort)]
      have HA := Lib.hid hra
      clear hra hin
      generalize ff ((d.drop at_).take 3) = n at *
      have hds : decide ((↑(d.length - at_) : Int) < 7 + (n : Int)) = false := by simp; omega
      have hb1 : (7 : Int) <= 7 + (n : Int) := by omega
      have hb2 : 7 + (n : Int) <= ↑(d.length - at_) := by omega
      have ht : ((d.drop at_).drop 7).take n = List.drop 7 (List.take (7 + n) (List.drop at_ d)) := by rw [List.drop_take]; congr 1; omega
      have hlr : (List.drop 7 (List.take (7 + n) (List.drop at_ d))).length = n := by simp; omega
      have HA' : Hid (recAt (d.drop at_) = if (frameL (List.drop 7 (List.take (7 + n) (List.drop at_ d)))).isPrefixOf (d.drop at_) then .inr (List.drop 7 (List.take (7 + n) (List.drop at_ d))) else .inl 8) := by have := HA.out; rw [ht] at this; exact this
      clear ht HA
      have HN := Lib.hid hne
      clear hne
      go_wp2_with fail
      generalize List.drop 7 (List.take (7 + n) (List.drop at_ d)) = r at *
      have HL := Lib.hid hlr
      clear hlr
      refine (i_recordBytes r _ (by have := HL.out; omega)).mono ?_
      rintro e w1 ⟨rfl, hb1'⟩
      have hzl1 := hb1'.size
      have hcell1 : w1.cell? ⟨w.heap.size, 1, none⟩ = some (.string (bs d)) := by rw [hb1'.cell (p := ⟨w.heap.size, 1, none⟩) (World.block_lt_of_cell? _ _ hcell)]; exact hcell
      have hown1 : w1.ownsRow (w.heap.size + 1) 9 1 u5 acc.length ((acc.map bs).map Value.string) := own_keep hown (Keep.of_below (own := fun _ => False) hb1' (Nat.le_refl _)) (by simp)
      have hbel1 : Below w.heap.size w w1 := hbel.trans (hb1'.mono hzl)
      clear hb1' hown hcell hbel
      go_wp2_with fail
      refine (str_HasPrefix _ _ _ (by simp; omega)).mono ?_
      rintro e w2 ⟨rfl, rfl⟩
      cases hpf : (frameL r).isPrefixOf (d.drop at_) with
      | false =>
        have hra : recAt (d.drop at_) = .inl 8 := by rw [HA'.out, hpf]; rfl
        have HE := Lib.hid (recs_at_stop HR.out HN.out hra)
        clear hra HR HA'
        go_wp2
        go_ret3
        exact recs_mk HE.out hown1 hbel1
      | true =>
        have hra : recAt (d.drop at_) = .inr r := by rw [HA'.out, hpf]; rfl
        have HE := Lib.hid (recs_from HR.out hra)
        clear hra HR HA'
        go_wp2_with (at_builtin; refine wpList_append_own _ rfl _ _ 66 rfl (w.heap.size + 1) 9 i0 (.string ⟨#[]⟩) 1 16 Tryz.underlying66 hi hz0 hz1 hz2 rfl (by decide) _ _ _ rfl (hown1.alloc _) ⟨w1.heap.size, 0, none⟩ 1 1 [.string (bs r)] rfl rfl ?c1 ?c2 ?c3 ?c4 ?c5 ?_)
        case c1 =>
          intro j u hj
          match j, hj with
          | 0, hj => simp at hj; subst hj; simp [Addr.add, go_sem]
        case c2 => intro u hu; simp at hu; subst hu; rfl
        case c3 => unfold maxLen; omega
        case c4 => omega
        case c5 => have := World.block_lt_of_cell? _ _ hcell1; simp at this ⊢; omega
        intro v' w3 hown3 hgrow _
        have hlt3 := World.block_lt_of_cell? _ _ hcell1
        have hb3 : Below w.heap.size w w3 := ((hbel1.alloc (by omega) _).grown hgrow (by simp; omega) (fun g e => by have := (hown1.lt g e).1; omega))
        have hcell3 : w3.cell? ⟨w.heap.size, 1, none⟩ = some (.string (bs d)) := hgrow.cell (by rw [World.cell?_alloc_past _ _ _ hlt3]; exact hcell1) (fun e => by have := (hown1.lt _ e.symm).1; dsimp only at this; omega)
        have hnl := HL.out
        clear hlt3
        go_wp2
        exact ⟨⟨acc ++ [r], at_ + (7 + r.length), int_eq (by omega), by omega, by simp; omega, HE.out, by simpa using hown3, hcell3, hb3⟩, by simp [intOf]; omega⟩
    have hdn : d.drop at_ = [] := List.drop_of_length_le (by omega)
    have HE := Lib.hid (recs_at_end HR.out hdn)
    clear hdn HR
    go_wp2
    go_ret3
    exact recs_mk HE.out hown hbel
end Go.Proofs.YtifkmkiljpeaaadGreat
end
section
set_option linter.unusedVariables false
set_option linter.unusedSimpArgs false
set_option maxHeartbeats 8000000
namespace Go.Proofs.YtifkmkiljpeaaadGreat
open Go.RowKit
theorem fz.src {w : World} {ad : Option Addr} {n c : Nat} {zs : List Int} (h : fz w (.slice ad n c) zs) : n = zs.length /\ ∀ p, ad = some p -> ∀ j u, (zs.map (Value.int .u8))[j]? = some u -> w.cell? (p.add j) = some u := by
  obtain ⟨_, _, a, c', e, hc⟩ := h
  cases e
  refine ⟨rfl, fun p e j u hj => ?_⟩
  have hjl : j < zs.length := by
    rcases Nat.lt_or_ge j zs.length with h | h
    · exact h
    rw [List.getElem?_eq_none (by simpa using h)] at hj; cases hj
  obtain ⟨b, o, e', _, hcc⟩ := hc (by rintro rfl; simp at hjl)
  cases e.symm.trans e'
  rw [List.getElem?_map, List.getElem?_eq_getElem hjl] at hj
  cases hj
  have := hcc j hjl
  rw [List.getD_eq_getElem?_getD, List.getElem?_eq_getElem hjl] at this
  rw [Go.WideShapes.add_plain]
  simpa using this
theorem own_form {w : World} {B : Nat} {e : TypeId} {size : Nat} {v : Value} {n : Nat} {xs : List Value} (h : w.ownsRow B e size v n xs) : ∃ a c, v = .slice a n c := by
  obtain ⟨_, ⟨rfl, rfl⟩ | ⟨g, cap, cur, rfl, _⟩⟩ := h
  · exact ⟨none, 0, rfl⟩
  exact ⟨_, _, rfl⟩
end Go.Proofs.YtifkmkiljpeaaadGreat
end
section
set_option linter.unusedVariables false
set_option linter.unusedSimpArgs false
set_option maxHeartbeats 8000000
set_option maxRecDepth 100000
namespace Go.Proofs.YtifkmkiljpeaaadGreat
open Go.RowKit
abbrev bldPtr (b : Nat) : Value := .pointer (some ⟨b, 0, none⟩)
abbrev IsBld (B b : Nat) (l : Bytes) (w : World) : Prop := Lib.IsBuilder 149 5 B b (Lib.byteCells l) w
theorem bld_info : (Tryz.prog.info? 149).map (·.size) = some 2 := by kernel_rfl
theorem bld_lies : liesAt Tryz.prog Tryz.prog.depth 149 (2 / Tryz.prog.cellsOf 149) 0 149 1 = true := by kernel_rfl
theorem bld_new (B : Nat) (w : World) (hB : B <= w.heap.size) : IsBld B w.heap.size [] (w.alloc (.cells #[.pointer none, .slice none 0 0] 149)) :=
  .inl ⟨hB, .slice none 0 0, by show (w.heap.push _)[w.heap.size]? = _; simp, World.ownsRow_nil _ _ _ _, by simp [Value.ownBlock]⟩
theorem IsBld.keep {own : Nat -> Prop} {B b : Nat} {l : Bytes} {w w' : World} (h : IsBld B b l w) (k : Keep own w w') (hd : ∀ g, B <= g -> ¬ own g) : IsBld B b l w' := by
  have one : ∀ p, Lib.BuilderAt 149 5 B b p (Lib.byteCells l) w -> Lib.BuilderAt 149 5 B b p (Lib.byteCells l) w' := by
    rintro p ⟨hB, v, hb, hown, hne⟩
    have hlt : b < w.heap.size := by
      rcases Nat.lt_or_ge b w.heap.size with h | h
      · exact h
      rw [Array.getElem?_eq_none h] at hb; cases hb
    exact ⟨hB, v, by rw [k.block b hlt (hd b hB)]; exact hb, own_keep hown k hd, hne⟩
  exact h.imp (one _) (one _)
theorem IsBld.below {B b : Nat} {l : Bytes} {w w' : World} (h : IsBld B b l w) (k : Below w.heap.size w w') : IsBld B b l w' :=
  h.keep (own := fun _ => False) (Keep.of_below k (Nat.le_refl _)) (fun _ _ h => h)
end Go.Proofs.YtifkmkiljpeaaadGreat
end
section
namespace Go.Proofs
open Go.Shelf
def Tryz.lays169_ren : Go.Shelf.Ren := ⟨fun | 169 => 129 | n => n, fun | 70 => 147 | 9 => 9 | 0 => 0 | 72 => 149 | 37 => 74 | 127 => 160 | 3 => 3 | 5 => 5 | n => n, fun | n => n⟩
theorem Tryz.lays169 : Go.Proofs.Lays.n169 Tryz.prog Tryz.lays169_ren := {
  mixed := by kernel_rfl
  f169 := Tryz.func129.trans (congrArg some (by kernel_rfl))
  t0 := Tryz.underlying0
  a0 := Tryz.isAgg0
  z0 := Tryz.sizeOf0
  v0 := Tryz.zeroValue0
  t3 := Tryz.underlying3
  a3 := Tryz.isAgg3
  z3 := Tryz.sizeOf3
  v3 := Tryz.zeroValue3
  t9 := Tryz.underlying9
  a9 := Tryz.isAgg9
  z9 := Tryz.sizeOf9
  v9 := Tryz.zeroValue9
  t37 := Tryz.underlying74
  a37 := Tryz.isAgg74
  z37 := Tryz.sizeOf74
  v37 := Tryz.zeroValue74
  t70 := Tryz.underlying147
  a70 := Tryz.isAgg147
  z70 := Tryz.sizeOf147
  v70 := Tryz.zeroValue147
  t72 := Tryz.underlying149
  a72 := Tryz.isAgg149
  z72 := Tryz.sizeOf149
  v72 := Tryz.zeroValue149
  t127 := Tryz.underlying160
  a127 := Tryz.isAgg160
  z127 := Tryz.sizeOf160
  v127 := Tryz.zeroValue160 }
theorem Tryz.Builder_Extra_169 : Builder.Extra Tryz.prog Tryz.lays169_ren := {
  sizeBuilder := by kernel_rfl
  liesBuilder := by kernel_rfl
  t5 := Tryz.underlying5
  a5 := Tryz.isAgg5
  z5 := Tryz.sizeOf5
  v5 := Tryz.zeroValue5
  infoByte := by kernel_rfl
  cellsByte := by kernel_rfl
  sizeByte := by kernel_rfl
  neB5 := by decide }
open Go.RowKit in
theorem Tryz.Builder_String_any (B b : Nat) (l : List UInt8) (w : World) (h : Lib.IsBuilder 149 5 B b (Lib.byteCells l) w) (hBw : B <= w.heap.size) :
    Calls Tryz.prog 129 #[.pointer (some ⟨b, 0, none⟩)] w fun e w' => e = .returned (.string ⟨l.toArray⟩) /\ Below B w w' := Any.Builder_String_any Tryz.lays169 Tryz.Builder_Extra_169 B b l w h hBw
end Go.Proofs
end
