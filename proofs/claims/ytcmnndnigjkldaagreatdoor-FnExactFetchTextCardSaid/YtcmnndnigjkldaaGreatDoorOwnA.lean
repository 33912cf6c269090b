/- Texts laid together: YtcmnndnigjkldaaGreatDoorKit, YtcmnndnigjkldaaGreatDoorGlob, YtcmnndnigjkldaaGreatDoorKeep, YtcmnndnigjkldaaGreatDoorPure. -/
import Derived.WalkKit
import Derived.ProofKit
import Derived.Below
import Derived.Deep.Draws
import Derived.WalkSmall
import Derived.Lib.Hide
import Derived.Test.YtcmnndnigjkldaaGreatDoorWWords
import Derived.Test.YtcmnndnigjkldaaGreatDoorProg
import Derived.Lib.AppendIntMem
import Derived.Laws.BytesArg
import Derived.Lib.ConvBytes
section
set_option linter.unusedVariables false
set_option linter.unusedSimpArgs false
set_option maxHeartbeats 8000000
namespace Go.Proofs.YtcmnndnigjkldaaGreatDoor
open Go.RowKit
theorem size_drewN (w : World) (n : Nat) : (w.drewN n).heap.size = w.heap.size := rfl
theorem ret_b {a b : Bool} (h : a = b) : Ending.returned (.bool a) = .returned (.bool b) := by rw [h]
theorem ret_i {k : IntKind} {a b : Int} (h : a = b) : Ending.returned (.int k a) = .returned (.int k b) := by rw [h]
theorem ret_s {a b : ByteArray} (h : a = b) : Ending.returned (.string a) = .returned (.string b) := by rw [h]
/-- What a world holds at the old places stays readable behind a call that makes memory alone. -/
theorem bcell {W w1 : World} (hb : Below W.heap.size W w1) : (∀ b o, b < W.heap.size → w1.cell? ⟨b, o, none⟩ = W.cell? ⟨b, o, none⟩) ∧ (∀ b o, b < W.heap.size → w1.frozen? ⟨b, o, none⟩ = W.frozen? ⟨b, o, none⟩) :=
  ⟨fun b o h => hb.cell (p := ⟨b, o, none⟩) h, fun b o h => hb.frozen (p := ⟨b, o, none⟩) h⟩
/-- The same, with how large memory is then. -/
theorem bcall {W w1 : World} (hb : Below W.heap.size W w1) : (∀ b o, b < W.heap.size → w1.cell? ⟨b, o, none⟩ = W.cell? ⟨b, o, none⟩) ∧ (∀ b o, b < W.heap.size → w1.frozen? ⟨b, o, none⟩ = W.frozen? ⟨b, o, none⟩) ∧ W.heap.size ≤ w1.heap.size :=
  ⟨fun b o h => hb.cell (p := ⟨b, o, none⟩) h, fun b o h => hb.frozen (p := ⟨b, o, none⟩) h, hb.size⟩
/-- 'It returns v, and has made memory at most': behind a name, so that no walk takes it apart. -/
def RetB (v : Value) (w : World) (e : Ending) (w' : World) : Prop := e = .returned v ∧ Below w.heap.size w w'
theorem retB {v v' : Value} {w w' : World} (h : v' = v) (hb : Below w.heap.size w w') : RetB v w (.returned v') w' := ⟨by rw [h], hb⟩
theorem int_eq {k : IntKind} {a b : Int} (h : a = b) : Value.int k a = .int k b := by rw [h]
theorem bool_eq {a b : Bool} (h : a = b) : Value.bool a = .bool b := by rw [h]
theorem str_eq {a b : ByteArray} (h : a = b) : Value.string a = .string b := by rw [h]
theorem agg2 {a b a' b' : Value} (h : a = a') (k : b = b') : Value.agg #[a, b] = .agg #[a', b'] := by rw [h, k]
theorem agg3 {a b c a' b' c' : Value} (h : a = a') (k : b = b') (l : c = c') : Value.agg #[a, b, c] = .agg #[a', b', c'] := by rw [h, k, l]
theorem tup2 {a b a' b' : Value} (h : a = a') (k : b = b') : Value.tuple #[a, b] = .tuple #[a', b'] := by rw [h, k]
theorem tup3 {a b c a' b' c' : Value} (h : a = a') (k : b = b') (l : c = c') : Value.tuple #[a, b, c] = .tuple #[a', b', c'] := by rw [h, k, l]
@[go_sem] theorem two_max (k k' : IntKind) (x y : Int) (ats : Array TypeId) (ty : TypeId) : Builtin.max_ ats ty #[.int k x, .int k' y] = pure (.int k (max x y)) := by
  simp only [Builtin.max_, List.foldlM_cons, List.foldlM_nil, Builtin.max2, gt_iff_lt]
  have : (if x < y then y else x) = max x y := by omega
  rw [this]; rfl
@[go_sem] theorem two_min (k k' : IntKind) (x y : Int) (ats : Array TypeId) (ty : TypeId) : Builtin.min_ ats ty #[.int k x, .int k' y] = pure (.int k (min x y)) := by
  simp only [Builtin.min_, List.foldlM_cons, List.foldlM_nil, Builtin.min2]
  have : (if y < x then y else x) = min x y := by omega
  rw [this]; rfl
/-- A number lies between two. -/
def inB (n low high : Int) : Bool := decide (low ≤ n) && decide (n ≤ high)
theorem inB_iff {n low high : Int} : inB n low high = true ↔ low ≤ n ∧ n ≤ high := by simp [inB]
theorem inB_no {n low high : Int} : inB n low high = false ↔ n < low ∨ high < n := by
  rw [← Bool.not_eq_true, inB_iff]; omega
end Go.Proofs.YtcmnndnigjkldaaGreatDoor
end
section
set_option linter.unusedVariables false
set_option linter.unusedSimpArgs false
namespace Go.Proofs.YtcmnndnigjkldaaGreatDoor
open Go.RowKit
/-- The library's variables that the proofs read: each is there, with a value of its kind. -/
structure Glob (w : World) : Prop where
  lt : 0 < w.heap.size
  maxLen : ∃ m : Int, w.cell? ⟨0, 0, none⟩ = some (.int .i64 m)
  tab : Lib.TabIs Tryz.prog w "internal/strconv.uint64pow10" .u64 Lib.pow10Tab
theorem Glob.heap {w w' : World} (e : w'.heap = w.heap) (h : Glob w) : Glob w' where
  lt := by rw [e]; exact h.lt
  maxLen := by
    obtain ⟨m, hm⟩ := h.maxLen
    exact ⟨m, by rw [← hm]; exact World.cell?_of_block (w := w) (by rw [e])⟩
  tab := by have ht := h.tab; unfold Lib.TabIs World.var? at ht ⊢; rw [e]; exact ht
theorem Glob.below {w w' : World} (hb : Below w.heap.size w w') (h : Glob w) : Glob w' where
  lt := Nat.lt_of_lt_of_le h.lt hb.size
  maxLen := by
    obtain ⟨m, hm⟩ := h.maxLen
    exact ⟨m, (hb.cell (p := ⟨0, 0, none⟩) h.lt).trans hm⟩
  tab := Lib.tabBelow_of_tabIs h.tab w' hb
theorem Glob.of {w w' : World} (h : Glob w) (e : w'.heap = w.heap) : Glob w' := Glob.heap e h
theorem Glob.on {w w' : World} (h : Glob w) (e : Below w.heap.size w w') : Glob w' := Glob.below e h
theorem nil_beq (l : List UInt8) : (l == []) = l.isEmpty := by cases l <;> rfl
theorem nil_bne (l : List UInt8) : (l != []) = !l.isEmpty := by cases l <;> rfl
end Go.Proofs.YtcmnndnigjkldaaGreatDoor
end
section
set_option linter.unusedVariables false
set_option linter.unusedSimpArgs false
set_option maxHeartbeats 8000000
namespace Go.Proofs.YtcmnndnigjkldaaGreatDoor
open Go.RowKit
@[go_sem] theorem cell_alloc_drewN_at (w : World) (k : Nat) (c : Array Value) (t : TypeId) (i : Nat) : ((w.drewN k).alloc (.cells c t)).cell? ⟨w.heap.size, i, none⟩ = c[i]? := World.cell?_alloc_at _ _ _ _ rfl
@[go_sem] theorem frozen_alloc_drewN_at (w : World) (k : Nat) (c : Array Value) (t : TypeId) (i : Nat) : ((w.drewN k).alloc (.cells c t)).frozen? ⟨w.heap.size, i, none⟩ = false := World.frozen?_alloc_at _ _ _ _ rfl
@[go_sem] theorem cell_alloc_drewN_past (w : World) (k : Nat) (o : Obj) (n i : Nat) (h : n < w.heap.size) : ((w.drewN k).alloc o).cell? ⟨n, i, none⟩ = w.cell? ⟨n, i, none⟩ := World.cell?_alloc_past _ _ _ h
@[go_sem] theorem frozen_alloc_drewN_past (w : World) (k : Nat) (o : Obj) (n i : Nat) (h : n < w.heap.size) : ((w.drewN k).alloc o).frozen? ⟨n, i, none⟩ = w.frozen? ⟨n, i, none⟩ := World.frozen?_alloc_past _ _ _ h
/-- Of what was there only the blocks of 'own' may have turned. -/
structure Keep (own : Nat → Prop) (w w' : World) : Prop where
  os : w'.os = w.os
  tape : w'.tape = w.tape
  output : w'.output = w.output
  size : w.heap.size ≤ w'.heap.size
  block : ∀ k, k < w.heap.size → ¬ own k → w'.heap[k]? = w.heap[k]?
theorem Keep.refl (own : Nat → Prop) (w : World) : Keep own w w := ⟨rfl, rfl, rfl, Nat.le_refl _, fun _ _ _ => rfl⟩
theorem Keep.trans {own : Nat → Prop} {a b c : World} (h : Keep own a b) (k : Keep own b c) : Keep own a c :=
  ⟨k.os.trans h.os, k.tape.trans h.tape, k.output.trans h.output, Nat.le_trans h.size k.size, fun i hi ho => (k.block i (Nat.lt_of_lt_of_le hi h.size) ho).trans (h.block i hi ho)⟩
theorem Keep.mono {own own' : Nat → Prop} {w w' : World} (h : Keep own w w') (m : ∀ k, k < w.heap.size → own k → own' k) : Keep own' w w' :=
  ⟨h.os, h.tape, h.output, h.size, fun k hk ho => h.block k hk (fun hx => ho (m k hk hx))⟩
theorem Keep.of_below {own : Nat → Prop} {B : Nat} {w w' : World} (h : Below B w w') (hB : w.heap.size ≤ B) : Keep own w w' :=
  ⟨h.os, h.tape, h.output, h.size, fun k hk _ => h.block k (Nat.lt_of_lt_of_le hk hB)⟩
theorem Keep.below {own : Nat → Prop} {B : Nat} {w w' : World} (h : Keep own w w') (hB : B ≤ w.heap.size) (m : ∀ k, k < B → ¬ own k) : Below B w w' :=
  ⟨h.os, h.tape, h.output, h.size, fun k hk => h.block k (Nat.lt_of_lt_of_le hk hB) (m k hk)⟩
/-- Behind memory that the call made itself. -/
theorem Keep.after {own : Nat → Prop} {B : Nat} {a b c : World} (h : Below B a b) (k : Keep own b c) (m : ∀ k, k < B → ¬ own k) (hB : B ≤ b.heap.size) : Below B a c := h.trans (k.below hB m)
theorem Keep.cell {own : Nat → Prop} {w w' : World} (h : Keep own w w') {p : Addr} (hp : p.block < w.heap.size) (ho : ¬ own p.block) : w'.cell? p = w.cell? p := World.cell?_of_block (w := w) (h.block p.block hp ho)
theorem Keep.frozen {own : Nat → Prop} {w w' : World} (h : Keep own w w') {p : Addr} (hp : p.block < w.heap.size) (ho : ¬ own p.block) : w'.frozen? p = w.frozen? p := World.frozen?_of_block (w := w) (h.block p.block hp ho)
theorem Keep.alloc {own : Nat → Prop} {a w : World} (h : Keep own a w) (o : Obj) : Keep own a (w.alloc o) :=
  h.trans ⟨rfl, rfl, rfl, by simp, fun k hk _ => Below.heap_alloc _ _ _ hk⟩
theorem Keep.drew {own : Nat → Prop} {a w : World} (h : Keep own a w) : Keep own a w.drew := ⟨h.os, h.tape, h.output, h.size, h.block⟩
theorem Keep.drewN {own : Nat → Prop} {a w : World} (h : Keep own a w) (n : Nat) : Keep own a (w.drewN n) := ⟨h.os, h.tape, h.output, h.size, h.block⟩
theorem Keep.setCell {own : Nat → Prop} {a w : World} (h : Keep own a w) {p : Addr} (hp : own p.block ∨ a.heap.size ≤ p.block) (u : Value) : Keep own a (w.setCell p u) :=
  ⟨h.os, h.tape, h.output, by have := h.size; simp [World.setCell]; omega, fun k hk ho => by
    rw [Below.heap_setCell _ _ _ _ (by rintro rfl; rcases hp with hp | hp; exact ho hp; omega)]; exact h.block k hk ho⟩
/-- 'v' is a slice of bytes that reads as 'zs'. -/
def IsBytes (w : World) (v : Value) (zs : List Int) : Prop :=
  (∀ z ∈ zs, 0 ≤ z ∧ z ≤ 255) ∧ zs.length ≤ maxLen ∧ ∃ (a : Option Addr) (c : Nat), v = .slice a zs.length c ∧ (zs ≠ [] → ∃ b o, a = some ⟨b, o, none⟩ ∧ b < w.heap.size ∧ ∀ i, i < zs.length → w.cell? ⟨b, o + i, none⟩ = some (.int .u8 (zs.getD i 0)))
theorem IsBytes.keep {own : Nat → Prop} {w w' : World} {v : Value} {zs : List Int} (h : IsBytes w v zs) (k : Keep own w w') (hd : ∀ a n c, zs ≠ [] → v = .slice (some a) n c → ¬ own a.block) : IsBytes w' v zs := by
  obtain ⟨h1, h2, a, c, rfl, h3⟩ := h
  refine ⟨h1, h2, a, c, rfl, fun hz => ?_⟩
  obtain ⟨b, o, rfl, hb, hc⟩ := h3 hz
  refine ⟨b, o, rfl, Nat.lt_of_lt_of_le hb k.size, fun i hi => ?_⟩
  have hd' : ¬ own b := hd ⟨b, o, none⟩ _ _ hz rfl
  rw [k.cell (p := ⟨b, o + i, none⟩) hb hd']
  exact hc i hi
theorem IsBytes.below {w w' : World} {v : Value} {zs : List Int} (h : IsBytes w v zs) (k : Below w.heap.size w w') : IsBytes w' v zs :=
  h.keep (own := fun _ => False) (Keep.of_below k (Nat.le_refl _)) (fun _ _ _ _ _ h => h)
theorem IsBytes.lt {w : World} {v : Value} {zs : List Int} (h : IsBytes w v zs) : ∀ a n c, zs ≠ [] → v = .slice (some a) n c → a.block < w.heap.size := by
  obtain ⟨_, _, a, c, rfl, h3⟩ := h
  intro a' n c' hz e
  obtain ⟨b, o, rfl, hb, _⟩ := h3 hz
  cases e
  exact hb
theorem Keep.grown {own : Nat → Prop} {a w w' : World} {row : Option Nat} (h : Keep own a w) (hg : w.grownBy w' row) (hr : ∀ k, row = some k → a.heap.size ≤ k) : Keep own a w' :=
  ⟨hg.os.trans h.os, hg.tape.trans h.tape, hg.output.trans h.output, Nat.le_trans h.size hg.size, fun k hk ho =>
    (hg.block k (Nat.lt_of_lt_of_le hk h.size) (fun e => by have := hr k e.symm; omega)).trans (h.block k hk ho)⟩
theorem own_keep {own : Nat → Prop} {w w' : World} {B : Nat} {e : TypeId} {size : Nat} {v : Value} {n : Nat} {xs : List Value} (h : w.ownsRow B e size v n xs) (k : Keep own w w') (hd : ∀ g, B ≤ g → ¬ own g) : w'.ownsRow B e size v n xs := by
  obtain ⟨h1, h | ⟨g, cap, cur, rfl, hB, hg, r⟩⟩ := h
  · exact ⟨h1, .inl h⟩
  · have hlt : g < w.heap.size := by
      rcases Nat.lt_or_ge g w.heap.size with h | h
      · exact h
      · rw [Array.getElem?_eq_none h] at hg; cases hg
    exact ⟨h1, .inr ⟨g, cap, cur, rfl, hB, by rw [k.block g hlt (hd g hB)]; exact hg, r⟩⟩
/-- A row of one's own that reads as bytes. -/
theorem IsBytes.of_own {w : World} {B : Nat} {e : TypeId} {v : Value} {zs : List Int} (h : w.ownsRow B e 1 v zs.length (zs.map (Value.int .u8))) (hz : ∀ z ∈ zs, 0 ≤ z ∧ z ≤ 255) : IsBytes w v zs ∧ ∀ a n c, v = .slice (some a) n c → B ≤ a.block := by
  obtain ⟨_, h | ⟨g, cap, cur, rfl, hB, hg, hn, hc, hs, ht⟩⟩ := h
  · obtain ⟨rfl, h0⟩ := h
    obtain rfl := List.eq_nil_of_length_eq_zero h0
    exact ⟨⟨by simp, by simp, none, 0, rfl, fun h => absurd rfl h⟩, by simp⟩
  · have hlt : g < w.heap.size := by
      rcases Nat.lt_or_ge g w.heap.size with h | h
      · exact h
      · rw [Array.getElem?_eq_none h] at hg; cases hg
    refine ⟨⟨hz, by omega, some ⟨g, 0, none⟩, cap, rfl, fun _ => ⟨g, 0, rfl, hlt, fun i hi => ?_⟩⟩, by simp; omega⟩
    simp only [World.cell?, hg]
    have : (cur.toList.take (zs.length * 1))[i]? = some (.int .u8 (zs.getD i 0)) := by rw [ht]; simp [List.getElem?_eq_getElem hi]
    rw [List.getElem?_take, if_pos (by omega)] at this
    simpa using this
theorem foldl_bytes (ns : List Int) : ∀ r : ByteArray, (ns.foldl (fun r n => r.push (UInt8.ofNat n.toNat)) r).data.toList = r.data.toList ++ ns.map fun n => UInt8.ofNat n.toNat := by
  induction ns with
  | nil => intro r; simp
  | cons n ns ih => intro r; rw [List.foldl_cons, ih]; simp [ByteArray.push]
theorem byteArray_ext {a b : ByteArray} (h : a.data.toList = b.data.toList) : a = b := by
  cases a; cases b; simp only [ByteArray.mk.injEq]; exact Array.toList_inj.mp h
/-- A slice of bytes as a string. -/
theorem conv_bytes {P : Program} {w : World} {v : Value} {zs : List Int} (h : IsBytes w v zs) (src e dst : TypeId) (hs : P.underlying src = some (.slice e)) (he : P.underlying e = some (.int .u8)) (hd : P.underlying dst = some .string) :
    (convert src dst v).run P w = .ok (.string (strOfNums zs)) w := by
  obtain ⟨_, _, a, c, rfl, hc⟩ := h
  by_cases hz : zs = []
  · subst hz
    cases a with
    | none => exact run_convert_bytes_nil _ src e hs he _ _ dst hd
    | some a =>
      rw [run_convert_bytes_string w src dst e _ _ c hs he hd]
      exact run_bytesToString w a 0 c [] (run_loadCells_list w a [] (by simp))
  · obtain ⟨b, o, rfl, _, hcell⟩ := hc hz
    exact run_convert_bytes_arg _ src e hs he b o zs.length c zs rfl hcell dst hd
/-- 'v' is a slice of strings that reads as 'l'. -/
def IsStrs (w : World) (v : Value) (l : List ByteArray) : Prop :=
  l.length ≤ maxLen ∧ ∃ (a : Option Addr) (c : Nat), v = .slice a l.length c ∧ (l ≠ [] → ∃ b o, a = some ⟨b, o, none⟩ ∧ b < w.heap.size ∧ ∀ (i : Nat) t, l[i]? = some t → w.cell? ⟨b, o + i, none⟩ = some (.string t))
theorem IsStrs.keep {own : Nat → Prop} {w w' : World} {v : Value} {l : List ByteArray} (h : IsStrs w v l) (k : Keep own w w') (hd : ∀ a n c, v = .slice (some a) n c → ¬ own a.block) : IsStrs w' v l := by
  obtain ⟨h2, a, c, rfl, h3⟩ := h
  refine ⟨h2, a, c, rfl, fun hz => ?_⟩
  obtain ⟨b, o, rfl, hb, hc⟩ := h3 hz
  refine ⟨b, o, rfl, Nat.lt_of_lt_of_le hb k.size, fun i t hi => ?_⟩
  have hd' : ¬ own b := hd ⟨b, o, none⟩ _ _ rfl
  rw [k.cell (p := ⟨b, o + i, none⟩) hb hd']
  exact hc i t hi
theorem IsStrs.below {w w' : World} {v : Value} {l : List ByteArray} (h : IsStrs w v l) (k : Below w.heap.size w w') : IsStrs w' v l :=
  h.keep (own := fun _ => False) (Keep.of_below k (Nat.le_refl _)) (fun _ _ _ _ h => h)
/-- A row of bytes that was made just now. -/
theorem IsBytes.new (w : World) (zs : List Int) (cs : Array Value) (e : TypeId) (n c : Nat) (hz : ∀ z ∈ zs, 0 ≤ z ∧ z ≤ 255) (hl : zs.length ≤ maxLen) (hc : cs = (zs.map (Value.int .u8)).toArray) (hn : n = zs.length) : IsBytes (w.alloc (.cells cs e)) (.slice (some ⟨w.heap.size, 0, none⟩) n c) zs := by
  subst hc hn
  refine ⟨hz, hl, some ⟨w.heap.size, 0, none⟩, c, rfl, fun _ => ⟨w.heap.size, 0, rfl, by simp, fun i hi => ?_⟩⟩
  rw [World.cell?_alloc_at _ _ _ _ rfl]
  simp [hi]
theorem below_bytesWorld {B : Nat} {a w : World} (h : Below B a w) (hB : B ≤ w.heap.size) (e : TypeId) (s : ByteArray) : Below B a (Lib.bytesWorld w e s) := by
  have hw : Below w.heap.size w (Lib.bytesWorld w e s) := ⟨rfl, rfl, rfl, by rw [Lib.bytesWorld_size]; omega, fun k hk => Lib.bytesWorld_at_old w e s k hk⟩
  exact h.trans (hw.mono hB)
/-- A row of texts that was made just now. -/
theorem IsStrs.new (w : World) (l : List ByteArray) (cs : Array Value) (e : TypeId) (n c : Nat) (hl : l.length ≤ maxLen) (hc : cs = (l.map Value.string).toArray) (hn : n = l.length) : IsStrs (w.alloc (.cells cs e)) (.slice (some ⟨w.heap.size, 0, none⟩) n c) l := by
  subst hc hn
  refine ⟨hl, some ⟨w.heap.size, 0, none⟩, c, rfl, fun _ => ⟨w.heap.size, 0, rfl, by simp, fun i t hi => ?_⟩⟩
  rw [World.cell?_alloc_at _ _ _ _ rfl]
  simp [hi]
/-- A row of one's own that reads as texts. -/
theorem IsStrs.of_own {w : World} {B : Nat} {e : TypeId} {v : Value} {l : List ByteArray} (h : w.ownsRow B e 1 v l.length (l.map Value.string)) : IsStrs w v l ∧ ∀ a n c, v = .slice (some a) n c → B ≤ a.block := by
  obtain ⟨_, h | ⟨g, cap, cur, rfl, hB, hg, hn, hc, hs, ht⟩⟩ := h
  · obtain ⟨rfl, h0⟩ := h
    obtain rfl := List.eq_nil_of_length_eq_zero h0
    exact ⟨⟨by simp, none, 0, rfl, fun h => absurd rfl h⟩, by simp⟩
  · have hlt : g < w.heap.size := by
      rcases Nat.lt_or_ge g w.heap.size with h | h
      · exact h
      · rw [Array.getElem?_eq_none h] at hg; cases hg
    refine ⟨⟨by omega, some ⟨g, 0, none⟩, cap, rfl, fun _ => ⟨g, 0, rfl, hlt, fun i t hi => ?_⟩⟩, by simp; omega⟩
    simp only [World.cell?, hg]
    have hil : i < l.length := by
      rcases Nat.lt_or_ge i l.length with h | h
      · exact h
      · rw [List.getElem?_eq_none h] at hi; cases hi
    have : (cur.toList.take (l.length * 1))[i]? = some (.string t) := by rw [ht]; simp [hi]
    rw [List.getElem?_take, if_pos (by omega)] at this
    simpa using this
end Go.Proofs.YtcmnndnigjkldaaGreatDoor
end
section
set_option linter.unusedVariables false
set_option linter.unusedSimpArgs false
namespace Go.Proofs.YtcmnndnigjkldaaGreatDoor
open Go.RowKit
abbrev Bytes := List UInt8
/-- The text of bytes. -/
def bs (l : Bytes) : ByteArray := ⟨l.toArray⟩
theorem bs_data (l : Bytes) : (bs l).data.toList = l := rfl
theorem bs_of (t : ByteArray) : bs t.data.toList = t := byteArray_ext rfl
theorem bs_ex (t : ByteArray) : ∃ l, t = bs l := ⟨_, (bs_of t).symm⟩
theorem bs_inj {a b : Bytes} (h : bs a = bs b) : a = b := by have := congrArg (fun t : ByteArray => t.data.toList) h; exact this
theorem bs_eq {a b : Bytes} : bs a = bs b ↔ a = b := ⟨bs_inj, fun h => by rw [h]⟩
@[simp, go_sem] theorem bs_size (l : Bytes) : (bs l).size = l.length := by simp [bs, ByteArray.size]
@[go_sem] theorem bs_append (a b : Bytes) : bs a ++ bs b = bs (a ++ b) := byteArray_ext (by simp [bs])
theorem extract_list (t : ByteArray) (a b : Nat) : (t.extract a b).data.toList = (t.data.toList.take b).drop a := by
  rw [ByteArray.data_extract, Array.toList_extract, List.extract_eq_take_drop, List.drop_take]
@[go_sem] theorem bs_extract (l : Bytes) (a b : Nat) : (bs l).extract a b = bs ((l.take b).drop a) := byteArray_ext (by rw [extract_list]; rfl)
@[go_sem] theorem bs_getElem (l : Bytes) (k : Nat) (h : k < (bs l).size) : (bs l)[k]'h = l[k]'(by simpa using h) := by
  show (bs l).data[k] = _
  simp [bs]
@[go_sem] theorem bs_toList (l : Bytes) : (bs l).toList = l := ByteArray.toList_eq _
theorem prefix_take (p s : Bytes) (h : p.length ≤ s.length) : (s.take p.length == p) = p.isPrefixOf s := by
  rw [Bool.eq_iff_iff, beq_iff_eq, List.isPrefixOf_iff_prefix, List.prefix_iff_eq_take]
  exact ⟨fun h => h.symm, fun h => h.symm⟩
theorem bs_nil : (⟨#[]⟩ : ByteArray) = bs [] := rfl
/-- Bytes as whole numbers. -/
def ints (l : Bytes) : List Int := l.map fun c => (c.toNat : Int)
theorem ints_length (l : Bytes) : (ints l).length = l.length := by simp [ints]
theorem ints_range (l : Bytes) : ∀ z ∈ ints l, 0 ≤ z ∧ z ≤ 255 := by
  intro z hz
  obtain ⟨c, _, rfl⟩ := List.mem_map.1 hz
  have := c.toNat_lt; omega
theorem strOf_ints (l : Bytes) : strOfNums (ints l) = bs l := byteArray_ext (by
  simp only [strOfNums_data, ints, List.map_map, bs_data]
  exact (List.map_congr_left (g := id) (fun c _ => by simp)).trans (List.map_id l))
theorem ints_ex {zs : List Int} (h : ∀ z ∈ zs, 0 ≤ z ∧ z ≤ 255) : ∃ l, zs = ints l := by
  refine ⟨zs.map fun z => UInt8.ofNat z.toNat, ?_⟩
  simp only [ints, List.map_map]
  symm
  rw [List.map_congr_left (g := id), List.map_id]
  intro z hz
  have := h z hz
  simp only [Function.comp, id, UInt8.toNat_ofNat']
  omega
/-- What the conversion of a text to bytes gives. -/
theorem IsBytes.conv (w : World) (e : TypeId) (l : Bytes) (n c : Nat) (hl : l.length ≤ maxLen) (hn : n = l.length) : IsBytes (Lib.bytesWorld w e (bs l)) (.slice (some ⟨w.heap.size, 0, none⟩) n c) (ints l) := by
  subst hn
  refine ⟨ints_range l, by rw [ints_length]; exact hl, some ⟨w.heap.size, 0, none⟩, c, by rw [ints_length], fun _ => ⟨w.heap.size, 0, rfl, by rw [Lib.bytesWorld_size]; omega, fun i hi => ?_⟩⟩
  rw [ints_length] at hi
  rw [Nat.zero_add, Lib.bytesWorld_cell w e (bs l) i (by simpa using hi)]
  simp [ints, hi, bs_data]
end Go.Proofs.YtcmnndnigjkldaaGreatDoor
end
