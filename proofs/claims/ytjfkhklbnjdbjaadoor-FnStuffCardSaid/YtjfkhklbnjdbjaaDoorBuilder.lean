/- strings.Builder in a block of the call's own: what its methods do to it. -/
import Derived.Test.YtjfkhklbnjdbjaaDoorRows
import Derived.Test.YtjfkhklbnjdbjaaDoorAppend
import Derived.Test.YtjfkhklbnjdbjaaDoorStrs
import Derived.Lib.Builder
import Derived.Outline
set_option linter.unusedVariables false
set_option linter.unusedSimpArgs false
set_option maxHeartbeats 8000000
set_option maxRecDepth 100000
namespace Go.Proofs.YtjfkhklbnjdbjaaDoor
open Go.RowKit

abbrev bldPtr (b : Nat) : Value := .pointer (some ⟨b, 0, none⟩)
/-- A builder of bytes at block b, one of the call's own from B on. -/
abbrev IsBld (B b : Nat) (l : Bytes) (w : World) : Prop := Lib.IsBuilder 36 5 B b (Lib.byteCells l) w

theorem bld_info : (Tryd.prog.info? 36).map (·.size) = some 2 := by kernel_rfl
theorem bld_lies : liesAt Tryd.prog Tryd.prog.depth 36 (2 / Tryd.prog.cellsOf 36) 0 36 1 = true := by kernel_rfl

theorem bld_copyCheck (B b : Nat) (l : List Value) (w : World) (h : Lib.IsBuilder 36 5 B b l w) :
    Calls Tryd.prog 27 #[bldPtr b] w fun e w' => e = .returned (.tuple #[]) ∧ (Lib.BuilderAt 36 5 B b (bldPtr b) l w' ∧ Below B w w') := by
  obtain ⟨j, hj, hjs⟩ := Option.map_eq_some_iff.1 bld_info
  rcases h with h | h
  · have h0 := h.cell0
    have hsh := h.shape
    have hfz := h.frozen0
    go_enter Tryd.func27, Tryd.ntmps27
    go_wp2
    rw [Lib.run_to_unsafe w ⟨b, 0, none⟩ Tryd.underlying34 Tryd.underlying53 hj (by rw [hjs]; decide) hsh (Nat.zero_lt_succ 1)]
    simp only [Result.andThen]
    rw [Oper.upon_value]
    go_wp2
    rw [run_callFunc_extern Tryd.func34 (by kernel_rfl) (by kernel_rfl) (by kernel_rfl) (e := Extern.AbiNoEscape.same) (by kernel_rfl)]
    rw [Lib.run_noEscape]
    simp only [Result.andThen]
    rw [Oper.upon_value]
    go_wp2
    rw [Lib.run_from_unsafe w ⟨b, 0, none⟩ Tryd.underlying53 Tryd.underlying34 hj hsh bld_lies]
    simp only [Result.andThen]
    rw [Oper.upon_value]
    go_wp2
    go_end0
    exact ⟨rfl, h.used _, (Below.refl B w).setCell (p := ⟨b, 0, none⟩) h.1 _⟩
  · have h0 := h.cell0
    go_enter Tryd.func27, Tryd.ntmps27
    go_wp2
    rw [Lib.run_neq_ptr_same w _ Tryd.underlying34 hj]
    go_wp2
    go_end0
    exact ⟨rfl, h, Below.refl B _⟩
theorem strCells_bs (l : Bytes) : Lib.strCells (bs l) = Lib.byteCells l := by
  simp [Lib.strCells, Lib.byteCells, bs_data]
theorem byteCells_append (a b : Bytes) : Lib.byteCells (a ++ b) = Lib.byteCells a ++ Lib.byteCells b := by simp [Lib.byteCells]
theorem byteCells_length (l : Bytes) : (Lib.byteCells l).length = l.length := by simp [Lib.byteCells]

/-- More bytes are written. -/
theorem bld_WriteString (B b : Nat) (l s : Bytes) (w : World) (h : IsBld B b l w) (hlen : l.length + s.length ≤ 140737488355328) (hBw : B ≤ w.heap.size) :
    Calls Tryd.prog 20 #[bldPtr b, .string (bs s)] w fun e w' => e = .returned (.tuple #[.int .i64 s.length, .nilIface]) ∧ IsBld B b (l ++ s) w' ∧ Below B w w' := by
  obtain ⟨i0, hi, hz0, hz1, hz2⟩ := info_parts info_u8
  go_enter Tryd.func20, Tryd.ntmps20
  go_wp2_with fail
  refine (bld_copyCheck B b _ _ h).mono ?_
  rintro e w1 ⟨rfl, ⟨hB, v, hbk, hown, hne⟩, hb1⟩
  have hz := hb1.size
  have c0 : w1.cell? ⟨b, 0, none⟩ = some (bldPtr b) := by rw [Lib.cell_of_heap hbk]; rfl
  have c1 : w1.cell? ⟨b, 1, none⟩ = some v := by rw [Lib.cell_of_heap hbk]; rfl
  have hlb := byteCells_length l
  go_wp2_with (at_builtin; refine Lib.wpList_append_own_string _ rfl _ _ 25 9 rfl B 5 i0 Tryd.underlying25 Tryd.underlying9 hi hz0 hz1 hz2 _ _ _ rfl hown (bs s) rfl ?c3 ?c4 ?c5 ?_)
  case c3 => rw [hlb, bs_size]; unfold maxLen; omega
  case c4 => rw [hlb, bs_size]; omega
  case c5 => omega
  intro v' w2 hown' hgrow _
  have hlt : b < w1.heap.size := World.block_lt_of_cell? _ _ c0
  have hb2 : w2.heap[b]? = some (.cells #[bldPtr b, v] 36 (0, 0)) := by
    rw [hgrow.block b hlt (fun e => hne e.symm)]; exact hbk
  have d0 : w2.cell? ⟨b, 0, none⟩ = some (bldPtr b) := by rw [Lib.cell_of_heap hb2]; rfl
  have d1 : w2.cell? ⟨b, 1, none⟩ = some v := by rw [Lib.cell_of_heap hb2]; rfl
  have f1 : w2.frozen? ⟨b, 1, none⟩ = false := Lib.frozen_of_heap hb2 1
  obtain ⟨ao, cap, rfl⟩ := own_form hown'
  go_wp2
  go_ret2
  refine ⟨rfl, .inr ?_, (hb1.grown hgrow (by omega) (fun k hk => (hown.lt k hk).1)).setCell (p := ⟨b, 1, none⟩) hB _⟩
  refine Lib.BuilderAt.put (T := 36) (e := 5) hB hb2 (bs' := Lib.byteCells (l ++ s)) ?_ (by decide)
  rw [byteCells_append, ← strCells_bs s]
  simpa [Lib.strCells_length, hlb] using hown'

/-- A new builder. -/
theorem bld_new (B : Nat) (w : World) (hB : B ≤ w.heap.size) : IsBld B w.heap.size [] (w.alloc (.cells #[.pointer none, .slice none 0 0] 36)) :=
  .inl ⟨hB, .slice none 0 0, by show (w.heap.push _)[w.heap.size]? = _; simp, World.ownsRow_nil _ _ _ _, by simp [Value.ownBlock]⟩

theorem IsBld.keep {own : Nat → Prop} {B b : Nat} {l : Bytes} {w w' : World} (h : IsBld B b l w) (k : Keep own w w') (hd : ∀ g, B ≤ g → ¬ own g) : IsBld B b l w' := by
  have one : ∀ p, Lib.BuilderAt 36 5 B b p (Lib.byteCells l) w → Lib.BuilderAt 36 5 B b p (Lib.byteCells l) w' := by
    rintro p ⟨hB, v, hb, hown, hne⟩
    have hlt : b < w.heap.size := by
      rcases Nat.lt_or_ge b w.heap.size with h | h
      · exact h
      · rw [Array.getElem?_eq_none h] at hb; cases hb
    exact ⟨hB, v, by rw [k.block b hlt (hd b hB)]; exact hb, own_keep hown k hd, hne⟩
  exact h.imp (one _) (one _)
theorem IsBld.below {B b : Nat} {l : Bytes} {w w' : World} (h : IsBld B b l w) (k : Below w.heap.size w w') : IsBld B b l w' :=
  h.keep (own := fun _ => False) (Keep.of_below k (Nat.le_refl _)) (fun _ _ h => h)

end Go.Proofs.YtjfkhklbnjdbjaaDoor
