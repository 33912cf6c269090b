/- Contracts of functions that a statement reaches (wip/x/xprint.py, short.py, compact.py). -/
import Derived.Test.YtbikfhccfenkdaaPFnExactEngineOKx0
import Derived.Test.YtbikfhccfenkdaaPFnExactEngineOKx1
namespace Go.Proofs.Ytbikfhccfenkdaa.PFnExactEngineOK
open Go.RowKit Go.Proofs.YtbikfhccfenkdaaW.PrintWords Go.Proofs.YtbikfhccfenkdaaW.PrintLast Go.Proofs.YtbikfhccfenkdaaW.PrintMore Go.Proofs.Ytbikfhccfenkdaa.Mac
attribute [local go_sem] max2_int min2_int max_two min_two max_three min_three max_four min_four
set_option linter.unusedVariables false
set_option linter.unusedSimpArgs false

attribute [local go_sem high] eqA71
/-! ### spec_l09Same: function 15 -/
mutual
def spec_l09Same.l0 : Nat → List (S59) → List (S59) → Int → Option (Bool)
 | 0, _, _, _ => none
 | k + 1, x0, x1, x5 => if x5 < (x0.length : Int) then (if 0 ≤ x5 then (if x5 < (x1.length : Int) then (if ((rd_T59 x0 x5).f0).toList = ((rd_T59 x1 x5).f0).toList then (if ((rd_T59 x0 x5).f1) = ((rd_T59 x1 x5).f1) then (if ((rd_T59 x0 x5).f2) = ((rd_T59 x1 x5).f2) then (if (((rd_T59 x0 x5).f3).length : Int) = (((rd_T59 x1 x5).f3).length : Int) then (spec_l09Same.j1 k x0 x1 x5 ((((rd_T59 x0 x5).f4).length : Int) != (((rd_T59 x1 x5).f4).length : Int)) ((rd_T59 x0 x5).f0) ((rd_T59 x0 x5).f1) ((rd_T59 x0 x5).f2) ((rd_T59 x0 x5).f3) ((rd_T59 x0 x5).f4) ((rd_T59 x1 x5).f0) ((rd_T59 x1 x5).f1) ((rd_T59 x1 x5).f2) ((rd_T59 x1 x5).f3) ((rd_T59 x1 x5).f4)) else (spec_l09Same.j1 k x0 x1 x5 true ((rd_T59 x0 x5).f0) ((rd_T59 x0 x5).f1) ((rd_T59 x0 x5).f2) ((rd_T59 x0 x5).f3) ((rd_T59 x0 x5).f4) ((rd_T59 x1 x5).f0) ((rd_T59 x1 x5).f1) ((rd_T59 x1 x5).f2) ((rd_T59 x1 x5).f3) ((rd_T59 x1 x5).f4))) else (spec_l09Same.j1 k x0 x1 x5 true ((rd_T59 x0 x5).f0) ((rd_T59 x0 x5).f1) ((rd_T59 x0 x5).f2) ((rd_T59 x0 x5).f3) ((rd_T59 x0 x5).f4) ((rd_T59 x1 x5).f0) ((rd_T59 x1 x5).f1) ((rd_T59 x1 x5).f2) ((rd_T59 x1 x5).f3) ((rd_T59 x1 x5).f4))) else (spec_l09Same.j1 k x0 x1 x5 true ((rd_T59 x0 x5).f0) ((rd_T59 x0 x5).f1) ((rd_T59 x0 x5).f2) ((rd_T59 x0 x5).f3) ((rd_T59 x0 x5).f4) ((rd_T59 x1 x5).f0) ((rd_T59 x1 x5).f1) ((rd_T59 x1 x5).f2) ((rd_T59 x1 x5).f3) ((rd_T59 x1 x5).f4))) else (spec_l09Same.j1 k x0 x1 x5 true ((rd_T59 x0 x5).f0) ((rd_T59 x0 x5).f1) ((rd_T59 x0 x5).f2) ((rd_T59 x0 x5).f3) ((rd_T59 x0 x5).f4) ((rd_T59 x1 x5).f0) ((rd_T59 x1 x5).f1) ((rd_T59 x1 x5).f2) ((rd_T59 x1 x5).f3) ((rd_T59 x1 x5).f4))) else (none)) else (none)) else (some true)
def spec_l09Same.j1 : Nat → List (S59) → List (S59) → Int → Bool → ByteArray → Int → Int → List (S71) → List ByteArray → ByteArray → Int → Int → List (S71) → List ByteArray → Option (Bool)
 | 0, _, _, _, _, _, _, _, _, _, _, _, _, _, _ => none
 | k + 1, x0, x1, x5, x65, x219000, x219001, x219002, x219003, x219004, x221000, x221001, x221002, x221003, x221004 => if x65 = true then (some false) else (spec_l09Same.l1 k x0 x1 x5 0 x219000 x219001 x219002 x219003 x219004 x221000 x221001 x221002 x221003 x221004)
def spec_l09Same.l1 : Nat → List (S59) → List (S59) → Int → Int → ByteArray → Int → Int → List (S71) → List ByteArray → ByteArray → Int → Int → List (S71) → List ByteArray → Option (Bool)
 | 0, _, _, _, _, _, _, _, _, _, _, _, _, _, _ => none
 | k + 1, x0, x1, x5, x8, x219000, x219001, x219002, x219003, x219004, x221000, x221001, x221002, x221003, x221004 => if x8 < (x219003.length : Int) then (if 0 ≤ x8 then (if x8 < (x221003.length : Int) then (if (!(((rd_T71 x219003 x8).f0) == ((rd_T71 x221003 x8).f0)) || (!(((rd_T71 x219003 x8).f1) == ((rd_T71 x221003 x8).f1)) || (!((((rd_T71 x219003 x8).f2).toList) == (((rd_T71 x221003 x8).f2).toList))))) = true then (some false) else (spec_l09Same.l1 k x0 x1 x5 (wrap64 (x8 + 1)) x219000 x219001 x219002 x219003 x219004 x221000 x221001 x221002 x221003 x221004)) else (none)) else (none)) else (spec_l09Same.l2 k x0 x1 x5 0 x219000 x219001 x219002 x219003 x219004 x221000 x221001 x221002 x221003 x221004)
def spec_l09Same.l2 : Nat → List (S59) → List (S59) → Int → Int → ByteArray → Int → Int → List (S71) → List ByteArray → ByteArray → Int → Int → List (S71) → List ByteArray → Option (Bool)
 | 0, _, _, _, _, _, _, _, _, _, _, _, _, _, _ => none
 | k + 1, x0, x1, x5, x9, x219000, x219001, x219002, x219003, x219004, x221000, x221001, x221002, x221003, x221004 => if x9 < (x219004.length : Int) then (if 0 ≤ x9 then (if x9 < (x221004.length : Int) then (if (rdOf ByteArray.empty x219004 x9).toList = (rdOf ByteArray.empty x221004 x9).toList then (spec_l09Same.l2 k x0 x1 x5 (wrap64 (x9 + 1)) x219000 x219001 x219002 x219003 x219004 x221000 x221001 x221002 x221003 x221004) else (some false)) else (none)) else (none)) else (spec_l09Same.l0 k x0 x1 (wrap64 (x5 + 1)))
end
def spec_l09Same.f (k : Nat) (l0 : List (S59)) (l1 : List (S59)) : Option (Bool) := if (l0.length : Int) = (l1.length : Int) then (spec_l09Same.l0 k l0 l1 0) else (some false)
theorem spec_l09Same.mono_l : ∀ k, (∀ y0 y1 y2, LeO (spec_l09Same.l0 k y0 y1 y2) (spec_l09Same.l0 (k + 1) y0 y1 y2)) ∧ (∀ y0 y1 y2 y3 y4 y5 y6 y7 y8 y9 y10 y11 y12 y13, LeO (spec_l09Same.j1 k y0 y1 y2 y3 y4 y5 y6 y7 y8 y9 y10 y11 y12 y13) (spec_l09Same.j1 (k + 1) y0 y1 y2 y3 y4 y5 y6 y7 y8 y9 y10 y11 y12 y13)) ∧ (∀ y0 y1 y2 y3 y4 y5 y6 y7 y8 y9 y10 y11 y12 y13, LeO (spec_l09Same.l1 k y0 y1 y2 y3 y4 y5 y6 y7 y8 y9 y10 y11 y12 y13) (spec_l09Same.l1 (k + 1) y0 y1 y2 y3 y4 y5 y6 y7 y8 y9 y10 y11 y12 y13)) ∧ (∀ y0 y1 y2 y3 y4 y5 y6 y7 y8 y9 y10 y11 y12 y13, LeO (spec_l09Same.l2 k y0 y1 y2 y3 y4 y5 y6 y7 y8 y9 y10 y11 y12 y13) (spec_l09Same.l2 (k + 1) y0 y1 y2 y3 y4 y5 y6 y7 y8 y9 y10 y11 y12 y13))
 | 0 => ⟨fun _ _ _ r h => by simp [spec_l09Same.l0] at h, fun _ _ _ _ _ _ _ _ _ _ _ _ _ _ r h => by simp [spec_l09Same.j1] at h, fun _ _ _ _ _ _ _ _ _ _ _ _ _ _ r h => by simp [spec_l09Same.l1] at h, fun _ _ _ _ _ _ _ _ _ _ _ _ _ _ r h => by simp [spec_l09Same.l2] at h⟩
 | k + 1 => by
  obtain ⟨ih0, ih1, ih2, ih3⟩ := spec_l09Same.mono_l k
  refine ⟨?_, ?_, ?_, ?_⟩
  ·intro y0 y1 y2
   unfold spec_l09Same.l0
   exact tM
  ·intro y0 y1 y2 y3 y4 y5 y6 y7 y8 y9 y10 y11 y12 y13
   unfold spec_l09Same.j1
   exact tM
  ·intro y0 y1 y2 y3 y4 y5 y6 y7 y8 y9 y10 y11 y12 y13
   unfold spec_l09Same.l1
   exact tM
  ·intro y0 y1 y2 y3 y4 y5 y6 y7 y8 y9 y10 y11 y12 y13
   unfold spec_l09Same.l2
   exact tM
theorem spec_l09Same.mono : ∀ a0 a1 k, LeO (spec_l09Same.f k a0 a1) (spec_l09Same.f (k + 1) a0 a1) := by
 intro a0 a1 k
 obtain ⟨ih0, ih1, ih2, ih3⟩ := spec_l09Same.mono_l k
 unfold spec_l09Same.f
 exact tM
set_option maxHeartbeats 40000000 in
set_option maxRecDepth 100000 in
theorem spec_l09Same.calls (k : Nat) (A0 : Option Addr) (c0 : Nat) (l0 : List (S59)) (A1 : Option Addr) (c1 : Nat) (l1 : List (S59)) (r : Bool) (w : World) (hr0 : Kd.C k59 w A0 l0.length l0) (hc0 : l0.length ≤ c0) (hr1 : Kd.C k59 w A1 l1.length l1) (hc1 : l1.length ≤ c1) (h : spec_l09Same.f k l0 l1 = some r) :
  Calls Try.prog 15 #[.slice A0 l0.length c0, .slice A1 l1.length c1] w fun e w' => e = .returned (.bool r) ∧ Below w.heap.size w w' := by
 have hu59 := Try.underlying59
 have hu71 := Try.underlying71
 have HR0 := Aside0.mk hr0
 have HC0 := Aside0.mk hc0
 clear hr0 hc0
 have HR1 := Aside0.mk hr1
 have HC1 := Aside0.mk hc1
 clear hr1 hc1
 have HB := Aside0.mk (Below.refl w.heap.size w)
 have H : (if (l0.length : Int) = (l1.length : Int) then (spec_l09Same.l0 k l0 l1 0) else (some false)) = some r := h
 clear h
 by_cases c3 : (l0.length : Int) = (l1.length : Int)
 ·rw [if_pos c3] at H
  have c3b0 := beq_iff_eq.mpr c3
  have c3b1 := bne_eq_false_iff_eq.mpr c3
  have c3b2 : (l0.length == l1.length) = true := by first | simpa using c3 | (simp at c3 ⊢; omega)
  clear c3
  have H' := Aside0.mk H
  clear H
  go_enter Try.func15, Try.ntmps15
  go_wp2
  repeat (go_quiet (fail); try go_wp2)
  go_loopg [5] k (fun kq v5 w' => ∃ (x5_1 : Int), v5 = .int .i64 x5_1 ∧ Aside0 (spec_l09Same.l0 kq l0 l1 x5_1 = some r) ∧ Aside0 (kq ≤ k) ∧ Aside0 (Below w.heap.size w w'))
  case atStart => exact ⟨(0), (Z3), H', ⟨Nat.le_refl _⟩, ⟨Z0⟩⟩
  case round =>
   clear H'
   (try clear c1); (try clear c3); (try clear c3b0); (try clear c3b1); (try clear c3b2)
   obtain ⟨x5_1, rfl, HA, HK1, HB⟩ := hrel
   cases gk with
   | zero => exact absurd HA.out (by simp [spec_l09Same.l0])
   | succ k1 =>
    have H := HA.out
    clear HA
    simp only [spec_l09Same.l0] at H
    by_cases c4 : x5_1 < (l0.length : Int)
    ·rw [if_pos c4] at H
     have c4b0 := decide_eq_true c4
     clear c4
     obtain ⟨c5, H⟩ := ifS H
     have c5b0 : decide (0 ≤ x5_1) = true := decide_eq_true c5
     clear c5
     obtain ⟨c6, H⟩ := ifS H
     have c6b0 : decide (x5_1 < (l1.length : Int)) = true := decide_eq_true c6
     clear c6
     have HC7 := Aside0.mk H
     clear H
     have p217 : 0 ≤ (x5_1 : Int) := of_decide_eq_true (Z4)
     have q217 : x5_1 < (l0.length : Int) := of_decide_eq_true (Z4)
     obtain ⟨ad217, A217_3, c217_3, A217_4, c217_4, e217, hx217_0, hx217_1, hx217_2, hx217_3, hx217_4, hl217_3, hi217_3, hl217_4, hi217_4⟩ := at_T59 HR0.out x5_1 p217 q217
     cases e217
     replace hx217_0 := cB HB.out hx217_0
     replace hx217_1 := cB HB.out hx217_1
     replace hx217_2 := cB HB.out hx217_2
     replace hx217_3 := cB HB.out hx217_3
     replace hx217_4 := cB HB.out hx217_4
     have HR217_3 := Aside0.mk hi217_3
     have HC217_3 := Aside0.mk hl217_3
     clear hi217_3 hl217_3
     have HR217_4 := Aside0.mk hi217_4
     have HC217_4 := Aside0.mk hl217_4
     clear hi217_4 hl217_4
     replace p217 := eq_true p217
     replace q217 := eq_true q217
     go_upto_region 8 with (first | ((with_reducible refine gate_dst (N := 6) rfl ?_); (try (refine gate_guard (Z102) ?_; dsimp only)); refine bxE 6 #[.string (⟨#[]⟩ : ByteArray), .int .i64 0, .int .i64 0, .slice none 0 0, .slice none 0 0] 59 ?_; intro gb218 hg w8 hbox hb; have BK218 := Aside0.mk (hbox); have GW218 := Aside0.mk ((szE w hg (Z0))); have GE218 := Aside0.mk ((szE w hg (Z0))); replace HB := Aside0.mk (below_step (Z0) hb); clear hb hbox hg; obtain ⟨hcz9_0, hcz9_1, hcz9_2, hcz9_3, hcz9_4⟩ := bc5 BK218.out; obtain ⟨hfz9_0, hfz9_1, hfz9_2, hfz9_3, hfz9_4⟩ := bf5 BK218.out; have p219 : 0 ≤ (x5_1 : Int) := of_decide_eq_true (Z4); have q219 : x5_1 < (l1.length : Int) := of_decide_eq_true (Z4); obtain ⟨ad219, A219_3, c219_3, A219_4, c219_4, e219, hx219_0, hx219_1, hx219_2, hx219_3, hx219_4, hl219_3, hi219_3, hl219_4, hi219_4⟩ := at_T59 HR1.out x5_1 p219 q219; cases e219; have hn219_0 : ad219.block ≠ gb218 := Nat.ne_of_lt (Nat.lt_of_lt_of_le (by have := World.block_lt_of_cell? _ _ hx219_0; first | rwa [add_block] at this | exact this) GW218.out); have hn219_1 : ad219.block ≠ gb218 := Nat.ne_of_lt (Nat.lt_of_lt_of_le (by have := World.block_lt_of_cell? _ _ hx219_0; first | rwa [add_block] at this | exact this) GW218.out); have hn219_2 : ad219.block ≠ gb218 := Nat.ne_of_lt (Nat.lt_of_lt_of_le (by have := World.block_lt_of_cell? _ _ hx219_0; first | rwa [add_block] at this | exact this) GW218.out); have hn219_3 : ad219.block ≠ gb218 := Nat.ne_of_lt (Nat.lt_of_lt_of_le (by have := World.block_lt_of_cell? _ _ hx219_0; first | rwa [add_block] at this | exact this) GW218.out); have hn219_4 : ad219.block ≠ gb218 := Nat.ne_of_lt (Nat.lt_of_lt_of_le (by have := World.block_lt_of_cell? _ _ hx219_0; first | rwa [add_block] at this | exact this) GW218.out); replace hx219_0 := cB HB.out hx219_0; replace hx219_1 := cB HB.out hx219_1; replace hx219_2 := cB HB.out hx219_2; replace hx219_3 := cB HB.out hx219_3; replace hx219_4 := cB HB.out hx219_4; have HR219_3 := Aside0.mk hi219_3; have HC219_3 := Aside0.mk hl219_3; clear hi219_3 hl219_3; have HR219_4 := Aside0.mk hi219_4; have HC219_4 := Aside0.mk hl219_4; clear hi219_4 hl219_4; replace hx219_0 := (cell_far (p := ⟨gb218, 0, none⟩) (Z46) (.string ((rd_T59 l0 x5_1).f0))).trans hx219_0; replace hx219_1 := (cell_far (p := ⟨gb218, 0, none⟩) (Z46) (.string ((rd_T59 l0 x5_1).f0))).trans hx219_1; replace hx219_2 := (cell_far (p := ⟨gb218, 0, none⟩) (Z46) (.string ((rd_T59 l0 x5_1).f0))).trans hx219_2; replace hx219_3 := (cell_far (p := ⟨gb218, 0, none⟩) (Z46) (.string ((rd_T59 l0 x5_1).f0))).trans hx219_3; replace hx219_4 := (cell_far (p := ⟨gb218, 0, none⟩) (Z46) (.string ((rd_T59 l0 x5_1).f0))).trans hx219_4; replace hx219_0 := (cell_far (p := ⟨gb218, 1, none⟩) (Z47) (.int .i64 ((rd_T59 l0 x5_1).f1))).trans hx219_0; replace hx219_1 := (cell_far (p := ⟨gb218, 1, none⟩) (Z47) (.int .i64 ((rd_T59 l0 x5_1).f1))).trans hx219_1; replace hx219_2 := (cell_far (p := ⟨gb218, 1, none⟩) (Z47) (.int .i64 ((rd_T59 l0 x5_1).f1))).trans hx219_2; replace hx219_3 := (cell_far (p := ⟨gb218, 1, none⟩) (Z47) (.int .i64 ((rd_T59 l0 x5_1).f1))).trans hx219_3; replace hx219_4 := (cell_far (p := ⟨gb218, 1, none⟩) (Z47) (.int .i64 ((rd_T59 l0 x5_1).f1))).trans hx219_4; replace hx219_0 := (cell_far (p := ⟨gb218, 2, none⟩) (Z48) (.int .i64 ((rd_T59 l0 x5_1).f2))).trans hx219_0; replace hx219_1 := (cell_far (p := ⟨gb218, 2, none⟩) (Z48) (.int .i64 ((rd_T59 l0 x5_1).f2))).trans hx219_1; replace hx219_2 := (cell_far (p := ⟨gb218, 2, none⟩) (Z48) (.int .i64 ((rd_T59 l0 x5_1).f2))).trans hx219_2; replace hx219_3 := (cell_far (p := ⟨gb218, 2, none⟩) (Z48) (.int .i64 ((rd_T59 l0 x5_1).f2))).trans hx219_3; replace hx219_4 := (cell_far (p := ⟨gb218, 2, none⟩) (Z48) (.int .i64 ((rd_T59 l0 x5_1).f2))).trans hx219_4; replace hx219_0 := (cell_far (p := ⟨gb218, 3, none⟩) (Z49) (.slice A217_3 ((rd_T59 l0 x5_1).f3).length c217_3)).trans hx219_0; replace hx219_1 := (cell_far (p := ⟨gb218, 3, none⟩) (Z49) (.slice A217_3 ((rd_T59 l0 x5_1).f3).length c217_3)).trans hx219_1; replace hx219_2 := (cell_far (p := ⟨gb218, 3, none⟩) (Z49) (.slice A217_3 ((rd_T59 l0 x5_1).f3).length c217_3)).trans hx219_2; replace hx219_3 := (cell_far (p := ⟨gb218, 3, none⟩) (Z49) (.slice A217_3 ((rd_T59 l0 x5_1).f3).length c217_3)).trans hx219_3; replace hx219_4 := (cell_far (p := ⟨gb218, 3, none⟩) (Z49) (.slice A217_3 ((rd_T59 l0 x5_1).f3).length c217_3)).trans hx219_4; replace hx219_0 := (cell_far (p := ⟨gb218, 4, none⟩) (Z50) (.slice A217_4 ((rd_T59 l0 x5_1).f4).length c217_4)).trans hx219_0; replace hx219_1 := (cell_far (p := ⟨gb218, 4, none⟩) (Z50) (.slice A217_4 ((rd_T59 l0 x5_1).f4).length c217_4)).trans hx219_1; replace hx219_2 := (cell_far (p := ⟨gb218, 4, none⟩) (Z50) (.slice A217_4 ((rd_T59 l0 x5_1).f4).length c217_4)).trans hx219_2; replace hx219_3 := (cell_far (p := ⟨gb218, 4, none⟩) (Z50) (.slice A217_4 ((rd_T59 l0 x5_1).f4).length c217_4)).trans hx219_3; replace hx219_4 := (cell_far (p := ⟨gb218, 4, none⟩) (Z50) (.slice A217_4 ((rd_T59 l0 x5_1).f4).length c217_4)).trans hx219_4; (try have hy219_0 := fun (n_ : Nat) => (show (((((((w8.drewN n_).setCell ⟨gb218, 0, none⟩ (.string ((rd_T59 l0 x5_1).f0))).setCell ⟨gb218, 1, none⟩ (.int .i64 ((rd_T59 l0 x5_1).f1))).setCell ⟨gb218, 2, none⟩ (.int .i64 ((rd_T59 l0 x5_1).f2))).setCell ⟨gb218, 3, none⟩ (.slice A217_3 ((rd_T59 l0 x5_1).f3).length c217_3)).setCell ⟨gb218, 4, none⟩ (.slice A217_4 ((rd_T59 l0 x5_1).f4).length c217_4))).cell? _ = some _ from hx219_0)); (try have hy219_1 := fun (n_ : Nat) => (show (((((((w8.drewN n_).setCell ⟨gb218, 0, none⟩ (.string ((rd_T59 l0 x5_1).f0))).setCell ⟨gb218, 1, none⟩ (.int .i64 ((rd_T59 l0 x5_1).f1))).setCell ⟨gb218, 2, none⟩ (.int .i64 ((rd_T59 l0 x5_1).f2))).setCell ⟨gb218, 3, none⟩ (.slice A217_3 ((rd_T59 l0 x5_1).f3).length c217_3)).setCell ⟨gb218, 4, none⟩ (.slice A217_4 ((rd_T59 l0 x5_1).f4).length c217_4))).cell? _ = some _ from hx219_1)); (try have hy219_2 := fun (n_ : Nat) => (show (((((((w8.drewN n_).setCell ⟨gb218, 0, none⟩ (.string ((rd_T59 l0 x5_1).f0))).setCell ⟨gb218, 1, none⟩ (.int .i64 ((rd_T59 l0 x5_1).f1))).setCell ⟨gb218, 2, none⟩ (.int .i64 ((rd_T59 l0 x5_1).f2))).setCell ⟨gb218, 3, none⟩ (.slice A217_3 ((rd_T59 l0 x5_1).f3).length c217_3)).setCell ⟨gb218, 4, none⟩ (.slice A217_4 ((rd_T59 l0 x5_1).f4).length c217_4))).cell? _ = some _ from hx219_2)); (try have hy219_3 := fun (n_ : Nat) => (show (((((((w8.drewN n_).setCell ⟨gb218, 0, none⟩ (.string ((rd_T59 l0 x5_1).f0))).setCell ⟨gb218, 1, none⟩ (.int .i64 ((rd_T59 l0 x5_1).f1))).setCell ⟨gb218, 2, none⟩ (.int .i64 ((rd_T59 l0 x5_1).f2))).setCell ⟨gb218, 3, none⟩ (.slice A217_3 ((rd_T59 l0 x5_1).f3).length c217_3)).setCell ⟨gb218, 4, none⟩ (.slice A217_4 ((rd_T59 l0 x5_1).f4).length c217_4))).cell? _ = some _ from hx219_3)); (try have hy219_4 := fun (n_ : Nat) => (show (((((((w8.drewN n_).setCell ⟨gb218, 0, none⟩ (.string ((rd_T59 l0 x5_1).f0))).setCell ⟨gb218, 1, none⟩ (.int .i64 ((rd_T59 l0 x5_1).f1))).setCell ⟨gb218, 2, none⟩ (.int .i64 ((rd_T59 l0 x5_1).f2))).setCell ⟨gb218, 3, none⟩ (.slice A217_3 ((rd_T59 l0 x5_1).f3).length c217_3)).setCell ⟨gb218, 4, none⟩ (.slice A217_4 ((rd_T59 l0 x5_1).f4).length c217_4))).cell? _ = some _ from hx219_4)); clear hn219_0; clear hn219_1; clear hn219_2; clear hn219_3; clear hn219_4; replace p219 := eq_true p219; replace q219 := eq_true q219) | ((with_reducible refine gate_dst (N := 7) rfl ?_); (try (refine gate_guard (Z102) ?_; dsimp only)); refine bxE 7 #[.string (⟨#[]⟩ : ByteArray), .int .i64 0, .int .i64 0, .slice none 0 0, .slice none 0 0] 59 ?_; intro gb220 hg w10 hbox hb; have BK220 := Aside0.mk (hbox); have GW220 := Aside0.mk ((szE w hg (Z59))); have GE220 := Aside0.mk ((szE w hg (Z59))); replace HB := Aside0.mk (below_step (Z59) hb); have NB218_220 := Aside0.mk ((by rw [hg]; exact Nat.ne_of_lt (blk_lt (g := gb218) (o := .cells #[.string ((rd_T59 l0 x5_1).f0), .int .i64 ((rd_T59 l0 x5_1).f1), .int .i64 ((rd_T59 l0 x5_1).f2), .slice A217_3 ((rd_T59 l0 x5_1).f3).length c217_3, .slice A217_4 ((rd_T59 l0 x5_1).f4).length c217_4] 59 (0, 0)) (Z5)) : gb218 ≠ gb220)); have NB220_218 := Aside0.mk ((by rw [hg]; exact Nat.ne_of_gt (blk_lt (g := gb218) (o := .cells #[.string ((rd_T59 l0 x5_1).f0), .int .i64 ((rd_T59 l0 x5_1).f1), .int .i64 ((rd_T59 l0 x5_1).f2), .slice A217_3 ((rd_T59 l0 x5_1).f3).length c217_3, .slice A217_4 ((rd_T59 l0 x5_1).f4).length c217_4] 59 (0, 0)) (Z5)) : gb220 ≠ gb218)); replace BK218 := Aside0.mk (blk_below (g := gb218) (o := .cells #[.string ((rd_T59 l0 x5_1).f0), .int .i64 ((rd_T59 l0 x5_1).f1), .int .i64 ((rd_T59 l0 x5_1).f2), .slice A217_3 ((rd_T59 l0 x5_1).f3).length c217_3, .slice A217_4 ((rd_T59 l0 x5_1).f4).length c217_4] 59 (0, 0)) (Z5) hb); clear hb hbox hg; have hnb11 := NB220_218.out; have hnc11 := NB218_220.out; obtain ⟨hcz12_0, hcz12_1, hcz12_2, hcz12_3, hcz12_4⟩ := bc5 BK220.out; obtain ⟨hfz12_0, hfz12_1, hfz12_2, hfz12_3, hfz12_4⟩ := bf5 BK220.out))
     repeat (go_quiet (first | ((with_reducible refine gate_dst (N := 6) rfl ?_); (try (refine gate_guard (Z102) ?_; dsimp only)); refine bxE 6 #[.string (⟨#[]⟩ : ByteArray), .int .i64 0, .int .i64 0, .slice none 0 0, .slice none 0 0] 59 ?_; intro gb218 hg w8 hbox hb; have BK218 := Aside0.mk (hbox); have GW218 := Aside0.mk ((szE w hg (Z0))); have GE218 := Aside0.mk ((szE w hg (Z0))); replace HB := Aside0.mk (below_step (Z0) hb); clear hb hbox hg; obtain ⟨hcz9_0, hcz9_1, hcz9_2, hcz9_3, hcz9_4⟩ := bc5 BK218.out; obtain ⟨hfz9_0, hfz9_1, hfz9_2, hfz9_3, hfz9_4⟩ := bf5 BK218.out; have p219 : 0 ≤ (x5_1 : Int) := of_decide_eq_true (Z4); have q219 : x5_1 < (l1.length : Int) := of_decide_eq_true (Z4); obtain ⟨ad219, A219_3, c219_3, A219_4, c219_4, e219, hx219_0, hx219_1, hx219_2, hx219_3, hx219_4, hl219_3, hi219_3, hl219_4, hi219_4⟩ := at_T59 HR1.out x5_1 p219 q219; cases e219; have hn219_0 : ad219.block ≠ gb218 := Nat.ne_of_lt (Nat.lt_of_lt_of_le (by have := World.block_lt_of_cell? _ _ hx219_0; first | rwa [add_block] at this | exact this) GW218.out); have hn219_1 : ad219.block ≠ gb218 := Nat.ne_of_lt (Nat.lt_of_lt_of_le (by have := World.block_lt_of_cell? _ _ hx219_0; first | rwa [add_block] at this | exact this) GW218.out); have hn219_2 : ad219.block ≠ gb218 := Nat.ne_of_lt (Nat.lt_of_lt_of_le (by have := World.block_lt_of_cell? _ _ hx219_0; first | rwa [add_block] at this | exact this) GW218.out); have hn219_3 : ad219.block ≠ gb218 := Nat.ne_of_lt (Nat.lt_of_lt_of_le (by have := World.block_lt_of_cell? _ _ hx219_0; first | rwa [add_block] at this | exact this) GW218.out); have hn219_4 : ad219.block ≠ gb218 := Nat.ne_of_lt (Nat.lt_of_lt_of_le (by have := World.block_lt_of_cell? _ _ hx219_0; first | rwa [add_block] at this | exact this) GW218.out); replace hx219_0 := cB HB.out hx219_0; replace hx219_1 := cB HB.out hx219_1; replace hx219_2 := cB HB.out hx219_2; replace hx219_3 := cB HB.out hx219_3; replace hx219_4 := cB HB.out hx219_4; have HR219_3 := Aside0.mk hi219_3; have HC219_3 := Aside0.mk hl219_3; clear hi219_3 hl219_3; have HR219_4 := Aside0.mk hi219_4; have HC219_4 := Aside0.mk hl219_4; clear hi219_4 hl219_4; replace hx219_0 := (cell_far (p := ⟨gb218, 0, none⟩) (Z46) (.string ((rd_T59 l0 x5_1).f0))).trans hx219_0; replace hx219_1 := (cell_far (p := ⟨gb218, 0, none⟩) (Z46) (.string ((rd_T59 l0 x5_1).f0))).trans hx219_1; replace hx219_2 := (cell_far (p := ⟨gb218, 0, none⟩) (Z46) (.string ((rd_T59 l0 x5_1).f0))).trans hx219_2; replace hx219_3 := (cell_far (p := ⟨gb218, 0, none⟩) (Z46) (.string ((rd_T59 l0 x5_1).f0))).trans hx219_3; replace hx219_4 := (cell_far (p := ⟨gb218, 0, none⟩) (Z46) (.string ((rd_T59 l0 x5_1).f0))).trans hx219_4; replace hx219_0 := (cell_far (p := ⟨gb218, 1, none⟩) (Z47) (.int .i64 ((rd_T59 l0 x5_1).f1))).trans hx219_0; replace hx219_1 := (cell_far (p := ⟨gb218, 1, none⟩) (Z47) (.int .i64 ((rd_T59 l0 x5_1).f1))).trans hx219_1; replace hx219_2 := (cell_far (p := ⟨gb218, 1, none⟩) (Z47) (.int .i64 ((rd_T59 l0 x5_1).f1))).trans hx219_2; replace hx219_3 := (cell_far (p := ⟨gb218, 1, none⟩) (Z47) (.int .i64 ((rd_T59 l0 x5_1).f1))).trans hx219_3; replace hx219_4 := (cell_far (p := ⟨gb218, 1, none⟩) (Z47) (.int .i64 ((rd_T59 l0 x5_1).f1))).trans hx219_4; replace hx219_0 := (cell_far (p := ⟨gb218, 2, none⟩) (Z48) (.int .i64 ((rd_T59 l0 x5_1).f2))).trans hx219_0; replace hx219_1 := (cell_far (p := ⟨gb218, 2, none⟩) (Z48) (.int .i64 ((rd_T59 l0 x5_1).f2))).trans hx219_1; replace hx219_2 := (cell_far (p := ⟨gb218, 2, none⟩) (Z48) (.int .i64 ((rd_T59 l0 x5_1).f2))).trans hx219_2; replace hx219_3 := (cell_far (p := ⟨gb218, 2, none⟩) (Z48) (.int .i64 ((rd_T59 l0 x5_1).f2))).trans hx219_3; replace hx219_4 := (cell_far (p := ⟨gb218, 2, none⟩) (Z48) (.int .i64 ((rd_T59 l0 x5_1).f2))).trans hx219_4; replace hx219_0 := (cell_far (p := ⟨gb218, 3, none⟩) (Z49) (.slice A217_3 ((rd_T59 l0 x5_1).f3).length c217_3)).trans hx219_0; replace hx219_1 := (cell_far (p := ⟨gb218, 3, none⟩) (Z49) (.slice A217_3 ((rd_T59 l0 x5_1).f3).length c217_3)).trans hx219_1; replace hx219_2 := (cell_far (p := ⟨gb218, 3, none⟩) (Z49) (.slice A217_3 ((rd_T59 l0 x5_1).f3).length c217_3)).trans hx219_2; replace hx219_3 := (cell_far (p := ⟨gb218, 3, none⟩) (Z49) (.slice A217_3 ((rd_T59 l0 x5_1).f3).length c217_3)).trans hx219_3; replace hx219_4 := (cell_far (p := ⟨gb218, 3, none⟩) (Z49) (.slice A217_3 ((rd_T59 l0 x5_1).f3).length c217_3)).trans hx219_4; replace hx219_0 := (cell_far (p := ⟨gb218, 4, none⟩) (Z50) (.slice A217_4 ((rd_T59 l0 x5_1).f4).length c217_4)).trans hx219_0; replace hx219_1 := (cell_far (p := ⟨gb218, 4, none⟩) (Z50) (.slice A217_4 ((rd_T59 l0 x5_1).f4).length c217_4)).trans hx219_1; replace hx219_2 := (cell_far (p := ⟨gb218, 4, none⟩) (Z50) (.slice A217_4 ((rd_T59 l0 x5_1).f4).length c217_4)).trans hx219_2; replace hx219_3 := (cell_far (p := ⟨gb218, 4, none⟩) (Z50) (.slice A217_4 ((rd_T59 l0 x5_1).f4).length c217_4)).trans hx219_3; replace hx219_4 := (cell_far (p := ⟨gb218, 4, none⟩) (Z50) (.slice A217_4 ((rd_T59 l0 x5_1).f4).length c217_4)).trans hx219_4; (try have hy219_0 := fun (n_ : Nat) => (show (((((((w8.drewN n_).setCell ⟨gb218, 0, none⟩ (.string ((rd_T59 l0 x5_1).f0))).setCell ⟨gb218, 1, none⟩ (.int .i64 ((rd_T59 l0 x5_1).f1))).setCell ⟨gb218, 2, none⟩ (.int .i64 ((rd_T59 l0 x5_1).f2))).setCell ⟨gb218, 3, none⟩ (.slice A217_3 ((rd_T59 l0 x5_1).f3).length c217_3)).setCell ⟨gb218, 4, none⟩ (.slice A217_4 ((rd_T59 l0 x5_1).f4).length c217_4))).cell? _ = some _ from hx219_0)); (try have hy219_1 := fun (n_ : Nat) => (show (((((((w8.drewN n_).setCell ⟨gb218, 0, none⟩ (.string ((rd_T59 l0 x5_1).f0))).setCell ⟨gb218, 1, none⟩ (.int .i64 ((rd_T59 l0 x5_1).f1))).setCell ⟨gb218, 2, none⟩ (.int .i64 ((rd_T59 l0 x5_1).f2))).setCell ⟨gb218, 3, none⟩ (.slice A217_3 ((rd_T59 l0 x5_1).f3).length c217_3)).setCell ⟨gb218, 4, none⟩ (.slice A217_4 ((rd_T59 l0 x5_1).f4).length c217_4))).cell? _ = some _ from hx219_1)); (try have hy219_2 := fun (n_ : Nat) => (show (((((((w8.drewN n_).setCell ⟨gb218, 0, none⟩ (.string ((rd_T59 l0 x5_1).f0))).setCell ⟨gb218, 1, none⟩ (.int .i64 ((rd_T59 l0 x5_1).f1))).setCell ⟨gb218, 2, none⟩ (.int .i64 ((rd_T59 l0 x5_1).f2))).setCell ⟨gb218, 3, none⟩ (.slice A217_3 ((rd_T59 l0 x5_1).f3).length c217_3)).setCell ⟨gb218, 4, none⟩ (.slice A217_4 ((rd_T59 l0 x5_1).f4).length c217_4))).cell? _ = some _ from hx219_2)); (try have hy219_3 := fun (n_ : Nat) => (show (((((((w8.drewN n_).setCell ⟨gb218, 0, none⟩ (.string ((rd_T59 l0 x5_1).f0))).setCell ⟨gb218, 1, none⟩ (.int .i64 ((rd_T59 l0 x5_1).f1))).setCell ⟨gb218, 2, none⟩ (.int .i64 ((rd_T59 l0 x5_1).f2))).setCell ⟨gb218, 3, none⟩ (.slice A217_3 ((rd_T59 l0 x5_1).f3).length c217_3)).setCell ⟨gb218, 4, none⟩ (.slice A217_4 ((rd_T59 l0 x5_1).f4).length c217_4))).cell? _ = some _ from hx219_3)); (try have hy219_4 := fun (n_ : Nat) => (show (((((((w8.drewN n_).setCell ⟨gb218, 0, none⟩ (.string ((rd_T59 l0 x5_1).f0))).setCell ⟨gb218, 1, none⟩ (.int .i64 ((rd_T59 l0 x5_1).f1))).setCell ⟨gb218, 2, none⟩ (.int .i64 ((rd_T59 l0 x5_1).f2))).setCell ⟨gb218, 3, none⟩ (.slice A217_3 ((rd_T59 l0 x5_1).f3).length c217_3)).setCell ⟨gb218, 4, none⟩ (.slice A217_4 ((rd_T59 l0 x5_1).f4).length c217_4))).cell? _ = some _ from hx219_4)); clear hn219_0; clear hn219_1; clear hn219_2; clear hn219_3; clear hn219_4; replace p219 := eq_true p219; replace q219 := eq_true q219) | ((with_reducible refine gate_dst (N := 7) rfl ?_); (try (refine gate_guard (Z102) ?_; dsimp only)); refine bxE 7 #[.string (⟨#[]⟩ : ByteArray), .int .i64 0, .int .i64 0, .slice none 0 0, .slice none 0 0] 59 ?_; intro gb220 hg w10 hbox hb; have BK220 := Aside0.mk (hbox); have GW220 := Aside0.mk ((szE w hg (Z59))); have GE220 := Aside0.mk ((szE w hg (Z59))); replace HB := Aside0.mk (below_step (Z59) hb); have NB218_220 := Aside0.mk ((by rw [hg]; exact Nat.ne_of_lt (blk_lt (g := gb218) (o := .cells #[.string ((rd_T59 l0 x5_1).f0), .int .i64 ((rd_T59 l0 x5_1).f1), .int .i64 ((rd_T59 l0 x5_1).f2), .slice A217_3 ((rd_T59 l0 x5_1).f3).length c217_3, .slice A217_4 ((rd_T59 l0 x5_1).f4).length c217_4] 59 (0, 0)) (Z5)) : gb218 ≠ gb220)); have NB220_218 := Aside0.mk ((by rw [hg]; exact Nat.ne_of_gt (blk_lt (g := gb218) (o := .cells #[.string ((rd_T59 l0 x5_1).f0), .int .i64 ((rd_T59 l0 x5_1).f1), .int .i64 ((rd_T59 l0 x5_1).f2), .slice A217_3 ((rd_T59 l0 x5_1).f3).length c217_3, .slice A217_4 ((rd_T59 l0 x5_1).f4).length c217_4] 59 (0, 0)) (Z5)) : gb220 ≠ gb218)); replace BK218 := Aside0.mk (blk_below (g := gb218) (o := .cells #[.string ((rd_T59 l0 x5_1).f0), .int .i64 ((rd_T59 l0 x5_1).f1), .int .i64 ((rd_T59 l0 x5_1).f2), .slice A217_3 ((rd_T59 l0 x5_1).f3).length c217_3, .slice A217_4 ((rd_T59 l0 x5_1).f4).length c217_4] 59 (0, 0)) (Z5) hb); clear hb hbox hg; have hnb11 := NB220_218.out; have hnc11 := NB218_220.out; obtain ⟨hcz12_0, hcz12_1, hcz12_2, hcz12_3, hcz12_4⟩ := bc5 BK220.out; obtain ⟨hfz12_0, hfz12_1, hfz12_2, hfz12_3, hfz12_4⟩ := bf5 BK220.out)); go_upto_region 8 with (first | ((with_reducible refine gate_dst (N := 6) rfl ?_); (try (refine gate_guard (Z102) ?_; dsimp only)); refine bxE 6 #[.string (⟨#[]⟩ : ByteArray), .int .i64 0, .int .i64 0, .slice none 0 0, .slice none 0 0] 59 ?_; intro gb218 hg w8 hbox hb; have BK218 := Aside0.mk (hbox); have GW218 := Aside0.mk ((szE w hg (Z0))); have GE218 := Aside0.mk ((szE w hg (Z0))); replace HB := Aside0.mk (below_step (Z0) hb); clear hb hbox hg; obtain ⟨hcz9_0, hcz9_1, hcz9_2, hcz9_3, hcz9_4⟩ := bc5 BK218.out; obtain ⟨hfz9_0, hfz9_1, hfz9_2, hfz9_3, hfz9_4⟩ := bf5 BK218.out; have p219 : 0 ≤ (x5_1 : Int) := of_decide_eq_true (Z4); have q219 : x5_1 < (l1.length : Int) := of_decide_eq_true (Z4); obtain ⟨ad219, A219_3, c219_3, A219_4, c219_4, e219, hx219_0, hx219_1, hx219_2, hx219_3, hx219_4, hl219_3, hi219_3, hl219_4, hi219_4⟩ := at_T59 HR1.out x5_1 p219 q219; cases e219; have hn219_0 : ad219.block ≠ gb218 := Nat.ne_of_lt (Nat.lt_of_lt_of_le (by have := World.block_lt_of_cell? _ _ hx219_0; first | rwa [add_block] at this | exact this) GW218.out); have hn219_1 : ad219.block ≠ gb218 := Nat.ne_of_lt (Nat.lt_of_lt_of_le (by have := World.block_lt_of_cell? _ _ hx219_0; first | rwa [add_block] at this | exact this) GW218.out); have hn219_2 : ad219.block ≠ gb218 := Nat.ne_of_lt (Nat.lt_of_lt_of_le (by have := World.block_lt_of_cell? _ _ hx219_0; first | rwa [add_block] at this | exact this) GW218.out); have hn219_3 : ad219.block ≠ gb218 := Nat.ne_of_lt (Nat.lt_of_lt_of_le (by have := World.block_lt_of_cell? _ _ hx219_0; first | rwa [add_block] at this | exact this) GW218.out); have hn219_4 : ad219.block ≠ gb218 := Nat.ne_of_lt (Nat.lt_of_lt_of_le (by have := World.block_lt_of_cell? _ _ hx219_0; first | rwa [add_block] at this | exact this) GW218.out); replace hx219_0 := cB HB.out hx219_0; replace hx219_1 := cB HB.out hx219_1; replace hx219_2 := cB HB.out hx219_2; replace hx219_3 := cB HB.out hx219_3; replace hx219_4 := cB HB.out hx219_4; have HR219_3 := Aside0.mk hi219_3; have HC219_3 := Aside0.mk hl219_3; clear hi219_3 hl219_3; have HR219_4 := Aside0.mk hi219_4; have HC219_4 := Aside0.mk hl219_4; clear hi219_4 hl219_4; replace hx219_0 := (cell_far (p := ⟨gb218, 0, none⟩) (Z46) (.string ((rd_T59 l0 x5_1).f0))).trans hx219_0; replace hx219_1 := (cell_far (p := ⟨gb218, 0, none⟩) (Z46) (.string ((rd_T59 l0 x5_1).f0))).trans hx219_1; replace hx219_2 := (cell_far (p := ⟨gb218, 0, none⟩) (Z46) (.string ((rd_T59 l0 x5_1).f0))).trans hx219_2; replace hx219_3 := (cell_far (p := ⟨gb218, 0, none⟩) (Z46) (.string ((rd_T59 l0 x5_1).f0))).trans hx219_3; replace hx219_4 := (cell_far (p := ⟨gb218, 0, none⟩) (Z46) (.string ((rd_T59 l0 x5_1).f0))).trans hx219_4; replace hx219_0 := (cell_far (p := ⟨gb218, 1, none⟩) (Z47) (.int .i64 ((rd_T59 l0 x5_1).f1))).trans hx219_0; replace hx219_1 := (cell_far (p := ⟨gb218, 1, none⟩) (Z47) (.int .i64 ((rd_T59 l0 x5_1).f1))).trans hx219_1; replace hx219_2 := (cell_far (p := ⟨gb218, 1, none⟩) (Z47) (.int .i64 ((rd_T59 l0 x5_1).f1))).trans hx219_2; replace hx219_3 := (cell_far (p := ⟨gb218, 1, none⟩) (Z47) (.int .i64 ((rd_T59 l0 x5_1).f1))).trans hx219_3; replace hx219_4 := (cell_far (p := ⟨gb218, 1, none⟩) (Z47) (.int .i64 ((rd_T59 l0 x5_1).f1))).trans hx219_4; replace hx219_0 := (cell_far (p := ⟨gb218, 2, none⟩) (Z48) (.int .i64 ((rd_T59 l0 x5_1).f2))).trans hx219_0; replace hx219_1 := (cell_far (p := ⟨gb218, 2, none⟩) (Z48) (.int .i64 ((rd_T59 l0 x5_1).f2))).trans hx219_1; replace hx219_2 := (cell_far (p := ⟨gb218, 2, none⟩) (Z48) (.int .i64 ((rd_T59 l0 x5_1).f2))).trans hx219_2; replace hx219_3 := (cell_far (p := ⟨gb218, 2, none⟩) (Z48) (.int .i64 ((rd_T59 l0 x5_1).f2))).trans hx219_3; replace hx219_4 := (cell_far (p := ⟨gb218, 2, none⟩) (Z48) (.int .i64 ((rd_T59 l0 x5_1).f2))).trans hx219_4; replace hx219_0 := (cell_far (p := ⟨gb218, 3, none⟩) (Z49) (.slice A217_3 ((rd_T59 l0 x5_1).f3).length c217_3)).trans hx219_0; replace hx219_1 := (cell_far (p := ⟨gb218, 3, none⟩) (Z49) (.slice A217_3 ((rd_T59 l0 x5_1).f3).length c217_3)).trans hx219_1; replace hx219_2 := (cell_far (p := ⟨gb218, 3, none⟩) (Z49) (.slice A217_3 ((rd_T59 l0 x5_1).f3).length c217_3)).trans hx219_2; replace hx219_3 := (cell_far (p := ⟨gb218, 3, none⟩) (Z49) (.slice A217_3 ((rd_T59 l0 x5_1).f3).length c217_3)).trans hx219_3; replace hx219_4 := (cell_far (p := ⟨gb218, 3, none⟩) (Z49) (.slice A217_3 ((rd_T59 l0 x5_1).f3).length c217_3)).trans hx219_4; replace hx219_0 := (cell_far (p := ⟨gb218, 4, none⟩) (Z50) (.slice A217_4 ((rd_T59 l0 x5_1).f4).length c217_4)).trans hx219_0; replace hx219_1 := (cell_far (p := ⟨gb218, 4, none⟩) (Z50) (.slice A217_4 ((rd_T59 l0 x5_1).f4).length c217_4)).trans hx219_1; replace hx219_2 := (cell_far (p := ⟨gb218, 4, none⟩) (Z50) (.slice A217_4 ((rd_T59 l0 x5_1).f4).length c217_4)).trans hx219_2; replace hx219_3 := (cell_far (p := ⟨gb218, 4, none⟩) (Z50) (.slice A217_4 ((rd_T59 l0 x5_1).f4).length c217_4)).trans hx219_3; replace hx219_4 := (cell_far (p := ⟨gb218, 4, none⟩) (Z50) (.slice A217_4 ((rd_T59 l0 x5_1).f4).length c217_4)).trans hx219_4; (try have hy219_0 := fun (n_ : Nat) => (show (((((((w8.drewN n_).setCell ⟨gb218, 0, none⟩ (.string ((rd_T59 l0 x5_1).f0))).setCell ⟨gb218, 1, none⟩ (.int .i64 ((rd_T59 l0 x5_1).f1))).setCell ⟨gb218, 2, none⟩ (.int .i64 ((rd_T59 l0 x5_1).f2))).setCell ⟨gb218, 3, none⟩ (.slice A217_3 ((rd_T59 l0 x5_1).f3).length c217_3)).setCell ⟨gb218, 4, none⟩ (.slice A217_4 ((rd_T59 l0 x5_1).f4).length c217_4))).cell? _ = some _ from hx219_0)); (try have hy219_1 := fun (n_ : Nat) => (show (((((((w8.drewN n_).setCell ⟨gb218, 0, none⟩ (.string ((rd_T59 l0 x5_1).f0))).setCell ⟨gb218, 1, none⟩ (.int .i64 ((rd_T59 l0 x5_1).f1))).setCell ⟨gb218, 2, none⟩ (.int .i64 ((rd_T59 l0 x5_1).f2))).setCell ⟨gb218, 3, none⟩ (.slice A217_3 ((rd_T59 l0 x5_1).f3).length c217_3)).setCell ⟨gb218, 4, none⟩ (.slice A217_4 ((rd_T59 l0 x5_1).f4).length c217_4))).cell? _ = some _ from hx219_1)); (try have hy219_2 := fun (n_ : Nat) => (show (((((((w8.drewN n_).setCell ⟨gb218, 0, none⟩ (.string ((rd_T59 l0 x5_1).f0))).setCell ⟨gb218, 1, none⟩ (.int .i64 ((rd_T59 l0 x5_1).f1))).setCell ⟨gb218, 2, none⟩ (.int .i64 ((rd_T59 l0 x5_1).f2))).setCell ⟨gb218, 3, none⟩ (.slice A217_3 ((rd_T59 l0 x5_1).f3).length c217_3)).setCell ⟨gb218, 4, none⟩ (.slice A217_4 ((rd_T59 l0 x5_1).f4).length c217_4))).cell? _ = some _ from hx219_2)); (try have hy219_3 := fun (n_ : Nat) => (show (((((((w8.drewN n_).setCell ⟨gb218, 0, none⟩ (.string ((rd_T59 l0 x5_1).f0))).setCell ⟨gb218, 1, none⟩ (.int .i64 ((rd_T59 l0 x5_1).f1))).setCell ⟨gb218, 2, none⟩ (.int .i64 ((rd_T59 l0 x5_1).f2))).setCell ⟨gb218, 3, none⟩ (.slice A217_3 ((rd_T59 l0 x5_1).f3).length c217_3)).setCell ⟨gb218, 4, none⟩ (.slice A217_4 ((rd_T59 l0 x5_1).f4).length c217_4))).cell? _ = some _ from hx219_3)); (try have hy219_4 := fun (n_ : Nat) => (show (((((((w8.drewN n_).setCell ⟨gb218, 0, none⟩ (.string ((rd_T59 l0 x5_1).f0))).setCell ⟨gb218, 1, none⟩ (.int .i64 ((rd_T59 l0 x5_1).f1))).setCell ⟨gb218, 2, none⟩ (.int .i64 ((rd_T59 l0 x5_1).f2))).setCell ⟨gb218, 3, none⟩ (.slice A217_3 ((rd_T59 l0 x5_1).f3).length c217_3)).setCell ⟨gb218, 4, none⟩ (.slice A217_4 ((rd_T59 l0 x5_1).f4).length c217_4))).cell? _ = some _ from hx219_4)); clear hn219_0; clear hn219_1; clear hn219_2; clear hn219_3; clear hn219_4; replace p219 := eq_true p219; replace q219 := eq_true q219) | ((with_reducible refine gate_dst (N := 7) rfl ?_); (try (refine gate_guard (Z102) ?_; dsimp only)); refine bxE 7 #[.string (⟨#[]⟩ : ByteArray), .int .i64 0, .int .i64 0, .slice none 0 0, .slice none 0 0] 59 ?_; intro gb220 hg w10 hbox hb; have BK220 := Aside0.mk (hbox); have GW220 := Aside0.mk ((szE w hg (Z59))); have GE220 := Aside0.mk ((szE w hg (Z59))); replace HB := Aside0.mk (below_step (Z59) hb); have NB218_220 := Aside0.mk ((by rw [hg]; exact Nat.ne_of_lt (blk_lt (g := gb218) (o := .cells #[.string ((rd_T59 l0 x5_1).f0), .int .i64 ((rd_T59 l0 x5_1).f1), .int .i64 ((rd_T59 l0 x5_1).f2), .slice A217_3 ((rd_T59 l0 x5_1).f3).length c217_3, .slice A217_4 ((rd_T59 l0 x5_1).f4).length c217_4] 59 (0, 0)) (Z5)) : gb218 ≠ gb220)); have NB220_218 := Aside0.mk ((by rw [hg]; exact Nat.ne_of_gt (blk_lt (g := gb218) (o := .cells #[.string ((rd_T59 l0 x5_1).f0), .int .i64 ((rd_T59 l0 x5_1).f1), .int .i64 ((rd_T59 l0 x5_1).f2), .slice A217_3 ((rd_T59 l0 x5_1).f3).length c217_3, .slice A217_4 ((rd_T59 l0 x5_1).f4).length c217_4] 59 (0, 0)) (Z5)) : gb220 ≠ gb218)); replace BK218 := Aside0.mk (blk_below (g := gb218) (o := .cells #[.string ((rd_T59 l0 x5_1).f0), .int .i64 ((rd_T59 l0 x5_1).f1), .int .i64 ((rd_T59 l0 x5_1).f2), .slice A217_3 ((rd_T59 l0 x5_1).f3).length c217_3, .slice A217_4 ((rd_T59 l0 x5_1).f4).length c217_4] 59 (0, 0)) (Z5) hb); clear hb hbox hg; have hnb11 := NB220_218.out; have hnc11 := NB218_220.out; obtain ⟨hcz12_0, hcz12_1, hcz12_2, hcz12_3, hcz12_4⟩ := bc5 BK220.out; obtain ⟨hfz12_0, hfz12_1, hfz12_2, hfz12_3, hfz12_4⟩ := bf5 BK220.out)))
     (try simp only [Act.put, List.setIfInBounds_toArray, List.set_cons_zero, List.set_cons_succ])
     go_cut [65] (fun v65 wc => ∃ (kq : Nat) (x65_6 : Bool), v65 = .bool x65_6 ∧ Aside0 (spec_l09Same.j1 kq l0 l1 x5_1 x65_6 ((rd_T59 l0 x5_1).f0) ((rd_T59 l0 x5_1).f1) ((rd_T59 l0 x5_1).f2) ((rd_T59 l0 x5_1).f3) ((rd_T59 l0 x5_1).f4) ((rd_T59 l1 x5_1).f0) ((rd_T59 l1 x5_1).f1) ((rd_T59 l1 x5_1).f2) ((rd_T59 l1 x5_1).f3) ((rd_T59 l1 x5_1).f4) = some r) ∧ Aside0 (kq ≤ k1) ∧ Aside0 (wc.heap[gb218]? = some (.cells #[.string ((rd_T59 l0 x5_1).f0), .int .i64 ((rd_T59 l0 x5_1).f1), .int .i64 ((rd_T59 l0 x5_1).f2), (.slice A217_3 ((rd_T59 l0 x5_1).f3).length c217_3), (.slice A217_4 ((rd_T59 l0 x5_1).f4).length c217_4)] 59 (0, 0))) ∧ Aside0 (wc.heap[gb220]? = some (.cells #[.string ((rd_T59 l1 x5_1).f0), .int .i64 ((rd_T59 l1 x5_1).f1), .int .i64 ((rd_T59 l1 x5_1).f2), (.slice A219_3 ((rd_T59 l1 x5_1).f3).length c219_3), (.slice A219_4 ((rd_T59 l1 x5_1).f4).length c219_4)] 59 (0, 0))) ∧ Aside0 (Below w.heap.size w wc))
     case first =>
      have H := HC7.out
      clear HC7
      by_cases c13 : ((rd_T59 l0 x5_1).f0).toList = ((rd_T59 l1 x5_1).f0).toList
      ·rw [if_pos c13] at H
       have c13b0 := beq_iff_eq.mpr c13
       have c13b1 := bne_eq_false_iff_eq.mpr c13
       clear c13
       (first | rw [c13b0] | rw [c13b1] | (simp only [i64_w, i32_w]; rw [c13b0]) | skip)
       by_cases c14 : ((rd_T59 l0 x5_1).f1) = ((rd_T59 l1 x5_1).f1)
       ·rw [if_pos c14] at H
        have c14b0 := beq_iff_eq.mpr c14
        have c14b1 := bne_eq_false_iff_eq.mpr c14
        clear c14
        by_cases c15 : ((rd_T59 l0 x5_1).f2) = ((rd_T59 l1 x5_1).f2)
        ·rw [if_pos c15] at H
         have c15b0 := beq_iff_eq.mpr c15
         have c15b1 := bne_eq_false_iff_eq.mpr c15
         clear c15
         by_cases c16 : (((rd_T59 l0 x5_1).f3).length : Int) = (((rd_T59 l1 x5_1).f3).length : Int)
         ·rw [if_pos c16] at H
          have c16b0 := beq_iff_eq.mpr c16
          have c16b1 := bne_eq_false_iff_eq.mpr c16
          have c16b2 : (((rd_T59 l0 x5_1).f3).length == ((rd_T59 l1 x5_1).f3).length) = true := by first | simpa using c16 | (simp at c16 ⊢; omega)
          clear c16
          have H' := Aside0.mk H
          clear H
          have hnb17 := NB218_220.out
          have hnc17 := NB220_218.out
          obtain ⟨hcz18_0, hcz18_1, hcz18_2, hcz18_3, hcz18_4⟩ := bc5 BK218.out
          obtain ⟨hfz18_0, hfz18_1, hfz18_2, hfz18_3, hfz18_4⟩ := bf5 BK218.out
          obtain ⟨hcz19_0, hcz19_1, hcz19_2, hcz19_3, hcz19_4⟩ := bc5 BK220.out
          obtain ⟨hfz19_0, hfz19_1, hfz19_2, hfz19_3, hfz19_4⟩ := bf5 BK220.out
          go_wp2
          repeat (go_quiet (fail); try go_wp2)
          go_meet
          case rel => exact ⟨_, (((((rd_T59 l0 x5_1).f4).length : Int) != (((rd_T59 l1 x5_1).f4).length : Int))), (Z3), H', ⟨Z125⟩, ⟨Z20⟩, ⟨Z7⟩, ⟨Z33⟩⟩
         ·rw [if_neg c16] at H
          have c16b0 := beq_eq_false_iff_ne.mpr c16
          have c16b1 := bne_iff_ne.mpr c16
          have c16b2 : (((rd_T59 l0 x5_1).f3).length == ((rd_T59 l1 x5_1).f3).length) = false := by first | simpa using c16 | (simp at c16 ⊢; omega)
          have H' := Aside0.mk H
          clear H
          have hnb20 := NB218_220.out
          have hnc20 := NB220_218.out
          obtain ⟨hcz21_0, hcz21_1, hcz21_2, hcz21_3, hcz21_4⟩ := bc5 BK218.out
          obtain ⟨hfz21_0, hfz21_1, hfz21_2, hfz21_3, hfz21_4⟩ := bf5 BK218.out
          obtain ⟨hcz22_0, hcz22_1, hcz22_2, hcz22_3, hcz22_4⟩ := bc5 BK220.out
          obtain ⟨hfz22_0, hfz22_1, hfz22_2, hfz22_3, hfz22_4⟩ := bf5 BK220.out
          go_wp2
          repeat (go_quiet (fail); try go_wp2)
          go_meet
          case rel => exact ⟨_, (true), (Z3), H', ⟨Z125⟩, ⟨Z20⟩, ⟨Z7⟩, ⟨Z33⟩⟩
        ·rw [if_neg c15] at H
         have c15b0 := beq_eq_false_iff_ne.mpr c15
         have c15b1 := bne_iff_ne.mpr c15
         have H' := Aside0.mk H
         clear H
         have hnb23 := NB218_220.out
         have hnc23 := NB220_218.out
         obtain ⟨hcz24_0, hcz24_1, hcz24_2, hcz24_3, hcz24_4⟩ := bc5 BK218.out
         obtain ⟨hfz24_0, hfz24_1, hfz24_2, hfz24_3, hfz24_4⟩ := bf5 BK218.out
         obtain ⟨hcz25_0, hcz25_1, hcz25_2, hcz25_3, hcz25_4⟩ := bc5 BK220.out
         obtain ⟨hfz25_0, hfz25_1, hfz25_2, hfz25_3, hfz25_4⟩ := bf5 BK220.out
         go_wp2
         repeat (go_quiet (fail); try go_wp2)
         go_meet
         case rel => exact ⟨_, (true), (Z3), H', ⟨Z125⟩, ⟨Z20⟩, ⟨Z7⟩, ⟨Z33⟩⟩
       ·rw [if_neg c14] at H
        have c14b0 := beq_eq_false_iff_ne.mpr c14
        have c14b1 := bne_iff_ne.mpr c14
        have H' := Aside0.mk H
        clear H
        have hnb26 := NB218_220.out
        have hnc26 := NB220_218.out
        obtain ⟨hcz27_0, hcz27_1, hcz27_2, hcz27_3, hcz27_4⟩ := bc5 BK218.out
        obtain ⟨hfz27_0, hfz27_1, hfz27_2, hfz27_3, hfz27_4⟩ := bf5 BK218.out
        obtain ⟨hcz28_0, hcz28_1, hcz28_2, hcz28_3, hcz28_4⟩ := bc5 BK220.out
        obtain ⟨hfz28_0, hfz28_1, hfz28_2, hfz28_3, hfz28_4⟩ := bf5 BK220.out
        go_wp2
        repeat (go_quiet (fail); try go_wp2)
        go_meet
        case rel => exact ⟨_, (true), (Z3), H', ⟨Z125⟩, ⟨Z20⟩, ⟨Z7⟩, ⟨Z33⟩⟩
      ·rw [if_neg c13] at H
       have c13b0 := beq_eq_false_iff_ne.mpr c13
       have c13b1 := bne_iff_ne.mpr c13
       (first | rw [c13b0] | rw [c13b1] | (simp only [i64_w, i32_w]; rw [c13b0]) | skip)
       have H' := Aside0.mk H
       clear H
       have hnb29 := NB218_220.out
       have hnc29 := NB220_218.out
       obtain ⟨hcz30_0, hcz30_1, hcz30_2, hcz30_3, hcz30_4⟩ := bc5 BK218.out
       obtain ⟨hfz30_0, hfz30_1, hfz30_2, hfz30_3, hfz30_4⟩ := bf5 BK218.out
       obtain ⟨hcz31_0, hcz31_1, hcz31_2, hcz31_3, hcz31_4⟩ := bc5 BK220.out
       obtain ⟨hfz31_0, hfz31_1, hfz31_2, hfz31_3, hfz31_4⟩ := bf5 BK220.out
       go_wp2
       repeat (go_quiet (fail); try go_wp2)
       go_meet
       case rel => exact ⟨_, (true), (Z3), H', ⟨Z125⟩, ⟨Z20⟩, ⟨Z7⟩, ⟨Z33⟩⟩
     case rest =>
      clear HC7
      (try clear c1); (try clear c3); (try clear c3b0); (try clear c3b1); (try clear c3b2); (try clear c4); (try clear c4b0); (try clear c5); (try clear c5b0); (try clear c6); (try clear c6b0); (try clear hcz12_0); (try clear hcz12_1); (try clear hcz12_2); (try clear hcz12_3); (try clear hcz12_4); (try clear hcz9_0); (try clear hcz9_1); (try clear hcz9_2); (try clear hcz9_3); (try clear hcz9_4); (try clear hfz12_0); (try clear hfz12_1); (try clear hfz12_2); (try clear hfz12_3); (try clear hfz12_4); (try clear hfz9_0); (try clear hfz9_1); (try clear hfz9_2); (try clear hfz9_3); (try clear hfz9_4); (try clear hx217_0); (try clear hx217_1); (try clear hx217_2); (try clear hx217_3); (try clear hx217_4); (try clear hx219_0); (try clear hx219_1); (try clear hx219_2); (try clear hx219_3); (try clear hx219_4); (try clear p217); (try clear p219); (try clear q217); (try clear q219)
      obtain ⟨kq, x65_6, rfl, HA, HJ6, BK218, BK220, HB⟩ := hcut
      cases kq with
      | zero => exact absurd HA.out (by simp [spec_l09Same.j1])
      | succ kj6 =>
       have H := HA.out
       clear HA
       simp only [spec_l09Same.j1] at H
       by_cases c32 : x65_6 = true
       ·subst c32
        replace H := ifT H
        obtain rfl := Option.some.inj H
        go_wp2
        repeat (go_quiet (fail); try go_wp2)
        go_ret
        exact ⟨Z2, Z33⟩
       ·replace c32 := Bool.eq_false_iff.mpr c32
        subst c32
        replace H := ifF H
        have H' := Aside0.mk H
        clear H
        go_wp2
        repeat (go_quiet (fail); try go_wp2)
        go_loopg [8] kj6 (fun kq v8 w' => ∃ (x8_3 : Int), v8 = .int .i64 x8_3 ∧ Aside0 (spec_l09Same.l1 kq l0 l1 x5_1 x8_3 ((rd_T59 l0 x5_1).f0) ((rd_T59 l0 x5_1).f1) ((rd_T59 l0 x5_1).f2) ((rd_T59 l0 x5_1).f3) ((rd_T59 l0 x5_1).f4) ((rd_T59 l1 x5_1).f0) ((rd_T59 l1 x5_1).f1) ((rd_T59 l1 x5_1).f2) ((rd_T59 l1 x5_1).f3) ((rd_T59 l1 x5_1).f4) = some r) ∧ Aside0 (kq ≤ kj6) ∧ Aside0 (w'.heap[gb218]? = some (.cells #[.string ((rd_T59 l0 x5_1).f0), .int .i64 ((rd_T59 l0 x5_1).f1), .int .i64 ((rd_T59 l0 x5_1).f2), (.slice A217_3 ((rd_T59 l0 x5_1).f3).length c217_3), (.slice A217_4 ((rd_T59 l0 x5_1).f4).length c217_4)] 59 (0, 0))) ∧ Aside0 (w'.heap[gb220]? = some (.cells #[.string ((rd_T59 l1 x5_1).f0), .int .i64 ((rd_T59 l1 x5_1).f1), .int .i64 ((rd_T59 l1 x5_1).f2), (.slice A219_3 ((rd_T59 l1 x5_1).f3).length c219_3), (.slice A219_4 ((rd_T59 l1 x5_1).f4).length c219_4)] 59 (0, 0))) ∧ Aside0 (Below w.heap.size w w'))
        case atStart => exact ⟨(0), (Z3), H', ⟨Nat.le_refl _⟩, ⟨Z120⟩, ⟨Z121⟩, ⟨Z33⟩⟩
        case round =>
         clear H'
         (try clear c1); (try clear c3); (try clear c3b0); (try clear c3b1); (try clear c3b2); (try clear c4); (try clear c4b0); (try clear c5); (try clear c5b0); (try clear c6); (try clear c6b0); (try clear c32); (try clear hcz12_0); (try clear hcz12_1); (try clear hcz12_2); (try clear hcz12_3); (try clear hcz12_4); (try clear hcz9_0); (try clear hcz9_1); (try clear hcz9_2); (try clear hcz9_3); (try clear hcz9_4); (try clear hfz12_0); (try clear hfz12_1); (try clear hfz12_2); (try clear hfz12_3); (try clear hfz12_4); (try clear hfz9_0); (try clear hfz9_1); (try clear hfz9_2); (try clear hfz9_3); (try clear hfz9_4); (try clear hx217_0); (try clear hx217_1); (try clear hx217_2); (try clear hx217_3); (try clear hx217_4); (try clear hx219_0); (try clear hx219_1); (try clear hx219_2); (try clear hx219_3); (try clear hx219_4); (try clear p217); (try clear p219); (try clear q217); (try clear q219)
         obtain ⟨x8_3, rfl, HA, HK3, BK218, BK220, HB⟩ := hrel
         cases gk with
         | zero => exact absurd HA.out (by simp [spec_l09Same.l1])
         | succ k3 =>
          have H := HA.out
          clear HA
          simp only [spec_l09Same.l1] at H
          by_cases c33 : x8_3 < (((rd_T59 l0 x5_1).f3).length : Int)
          ·rw [if_pos c33] at H
           have c33b0 := decide_eq_true c33
           clear c33
           obtain ⟨c34, H⟩ := ifS H
           have c34b0 : decide (0 ≤ x8_3) = true := decide_eq_true c34
           clear c34
           obtain ⟨c35, H⟩ := ifS H
           have c35b0 : decide (x8_3 < (((rd_T59 l1 x5_1).f3).length : Int)) = true := decide_eq_true c35
           clear c35
           by_cases c36 : (!(((rd_T71 ((rd_T59 l0 x5_1).f3) x8_3).f0) == ((rd_T71 ((rd_T59 l1 x5_1).f3) x8_3).f0)) || (!(((rd_T71 ((rd_T59 l0 x5_1).f3) x8_3).f1) == ((rd_T71 ((rd_T59 l1 x5_1).f3) x8_3).f1)) || (!((((rd_T71 ((rd_T59 l0 x5_1).f3) x8_3).f2).toList) == (((rd_T71 ((rd_T59 l1 x5_1).f3) x8_3).f2).toList))))) = true
           ·rw [if_pos c36] at H
            have c36b0 : (!(((rd_T71 ((rd_T59 l0 x5_1).f3) x8_3).f0) == ((rd_T71 ((rd_T59 l1 x5_1).f3) x8_3).f0)) || (!(((rd_T71 ((rd_T59 l0 x5_1).f3) x8_3).f1) == ((rd_T71 ((rd_T59 l1 x5_1).f3) x8_3).f1)) || (!((((rd_T71 ((rd_T59 l0 x5_1).f3) x8_3).f2).toList) == (((rd_T71 ((rd_T59 l1 x5_1).f3) x8_3).f2).toList))))) = true := c36
            clear c36
            obtain rfl := Option.some.inj H
            have hnb37 := NB218_220.out
            have hnc37 := NB220_218.out
            obtain ⟨hcz38_0, hcz38_1, hcz38_2, hcz38_3, hcz38_4⟩ := bc5 BK218.out
            obtain ⟨hfz38_0, hfz38_1, hfz38_2, hfz38_3, hfz38_4⟩ := bf5 BK218.out
            have p221 : 0 ≤ (x8_3 : Int) := of_decide_eq_true (Z4)
            have q221 : x8_3 < (((rd_T59 l0 x5_1).f3).length : Int) := of_decide_eq_true (Z4)
            obtain ⟨ad221, e221, hx221_0, hx221_1, hx221_2⟩ := at_T71 HR217_3.out x8_3 p221 q221
            cases e221
            replace hx221_0 := cB HB.out hx221_0
            replace hx221_1 := cB HB.out hx221_1
            replace hx221_2 := cB HB.out hx221_2
            replace p221 := eq_true p221
            replace q221 := eq_true q221
            obtain ⟨hcz39_0, hcz39_1, hcz39_2, hcz39_3, hcz39_4⟩ := bc5 BK220.out
            obtain ⟨hfz39_0, hfz39_1, hfz39_2, hfz39_3, hfz39_4⟩ := bf5 BK220.out
            have p222 : 0 ≤ (x8_3 : Int) := of_decide_eq_true (Z4)
            have q222 : x8_3 < (((rd_T59 l1 x5_1).f3).length : Int) := of_decide_eq_true (Z4)
            obtain ⟨ad222, e222, hx222_0, hx222_1, hx222_2⟩ := at_T71 HR219_3.out x8_3 p222 q222
            cases e222
            replace hx222_0 := cB HB.out hx222_0
            replace hx222_1 := cB HB.out hx222_1
            replace hx222_2 := cB HB.out hx222_2
            replace p222 := eq_true p222
            replace q222 := eq_true q222
            go_wp2
            repeat (go_quiet (fail); try go_wp2)
            go_ret
            exact ⟨Z2, Z33⟩
           ·rw [if_neg c36] at H
            have c36b0 : (!(((rd_T71 ((rd_T59 l0 x5_1).f3) x8_3).f0) == ((rd_T71 ((rd_T59 l1 x5_1).f3) x8_3).f0)) || (!(((rd_T71 ((rd_T59 l0 x5_1).f3) x8_3).f1) == ((rd_T71 ((rd_T59 l1 x5_1).f3) x8_3).f1)) || (!((((rd_T71 ((rd_T59 l0 x5_1).f3) x8_3).f2).toList) == (((rd_T71 ((rd_T59 l1 x5_1).f3) x8_3).f2).toList))))) = false := by simpa using c36
            clear c36
            have H' := Aside0.mk H
            clear H
            have hnb40 := NB218_220.out
            have hnc40 := NB220_218.out
            obtain ⟨hcz41_0, hcz41_1, hcz41_2, hcz41_3, hcz41_4⟩ := bc5 BK218.out
            obtain ⟨hfz41_0, hfz41_1, hfz41_2, hfz41_3, hfz41_4⟩ := bf5 BK218.out
            have p221 : 0 ≤ (x8_3 : Int) := of_decide_eq_true (Z4)
            have q221 : x8_3 < (((rd_T59 l0 x5_1).f3).length : Int) := of_decide_eq_true (Z4)
            obtain ⟨ad221, e221, hx221_0, hx221_1, hx221_2⟩ := at_T71 HR217_3.out x8_3 p221 q221
            cases e221
            replace hx221_0 := cB HB.out hx221_0
            replace hx221_1 := cB HB.out hx221_1
            replace hx221_2 := cB HB.out hx221_2
            replace p221 := eq_true p221
            replace q221 := eq_true q221
            obtain ⟨hcz42_0, hcz42_1, hcz42_2, hcz42_3, hcz42_4⟩ := bc5 BK220.out
            obtain ⟨hfz42_0, hfz42_1, hfz42_2, hfz42_3, hfz42_4⟩ := bf5 BK220.out
            have p222 : 0 ≤ (x8_3 : Int) := of_decide_eq_true (Z4)
            have q222 : x8_3 < (((rd_T59 l1 x5_1).f3).length : Int) := of_decide_eq_true (Z4)
            obtain ⟨ad222, e222, hx222_0, hx222_1, hx222_2⟩ := at_T71 HR219_3.out x8_3 p222 q222
            cases e222
            replace hx222_0 := cB HB.out hx222_0
            replace hx222_1 := cB HB.out hx222_1
            replace hx222_2 := cB HB.out hx222_2
            replace p222 := eq_true p222
            replace q222 := eq_true q222
            go_wp2
            repeat (go_quiet (fail); try go_wp2)
            go_roundg k3
            case measure => have := HK1.out; have := HJ6.out; have := HK3.out; omega
            case rel => exact ⟨(wrap64 (x8_3 + 1)), (Z3), H', ⟨by have := HK1.out; have := HJ6.out; have := HK3.out; omega⟩, ⟨Z120⟩, ⟨Z121⟩, ⟨Z33⟩⟩
          ·rw [if_neg c33] at H
           have c33b0 := decide_eq_false c33
           clear c33
           have H' := Aside0.mk H
           clear H
           have hnb43 := NB218_220.out
           have hnc43 := NB220_218.out
           obtain ⟨hcz44_0, hcz44_1, hcz44_2, hcz44_3, hcz44_4⟩ := bc5 BK218.out
           obtain ⟨hfz44_0, hfz44_1, hfz44_2, hfz44_3, hfz44_4⟩ := bf5 BK218.out
           go_wp2
           repeat (go_quiet (fail); try go_wp2)
           go_loopg [9] k3 (fun kq v9 w' => ∃ (x9_4 : Int), v9 = .int .i64 x9_4 ∧ Aside0 (spec_l09Same.l2 kq l0 l1 x5_1 x9_4 ((rd_T59 l0 x5_1).f0) ((rd_T59 l0 x5_1).f1) ((rd_T59 l0 x5_1).f2) ((rd_T59 l0 x5_1).f3) ((rd_T59 l0 x5_1).f4) ((rd_T59 l1 x5_1).f0) ((rd_T59 l1 x5_1).f1) ((rd_T59 l1 x5_1).f2) ((rd_T59 l1 x5_1).f3) ((rd_T59 l1 x5_1).f4) = some r) ∧ Aside0 (kq ≤ k3) ∧ Aside0 (w'.heap[gb218]? = some (.cells #[.string ((rd_T59 l0 x5_1).f0), .int .i64 ((rd_T59 l0 x5_1).f1), .int .i64 ((rd_T59 l0 x5_1).f2), (.slice A217_3 ((rd_T59 l0 x5_1).f3).length c217_3), (.slice A217_4 ((rd_T59 l0 x5_1).f4).length c217_4)] 59 (0, 0))) ∧ Aside0 (w'.heap[gb220]? = some (.cells #[.string ((rd_T59 l1 x5_1).f0), .int .i64 ((rd_T59 l1 x5_1).f1), .int .i64 ((rd_T59 l1 x5_1).f2), (.slice A219_3 ((rd_T59 l1 x5_1).f3).length c219_3), (.slice A219_4 ((rd_T59 l1 x5_1).f4).length c219_4)] 59 (0, 0))) ∧ Aside0 (Below w.heap.size w w'))
           case atStart => exact ⟨(0), (Z3), H', ⟨Nat.le_refl _⟩, ⟨Z120⟩, ⟨Z121⟩, ⟨Z33⟩⟩
           case round =>
            clear H'
            (try clear c1); (try clear c3); (try clear c3b0); (try clear c3b1); (try clear c3b2); (try clear c4); (try clear c4b0); (try clear c5); (try clear c5b0); (try clear c6); (try clear c6b0); (try clear c32); (try clear c33); (try clear c33b0); (try clear hcz12_0); (try clear hcz12_1); (try clear hcz12_2); (try clear hcz12_3); (try clear hcz12_4); (try clear hcz44_0); (try clear hcz44_1); (try clear hcz44_2); (try clear hcz44_3); (try clear hcz44_4); (try clear hcz9_0); (try clear hcz9_1); (try clear hcz9_2); (try clear hcz9_3); (try clear hcz9_4); (try clear hfz12_0); (try clear hfz12_1); (try clear hfz12_2); (try clear hfz12_3); (try clear hfz12_4); (try clear hfz44_0); (try clear hfz44_1); (try clear hfz44_2); (try clear hfz44_3); (try clear hfz44_4); (try clear hfz9_0); (try clear hfz9_1); (try clear hfz9_2); (try clear hfz9_3); (try clear hfz9_4); (try clear hx217_0); (try clear hx217_1); (try clear hx217_2); (try clear hx217_3); (try clear hx217_4); (try clear hx219_0); (try clear hx219_1); (try clear hx219_2); (try clear hx219_3); (try clear hx219_4); (try clear p217); (try clear p219); (try clear q217); (try clear q219)
            obtain ⟨x9_4, rfl, HA, HK4, BK218, BK220, HB⟩ := hrel
            cases gk with
            | zero => exact absurd HA.out (by simp [spec_l09Same.l2])
            | succ k4 =>
             have H := HA.out
             clear HA
             simp only [spec_l09Same.l2] at H
             by_cases c45 : x9_4 < (((rd_T59 l0 x5_1).f4).length : Int)
             ·rw [if_pos c45] at H
              have c45b0 := decide_eq_true c45
              clear c45
              obtain ⟨c46, H⟩ := ifS H
              have c46b0 : decide (0 ≤ x9_4) = true := decide_eq_true c46
              clear c46
              obtain ⟨c47, H⟩ := ifS H
              have c47b0 : decide (x9_4 < (((rd_T59 l1 x5_1).f4).length : Int)) = true := decide_eq_true c47
              clear c47
              by_cases c48 : (rdOf ByteArray.empty ((rd_T59 l0 x5_1).f4) x9_4).toList = (rdOf ByteArray.empty ((rd_T59 l1 x5_1).f4) x9_4).toList
              ·rw [if_pos c48] at H
               have c48b0 := beq_iff_eq.mpr c48
               have c48b1 := bne_eq_false_iff_eq.mpr c48
               clear c48
               have H' := Aside0.mk H
               clear H
               have hnb49 := NB218_220.out
               have hnc49 := NB220_218.out
               obtain ⟨hcz50_0, hcz50_1, hcz50_2, hcz50_3, hcz50_4⟩ := bc5 BK218.out
               obtain ⟨hfz50_0, hfz50_1, hfz50_2, hfz50_3, hfz50_4⟩ := bf5 BK218.out
               have p223 : 0 ≤ (x9_4 : Int) := of_decide_eq_true (Z4)
               have q223 : x9_4 < (((rd_T59 l0 x5_1).f4).length : Int) := of_decide_eq_true (Z4)
               obtain ⟨ad223, e223, hx223_0⟩ := Kd.at_string HR217_4.out x9_4 p223 q223
               cases e223
               replace hx223_0 := cB HB.out hx223_0
               replace p223 := eq_true p223
               replace q223 := eq_true q223
               obtain ⟨hcz51_0, hcz51_1, hcz51_2, hcz51_3, hcz51_4⟩ := bc5 BK220.out
               obtain ⟨hfz51_0, hfz51_1, hfz51_2, hfz51_3, hfz51_4⟩ := bf5 BK220.out
               have p224 : 0 ≤ (x9_4 : Int) := of_decide_eq_true (Z4)
               have q224 : x9_4 < (((rd_T59 l1 x5_1).f4).length : Int) := of_decide_eq_true (Z4)
               obtain ⟨ad224, e224, hx224_0⟩ := Kd.at_string HR219_4.out x9_4 p224 q224
               cases e224
               replace hx224_0 := cB HB.out hx224_0
               replace p224 := eq_true p224
               replace q224 := eq_true q224
               go_wp2
               repeat (go_quiet (fail); try go_wp2)
               go_roundg k4
               case measure => have := HK1.out; have := HJ6.out; have := HK3.out; have := HK4.out; omega
               case rel => exact ⟨(wrap64 (x9_4 + 1)), (Z3), H', ⟨by have := HK1.out; have := HJ6.out; have := HK3.out; have := HK4.out; omega⟩, ⟨Z120⟩, ⟨Z121⟩, ⟨Z33⟩⟩
              ·rw [if_neg c48] at H
               have c48b0 := beq_eq_false_iff_ne.mpr c48
               have c48b1 := bne_iff_ne.mpr c48
               obtain rfl := Option.some.inj H
               have hnb52 := NB218_220.out
               have hnc52 := NB220_218.out
               obtain ⟨hcz53_0, hcz53_1, hcz53_2, hcz53_3, hcz53_4⟩ := bc5 BK218.out
               obtain ⟨hfz53_0, hfz53_1, hfz53_2, hfz53_3, hfz53_4⟩ := bf5 BK218.out
               have p223 : 0 ≤ (x9_4 : Int) := of_decide_eq_true (Z4)
               have q223 : x9_4 < (((rd_T59 l0 x5_1).f4).length : Int) := of_decide_eq_true (Z4)
               obtain ⟨ad223, e223, hx223_0⟩ := Kd.at_string HR217_4.out x9_4 p223 q223
               cases e223
               replace hx223_0 := cB HB.out hx223_0
               replace p223 := eq_true p223
               replace q223 := eq_true q223
               obtain ⟨hcz54_0, hcz54_1, hcz54_2, hcz54_3, hcz54_4⟩ := bc5 BK220.out
               obtain ⟨hfz54_0, hfz54_1, hfz54_2, hfz54_3, hfz54_4⟩ := bf5 BK220.out
               have p224 : 0 ≤ (x9_4 : Int) := of_decide_eq_true (Z4)
               have q224 : x9_4 < (((rd_T59 l1 x5_1).f4).length : Int) := of_decide_eq_true (Z4)
               obtain ⟨ad224, e224, hx224_0⟩ := Kd.at_string HR219_4.out x9_4 p224 q224
               cases e224
               replace hx224_0 := cB HB.out hx224_0
               replace p224 := eq_true p224
               replace q224 := eq_true q224
               go_wp2
               repeat (go_quiet (fail); try go_wp2)
               go_ret
               exact ⟨Z2, Z33⟩
             ·rw [if_neg c45] at H
              have c45b0 := decide_eq_false c45
              clear c45
              have H' := Aside0.mk H
              clear H
              have hnb55 := NB218_220.out
              have hnc55 := NB220_218.out
              obtain ⟨hcz56_0, hcz56_1, hcz56_2, hcz56_3, hcz56_4⟩ := bc5 BK218.out
              obtain ⟨hfz56_0, hfz56_1, hfz56_2, hfz56_3, hfz56_4⟩ := bf5 BK218.out
              go_wp2
              repeat (go_quiet (fail); try go_wp2)
              go_roundg k4
              case measure => have := HK1.out; have := HJ6.out; have := HK3.out; have := HK4.out; omega
              case rel => exact ⟨(wrap64 (x5_1 + 1)), (Z3), H', ⟨by have := HK1.out; have := HJ6.out; have := HK3.out; have := HK4.out; omega⟩, ⟨Z33⟩⟩
    ·rw [if_neg c4] at H
     have c4b0 := decide_eq_false c4
     clear c4
     obtain rfl := Option.some.inj H
     go_wp2
     repeat (go_quiet (fail); try go_wp2)
     go_ret
     exact ⟨Z2, Z0⟩
 ·rw [if_neg c3] at H
  have c3b0 := beq_eq_false_iff_ne.mpr c3
  have c3b1 := bne_iff_ne.mpr c3
  have c3b2 : (l0.length == l1.length) = false := by first | simpa using c3 | (simp at c3 ⊢; omega)
  obtain rfl := Option.some.inj H
  go_enter Try.func15, Try.ntmps15
  go_wp2
  repeat (go_quiet (fail); try go_wp2)
  go_ret
  exact ⟨Z2, Z0⟩

end Go.Proofs.Ytbikfhccfenkdaa.PFnExactEngineOK
