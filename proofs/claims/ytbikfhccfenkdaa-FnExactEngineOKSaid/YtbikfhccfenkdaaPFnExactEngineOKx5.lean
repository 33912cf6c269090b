/- Contracts of functions that a statement reaches (wip/x/xprint.py, short.py, compact.py). -/
import Derived.Test.YtbikfhccfenkdaaPFnExactEngineOKx0
namespace Go.Proofs.Ytbikfhccfenkdaa.PFnExactEngineOK
open Go.RowKit Go.Proofs.YtbikfhccfenkdaaW.PrintWords Go.Proofs.YtbikfhccfenkdaaW.PrintLast Go.Proofs.YtbikfhccfenkdaaW.PrintMore Go.Proofs.Ytbikfhccfenkdaa.Mac
attribute [local go_sem] max2_int min2_int max_two min_two max_three min_three max_four min_four
set_option linter.unusedVariables false
set_option linter.unusedSimpArgs false

/-! ### spec_l09Find: function 28 -/
def spec_l09Find.l0 : Nat → List (S59) → ByteArray → Int → Option (Int)
 | 0, _, _, _ => none
 | k + 1, x0, x1, x5 => if x5 < (x0.length : Int) then (if 0 ≤ x5 then (if ((rd_T59 x0 x5).f0).toList = x1.toList then (some x5) else (spec_l09Find.l0 k x0 x1 (wrap64 (x5 + 1)))) else (none)) else (some (-1))
def spec_l09Find.f (k : Nat) (l0 : List (S59)) (a1 : ByteArray) : Option (Int) := spec_l09Find.l0 k l0 a1 0
theorem spec_l09Find.mono_l : ∀ k, (∀ y0 y1 y2, LeO (spec_l09Find.l0 k y0 y1 y2) (spec_l09Find.l0 (k + 1) y0 y1 y2))
 | 0 => fun _ _ _ r h => by simp [spec_l09Find.l0] at h
 | k + 1 => by
  have ih0 := spec_l09Find.mono_l k
  ·intro y0 y1 y2
   unfold spec_l09Find.l0
   exact tM
theorem spec_l09Find.mono : ∀ a0 a1 k, LeO (spec_l09Find.f k a0 a1) (spec_l09Find.f (k + 1) a0 a1) := by
 intro a0 a1 k
 have ih0 := spec_l09Find.mono_l k
 unfold spec_l09Find.f
 exact tM
set_option maxHeartbeats 40000000 in
set_option maxRecDepth 100000 in
theorem spec_l09Find.calls (k : Nat) (A0 : Option Addr) (c0 : Nat) (l0 : List (S59)) (a1 : ByteArray) (r : Int) (w : World) (hr0 : Kd.C k59 w A0 l0.length l0) (hc0 : l0.length ≤ c0) (h : spec_l09Find.f k l0 a1 = some r) :
  Calls Try.prog 28 #[.slice A0 l0.length c0, .string a1] w fun e w' => e = .returned (.int .i64 r) ∧ Drawn0 w w' := by
 have HR0 := Aside0.mk hr0
 have HC0 := Aside0.mk hc0
 clear hr0 hc0
 have H : (spec_l09Find.l0 k l0 a1 0) = some r := h
 clear h
 have H' := Aside0.mk H
 clear H
 go_enter Try.func28, Try.ntmps28
 go_wp2
 go_loopg [5] k (fun kq v5 w' => ∃ (x5_1 : Int), v5 = .int .i64 x5_1 ∧ Aside0 (spec_l09Find.l0 kq l0 a1 x5_1 = some r) ∧ Aside0 (kq ≤ k) ∧ Drawn0 w w')
 case atStart => exact ⟨(0), (Z3), H', ⟨Nat.le_refl _⟩, Z13⟩
 case round =>
  clear H'
  obtain ⟨x5_1, rfl, HA, HK1, ⟨m1, rfl⟩⟩ := hrel
  cases gk with
  | zero => exact absurd HA.out (by simp [spec_l09Find.l0])
  | succ k1 =>
   have H := HA.out
   clear HA
   simp only [spec_l09Find.l0] at H
   by_cases c3 : x5_1 < (l0.length : Int)
   ·rw [if_pos c3] at H
    have c3b0 := decide_eq_true c3
    clear c3
    obtain ⟨c4, H⟩ := ifS H
    have c4b0 : decide (0 ≤ x5_1) = true := decide_eq_true c4
    clear c4
    by_cases c5 : ((rd_T59 l0 x5_1).f0).toList = a1.toList
    ·rw [if_pos c5] at H
     have c5b0 := beq_iff_eq.mpr c5
     have c5b1 := bne_eq_false_iff_eq.mpr c5
     clear c5
     obtain rfl := Option.some.inj H
     have p137 : 0 ≤ (x5_1 : Int) := of_decide_eq_true (Z4)
     have q137 : x5_1 < (l0.length : Int) := of_decide_eq_true (Z4)
     obtain ⟨ad137, A137_3, c137_3, A137_4, c137_4, e137, hx137_0, hx137_1, hx137_2, hx137_3, hx137_4, hl137_3, hi137_3, hl137_4, hi137_4⟩ := at_T59 HR0.out x5_1 p137 q137
     cases e137
     have HR137_3 := Aside0.mk hi137_3
     have HC137_3 := Aside0.mk hl137_3
     clear hi137_3 hl137_3
     have HR137_4 := Aside0.mk hi137_4
     have HC137_4 := Aside0.mk hl137_4
     clear hi137_4 hl137_4
     replace p137 := eq_true p137
     replace q137 := eq_true q137
     go_wp2
     go_ret
     exact ⟨Z3, Z13⟩
    ·rw [if_neg c5] at H
     have c5b0 := beq_eq_false_iff_ne.mpr c5
     have c5b1 := bne_iff_ne.mpr c5
     have H' := Aside0.mk H
     clear H
     have p137 : 0 ≤ (x5_1 : Int) := of_decide_eq_true (Z4)
     have q137 : x5_1 < (l0.length : Int) := of_decide_eq_true (Z4)
     obtain ⟨ad137, A137_3, c137_3, A137_4, c137_4, e137, hx137_0, hx137_1, hx137_2, hx137_3, hx137_4, hl137_3, hi137_3, hl137_4, hi137_4⟩ := at_T59 HR0.out x5_1 p137 q137
     cases e137
     have HR137_3 := Aside0.mk hi137_3
     have HC137_3 := Aside0.mk hl137_3
     clear hi137_3 hl137_3
     have HR137_4 := Aside0.mk hi137_4
     have HC137_4 := Aside0.mk hl137_4
     clear hi137_4 hl137_4
     replace p137 := eq_true p137
     replace q137 := eq_true q137
     go_wp2
     go_roundg k1
     case measure => have := HK1.out; omega
     case rel => exact ⟨(wrap64 (x5_1 + 1)), (Z3), H', ⟨Z110⟩, Z13⟩
   ·rw [if_neg c3] at H
    have c3b0 := decide_eq_false c3
    clear c3
    obtain rfl := Option.some.inj H
    go_wp2
    go_ret
    exact ⟨Z3, Z13⟩

end Go.Proofs.Ytbikfhccfenkdaa.PFnExactEngineOK
