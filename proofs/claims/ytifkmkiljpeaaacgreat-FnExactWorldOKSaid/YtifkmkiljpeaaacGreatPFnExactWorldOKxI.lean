import Derived.Test.YtifkmkiljpeaaacGreatPFnExactWorldOKxA
import Derived.Test.YtifkmkiljpeaaacGreatPFnExactWorldOKxH
import Derived.Test.YtifkmkiljpeaaacGreatPFnExactWorldOKxG
set_option maxHeartbeats 40000000
set_option maxRecDepth 100000
namespace Go.Proofs.YtifkmkiljpeaaacGreat.PFnExactWorldOK
open Go.RowKit Go.Proofs.YtifkmkiljpeaaacGreatW.PrintWords Go.Proofs.YtifkmkiljpeaaacGreatW.PrintLast Go.Proofs.YtifkmkiljpeaaacGreatW.PrintMore Go.Proofs.YtifkmkiljpeaaacGreat.Mac Go.Proofs.Tryz
set_option linter.unusedVariables false
set_option linter.unusedSimpArgs false
def laws_eqStoredS.l0 : Nat → List (S109) → List (S109) → Int → Option (Bool)
 | 0, _, _, _ => none
 | k + 1, x0, x1, x5 => if x5 < (x0.length : Int) then (if 0 ≤ x5 then (if x5 < (x1.length : Int) then ((laws_eqStored.f ((rd_T109 x0 x5).f0) ((rd_T109 x0 x5).f1) ((rd_T109 x0 x5).f2) ((rd_T109 x1 x5).f0) ((rd_T109 x1 x5).f1) ((rd_T109 x1 x5).f2)).bind fun s => (if s = true then (laws_eqStoredS.l0 k x0 x1 (wrap64 (x5 + 1))) else (some false))) else (none)) else (none)) else (some true)
def laws_eqStoredS.f (k : Nat) (l0 : List (S109)) (l1 : List (S109)) : Option (Bool) := if (l0.length : Int) = (l1.length : Int) then (laws_eqStoredS.l0 k l0 l1 0) else (some false)
def laws_eqStoredS.T6 : Bool × List (List Nat × List Nat) := (true, [([], []), ([], []), ([0, 1], [0, 1]), ([2], [2]), ([], []), ([], []), ([4, 5], [4, 5]), ([6], [6]), ([3, 7], [3, 7]), ([8], [8])])
def laws_eqStoredS.B6 : List Nat := [0, 0, 3, 7, 0, 0, 48, 112, 255, 511]
theorem laws_eqStoredS.tab6 : rtab .any (opsOf Tryz.f110 6) = laws_eqStoredS.T6 := by kernel_rfl
theorem laws_eqStoredS.bits6 : waitsOk laws_eqStoredS.T6.2 laws_eqStoredS.B6 = true := by kernel_rfl
theorem laws_eqStoredS.calls (k : Nat) (A0 : Option Addr) (c0 : Nat) (l0 : List (S109)) (A1 : Option Addr) (c1 : Nat) (l1 : List (S109)) (r : Bool) (w : World) (hr0 : Kd.C k109 w A0 l0.length l0) (aN : l0.length ≤ c0) (aF : Kd.C k109 w A1 l1.length l1) (aO : l1.length ≤ c1) (h : laws_eqStoredS.f k l0 l1 = some r) :
  Calls prog 110 #[.slice A0 l0.length c0, .slice A1 l1.length c1] w fun e w' => e = .returned (.bool r) ∧ Below w.heap.size w w' := by
 have aX := underlying109
 replace hr0 := aM hr0
 replace aN := aM aN
 replace aF := aM aF
 replace aO := aM aO
 have HB := aM (Below.refl w.heap.size w)
 have H := h
 clear h
 unfold laws_eqStoredS.f at H
 by_cases c3 : (l0.length : Int) = (l1.length : Int)
 ·rw [if_pos c3] at H
  have aP := beq_iff_eq.mpr c3
  have aQ := bne_eq_false_iff_eq.mpr c3
  have aR : (l0.length == l1.length) = true := by first | simpa using c3 | (simp at c3 ⊢; omega)
  clear c3
  have H' := aM H
  clear H
  go_enter func110, ntmps110
  go_wp2
  go_loopg [5] k (fun kq v5 w' => ∃ (x5_1 : Int), v5 = .int .i64 x5_1 ∧ Aside0 (laws_eqStoredS.l0 kq l0 l1 x5_1 = some r) ∧ Aside0 (kq ≤ k) ∧ Aside0 (Below w.heap.size w w'))
  case atStart => exact ⟨(0), (Z3), H', ⟨Nat.le_refl _⟩, ⟨Z0⟩⟩
  case round =>
   clear H'
   (try clear c1); (try clear c3); (try clear aP); (try clear aQ); (try clear aR)
   obtain ⟨x5_1, rfl, HA, HK1, HB⟩ := hrel
   cases gk with
   | zero => exact absurd HA.out (by simp [laws_eqStoredS.l0])
   | succ k1 =>
    have H := HA.out
    clear HA
    simp only [laws_eqStoredS.l0] at H
    by_cases c4 : x5_1 < (l0.length : Int)
    ·rw [if_pos c4] at H
     have aV := decide_eq_true c4
     clear c4
     obtain ⟨c5, H⟩ := ifS H
     have aY := decide_eq_true c5
     clear c5
     obtain ⟨c6, H⟩ := ifS H
     have aZ := decide_eq_true c6
     clear c6
     obtain ⟨aW, A7, H⟩ := bindA H
     try dsimp only at H
     by_cases c8 : aW = true
     ·subst c8
      replace H := ifT H
      have H' := aM H
      clear H
      try go_wp2
      replace HB := aM (below_drew1 HB.out)
      have O : 0 ≤ (x5_1 : Int) := of_decide_eq_true (Z4)
      have U : x5_1 < (l0.length : Int) := of_decide_eq_true (Z4)
      obtain ⟨aG, aH, s, y, D⟩ := at_T109 hr0.out x5_1 O U
      have Z := D
      have aA := y
      have aB := s
      cases aH
      replace s := cB HB.out s
      replace y := cB HB.out y
      replace D := cB HB.out D
      replace O := eq_true O
      replace U := eq_true U
      have X : 0 ≤ (x5_1 : Int) := of_decide_eq_true (Z4)
      have Y : x5_1 < (l1.length : Int) := of_decide_eq_true (Z4)
      obtain ⟨aI, aJ, I, J, M⟩ := at_T109 aF.out x5_1 X Y
      have aC := M
      have aD := J
      have aE := I
      cases aJ
      replace I := cB HB.out I
      replace J := cB HB.out J
      replace M := cB HB.out M
      replace X := eq_true X
      replace Y := eq_true Y
      refine start_ (n := 10) (S := fun w' => Qa3 (aG.add ((x5_1).toNat * 3)) (.int .i64 ((rd_T109 l0 x5_1).f0)) (.int .i64 ((rd_T109 l0 x5_1).f1)) (.string ((rd_T109 l0 x5_1).f2)) (qa3 (aI.add ((x5_1).toNat * 3)) (.int .i64 ((rd_T109 l1 x5_1).f0)) (.int .i64 ((rd_T109 l1 x5_1).f1)) (.string ((rd_T109 l1 x5_1).f2)) w') w') (ds := []) #[false, false, false, false, false, false, false, false, false, false] (Z18) rfl rfl ⟨(cB HB.out aB :), ⟨(cB HB.out aA :), ⟨(cB HB.out Z :), ⟨(cB HB.out aE :), ⟨(cB HB.out aD :), (cB HB.out aC :)⟩⟩⟩⟩⟩ (fun hHeld => ?_); refine with_tabW laws_eqStoredS.tab6 laws_eqStoredS.bits6 (fun HT_ HW_ => ?_)
      generalize wr.drew = w9 at HB s y D I J M hHeld ⊢
      refine pA 0 17 ?_
      refine pA 1 18 ?_
      refine pA 2 19 ?_
      refine pA 4 21 ?_
      refine pA 5 22 ?_
      refine pA 6 23 ?_
      refine tA 3 20 ?_
      refine tA 7 24 ?_
      refine oA 8 25 (fun K hK => ?_)
      refine goes_ func125 (Z18) rfl #[.agg #[.int .i64 ((rd_T109 l0 x5_1).f0), .int .i64 ((rd_T109 l0 x5_1).f1), .string ((rd_T109 l0 x5_1).f2)], .agg #[.int .i64 ((rd_T109 l1 x5_1).f0), .int .i64 ((rd_T109 l1 x5_1).f1), .string ((rd_T109 l1 x5_1).f2)]] (Z117) rfl rfl (Z2) ?_
      with_reducible refine (laws_eqStored.calls ((rd_T109 l0 x5_1).f0) ((rd_T109 l0 x5_1).f1) ((rd_T109 l0 x5_1).f2) ((rd_T109 l1 x5_1).f0) ((rd_T109 l1 x5_1).f1) ((rd_T109 l1 x5_1).f2) true _ A7.out).mono ?_
      rintro e a3 ⟨rfl, hb⟩
      refine ⟨_, rfl, ?_⟩
      replace HB := aM (below_step (Z0) hb)
      (try clear hb)
      refine hK.out _ _ ⟨(cB HB.out aB :), ⟨(cB HB.out aA :), ⟨(cB HB.out Z :), ⟨(cB HB.out aE :), ⟨(cB HB.out aD :), (cB HB.out aC :)⟩⟩⟩⟩⟩ (fun hHeld => ?_)
      clear hK K
      refine nB 25 ?_
      refine pA 9 26 ?_
      refine done_ (done_of HT_.out (Z18)) ?_
      try go_wp2
      go_roundg k1
      case measure => have := HK1.out; omega
      case rel => exact ⟨(wrap64 (x5_1 + 1)), (Z3), H', ⟨Z125⟩, ⟨Z0⟩⟩
     ·replace c8 := Bool.eq_false_iff.mpr c8
      subst c8
      replace H := ifF H
      obtain rfl := oI H
      try go_wp2
      replace HB := aM (below_drew1 HB.out)
      have O : 0 ≤ (x5_1 : Int) := of_decide_eq_true (Z4)
      have U : x5_1 < (l0.length : Int) := of_decide_eq_true (Z4)
      obtain ⟨aG, aH, s, y, D⟩ := at_T109 hr0.out x5_1 O U
      have Z := D
      have aA := y
      have aB := s
      cases aH
      replace s := cB HB.out s
      replace y := cB HB.out y
      replace D := cB HB.out D
      replace O := eq_true O
      replace U := eq_true U
      have X : 0 ≤ (x5_1 : Int) := of_decide_eq_true (Z4)
      have Y : x5_1 < (l1.length : Int) := of_decide_eq_true (Z4)
      obtain ⟨aI, aJ, I, J, M⟩ := at_T109 aF.out x5_1 X Y
      have aC := M
      have aD := J
      have aE := I
      cases aJ
      replace I := cB HB.out I
      replace J := cB HB.out J
      replace M := cB HB.out M
      replace X := eq_true X
      replace Y := eq_true Y
      refine start_ (n := 10) (S := fun w' => Qa3 (aG.add ((x5_1).toNat * 3)) (.int .i64 ((rd_T109 l0 x5_1).f0)) (.int .i64 ((rd_T109 l0 x5_1).f1)) (.string ((rd_T109 l0 x5_1).f2)) (qa3 (aI.add ((x5_1).toNat * 3)) (.int .i64 ((rd_T109 l1 x5_1).f0)) (.int .i64 ((rd_T109 l1 x5_1).f1)) (.string ((rd_T109 l1 x5_1).f2)) w') w') (ds := []) #[false, false, false, false, false, false, false, false, false, false] (Z18) rfl rfl ⟨(cB HB.out aB :), ⟨(cB HB.out aA :), ⟨(cB HB.out Z :), ⟨(cB HB.out aE :), ⟨(cB HB.out aD :), (cB HB.out aC :)⟩⟩⟩⟩⟩ (fun hHeld => ?_); refine with_tabW laws_eqStoredS.tab6 laws_eqStoredS.bits6 (fun HT_ HW_ => ?_)
      generalize wr.drew = a5 at HB s y D I J M hHeld ⊢
      refine pA 0 17 ?_
      refine pA 1 18 ?_
      refine pA 2 19 ?_
      refine pA 4 21 ?_
      refine pA 5 22 ?_
      refine pA 6 23 ?_
      refine tA 3 20 ?_
      refine tA 7 24 ?_
      refine oA 8 25 (fun K hK => ?_)
      refine goes_ func125 (Z18) rfl #[.agg #[.int .i64 ((rd_T109 l0 x5_1).f0), .int .i64 ((rd_T109 l0 x5_1).f1), .string ((rd_T109 l0 x5_1).f2)], .agg #[.int .i64 ((rd_T109 l1 x5_1).f0), .int .i64 ((rd_T109 l1 x5_1).f1), .string ((rd_T109 l1 x5_1).f2)]] (Z117) rfl rfl (Z2) ?_
      with_reducible refine (laws_eqStored.calls ((rd_T109 l0 x5_1).f0) ((rd_T109 l0 x5_1).f1) ((rd_T109 l0 x5_1).f2) ((rd_T109 l1 x5_1).f0) ((rd_T109 l1 x5_1).f1) ((rd_T109 l1 x5_1).f2) false _ A7.out).mono ?_
      rintro e a6 ⟨rfl, hb⟩
      refine ⟨_, rfl, ?_⟩
      replace HB := aM (below_step (Z0) hb)
      (try clear hb)
      refine hK.out _ _ ⟨(cB HB.out aB :), ⟨(cB HB.out aA :), ⟨(cB HB.out Z :), ⟨(cB HB.out aE :), ⟨(cB HB.out aD :), (cB HB.out aC :)⟩⟩⟩⟩⟩ (fun hHeld => ?_)
      clear hK K
      refine nB 25 ?_
      refine pA 9 26 ?_
      refine done_ (done_of HT_.out (Z18)) ?_
      try go_wp2
      go_ret
      exact ⟨Z1, Z0⟩
    ·rw [if_neg c4] at H
     have aV := decide_eq_false c4
     clear c4
     obtain rfl := oI H
     go_wp2
     go_ret
     exact ⟨Z1, Z0⟩
 ·rw [if_neg c3] at H
  have aP := beq_eq_false_iff_ne.mpr c3
  have aQ := bne_iff_ne.mpr c3
  have aR : (l0.length == l1.length) = false := by first | simpa using c3 | (simp at c3 ⊢; omega)
  obtain rfl := oI H
  go_enter func110, ntmps110
  go_wp2
  go_ret
  exact ⟨Z1, Z0⟩
def laws_eqStringS.l0 : Nat → List ByteArray → List ByteArray → Int → Option (Bool)
 | 0, _, _, _ => none
 | k + 1, x0, x1, x5 => if x5 < (x0.length : Int) then (if 0 ≤ x5 then (if x5 < (x1.length : Int) then (if (rdOf ByteArray.empty x0 x5).toList = (rdOf ByteArray.empty x1 x5).toList then (laws_eqStringS.l0 k x0 x1 (wrap64 (x5 + 1))) else (some false)) else (none)) else (none)) else (some true)
def laws_eqStringS.f (k : Nat) (l0 : List ByteArray) (l1 : List ByteArray) : Option (Bool) := if (l0.length : Int) = (l1.length : Int) then (laws_eqStringS.l0 k l0 l1 0) else (some false)
theorem laws_eqStringS.calls (k : Nat) (U : Option Addr) (c0 : Nat) (l0 : List ByteArray) (X : Option Addr) (c1 : Nat) (l1 : List ByteArray) (r : Bool) (w : World) (hr0 : Kd.C Kd.string w U l0.length l0) (Y : l0.length ≤ c0) (J : Kd.C Kd.string w X l1.length l1) (Z : l1.length ≤ c1) (h : laws_eqStringS.f k l0 l1 = some r) :
  Calls prog 111 #[.slice U l0.length c0, .slice X l1.length c1] w fun e w' => e = .returned (.bool r) ∧ Drawn0 w w' := by
 replace hr0 := aM hr0
 replace Y := aM Y
 replace J := aM J
 replace Z := aM Z
 have H := h
 clear h
 unfold laws_eqStringS.f at H
 by_cases c3 : (l0.length : Int) = (l1.length : Int)
 ·rw [if_pos c3] at H
  have aA := beq_iff_eq.mpr c3
  have aB := bne_eq_false_iff_eq.mpr c3
  have aC : (l0.length == l1.length) = true := by first | simpa using c3 | (simp at c3 ⊢; omega)
  clear c3
  have H' := aM H
  clear H
  go_enter func111, ntmps111
  go_wp2
  repeat (go_quiet (fail); try go_wp2)
  go_loopg [5] k (fun kq v5 w' => ∃ (x5_1 : Int), v5 = .int .i64 x5_1 ∧ Aside0 (laws_eqStringS.l0 kq l0 l1 x5_1 = some r) ∧ Aside0 (kq ≤ k) ∧ Drawn0 w w')
  case atStart => exact ⟨(0), (Z3), H', ⟨Nat.le_refl _⟩, Z9⟩
  case round =>
   clear H'
   (try clear c1); (try clear c3); (try clear aA); (try clear aB); (try clear aC)
   obtain ⟨x5_1, rfl, HA, HK1, ⟨m1, rfl⟩⟩ := hrel
   cases gk with
   | zero => exact absurd HA.out (by simp [laws_eqStringS.l0])
   | succ k1 =>
    have H := HA.out
    clear HA
    simp only [laws_eqStringS.l0] at H
    by_cases c4 : x5_1 < (l0.length : Int)
    ·rw [if_pos c4] at H
     have aF := decide_eq_true c4
     clear c4
     obtain ⟨c5, H⟩ := ifS H
     have aN := decide_eq_true c5
     clear c5
     obtain ⟨c6, H⟩ := ifS H
     have aO := decide_eq_true c6
     clear c6
     by_cases c7 : (rdOf ByteArray.empty l0 x5_1).toList = (rdOf ByteArray.empty l1 x5_1).toList
     ·rw [if_pos c7] at H
      have aG := beq_iff_eq.mpr c7
      have aH := bne_eq_false_iff_eq.mpr c7
      clear c7
      have H' := aM H
      clear H
      have s : 0 ≤ (x5_1 : Int) := of_decide_eq_true (Z4)
      have y : x5_1 < (l0.length : Int) := of_decide_eq_true (Z4)
      obtain ⟨aI, M, aJ⟩ := Kd.at_string hr0.out x5_1 s y
      cases M
      replace s := eq_true s
      replace y := eq_true y
      have D : 0 ≤ (x5_1 : Int) := of_decide_eq_true (Z4)
      have I : x5_1 < (l1.length : Int) := of_decide_eq_true (Z4)
      obtain ⟨aK, O, aL⟩ := Kd.at_string J.out x5_1 D I
      cases O
      replace D := eq_true D
      replace I := eq_true I
      go_wp2
      repeat (go_quiet (fail); try go_wp2)
      go_roundg k1
      case measure => have := HK1.out; omega
      case rel => exact ⟨(wrap64 (x5_1 + 1)), (Z3), H', ⟨Z125⟩, Z9⟩
     ·rw [if_neg c7] at H
      have aG := beq_eq_false_iff_ne.mpr c7
      have aH := bne_iff_ne.mpr c7
      obtain rfl := oI H
      have s : 0 ≤ (x5_1 : Int) := of_decide_eq_true (Z4)
      have y : x5_1 < (l0.length : Int) := of_decide_eq_true (Z4)
      obtain ⟨aI, M, aJ⟩ := Kd.at_string hr0.out x5_1 s y
      cases M
      replace s := eq_true s
      replace y := eq_true y
      have D : 0 ≤ (x5_1 : Int) := of_decide_eq_true (Z4)
      have I : x5_1 < (l1.length : Int) := of_decide_eq_true (Z4)
      obtain ⟨aK, O, aL⟩ := Kd.at_string J.out x5_1 D I
      cases O
      replace D := eq_true D
      replace I := eq_true I
      go_wp2
      repeat (go_quiet (fail); try go_wp2)
      go_ret
      exact ⟨Z3, Z9⟩
    ·rw [if_neg c4] at H
     have aF := decide_eq_false c4
     clear c4
     obtain rfl := oI H
     go_wp2
     repeat (go_quiet (fail); try go_wp2)
     go_ret
     exact ⟨Z3, Z9⟩
 ·rw [if_neg c3] at H
  have aA := beq_eq_false_iff_ne.mpr c3
  have aB := bne_iff_ne.mpr c3
  have aC : (l0.length == l1.length) = false := by first | simpa using c3 | (simp at c3 ⊢; omega)
  obtain rfl := oI H
  go_enter func111, ntmps111
  go_wp2
  repeat (go_quiet (fail); try go_wp2)
  go_ret
  exact ⟨Z3, Z9⟩
def laws_eqBox.f (k : Nat) (s : ByteArray) (y : Int) (D : Int) (l0_3 : List (S109)) (I : List ByteArray) (J : ByteArray) (M : Int) (O : Int) (U : List (S109)) (X : List ByteArray) : Option (Bool) := if s.toList = J.toList then (if y = M then (if D = O then ((laws_eqStoredS.f k l0_3 U).bind fun Y => (if Y = true then ((laws_eqStringS.f k I X).bind fun Z => (if Z = true then (some true) else (some false))) else (some false))) else (some false)) else (some false)) else (some false)
theorem laws_eqBox.calls (k : Nat) (aC : ByteArray) (aD : Int) (aE : Int) (I : Option Addr) (J : Nat) (l0_3 : List (S109)) (Y : Option Addr) (Z : Nat) (y : List ByteArray) (aF : ByteArray) (aG : Int) (aH : Int) (M : Option Addr) (O : Nat) (s : List (S109)) (aA : Option Addr) (aB : Nat) (D : List ByteArray) (r : Bool) (w : World) (aI : Kd.C k109 w I l0_3.length l0_3) (aJ : l0_3.length ≤ J) (aR : Kd.C Kd.string w Y y.length y) (aS : y.length ≤ Z) (aK : Kd.C k109 w M s.length s) (aL : s.length ≤ O) (aT : Kd.C Kd.string w aA D.length D) (aU : D.length ≤ aB) (h : laws_eqBox.f k aC aD aE l0_3 y aF aG aH s D = some r) :
  Calls prog 76 #[.agg #[.string aC, .int .i64 aD, .int .i64 aE, .slice I l0_3.length J, .slice Y y.length Z], .agg #[.string aF, .int .i64 aG, .int .i64 aH, .slice M s.length O, .slice aA D.length aB]] w fun e w' => e = .returned (.bool r) ∧ Below w.heap.size w w' := by
 have a8 := underlying98
 replace aI := aM aI
 replace aJ := aM aJ
 replace aR := aM aR
 replace aS := aM aS
 replace aK := aM aK
 replace aL := aM aL
 replace aT := aM aT
 replace aU := aM aU
 have HB := aM (Below.refl w.heap.size w)
 have H := h
 clear h
 unfold laws_eqBox.f at H
 by_cases c3 : aC.toList = aF.toList
 ·rw [if_pos c3] at H
  have aX := beq_iff_eq.mpr c3
  have aY := bne_eq_false_iff_eq.mpr c3
  clear c3
  by_cases c4 : aD = aG
  ·rw [if_pos c4] at H
   have aZ := beq_iff_eq.mpr c4
   have a2 := bne_eq_false_iff_eq.mpr c4
   clear c4
   by_cases c5 : aE = aH
   ·rw [if_pos c5] at H
    have a3 := beq_iff_eq.mpr c5
    have a5 := bne_eq_false_iff_eq.mpr c5
    clear c5
    obtain ⟨a6, A6, H⟩ := bindA H
    try dsimp only at H
    by_cases c7 : a6 = true
    ·subst c7
     replace H := ifT H
     obtain ⟨a7, A8, H⟩ := bindA H
     try dsimp only at H
     by_cases c9 : a7 = true
     ·subst c9
      replace H := ifT H
      obtain rfl := oI H
      go_enter func76, ntmps76
      go_wp2_with (first | ((with_reducible refine gD 2 ?_); refine bxF w 2 #[.string aC, .int .i64 aD, .int .i64 aE, .slice I l0_3.length J, .slice Y y.length Z] 98 (Z0) ?_; intro aN hg a9 BK486 aO GE486 HB hb; clear hb hg) | ((with_reducible refine gD 3 ?_); refine bxF w 3 #[.string aF, .int .i64 aG, .int .i64 aH, .slice M s.length O, .slice aA D.length aB] 98 (Z32) ?_; intro aP hg bA BK487 aQ GE487 HB hb; have U := aM ((nL BK486 hg (Z37))); have X := aM ((nG BK486 hg (Z37))); replace BK486 := aM (kB BK486 (Z37) hb); clear hb hg; have bB := U.out; have bC := X.out; refine bD5 BK486 ?_; intros; refine bD5 BK487 ?_; intros) | ((with_reducible refine gC 110 ?_); refine gL 24 func110 #[.slice I l0_3.length J, .slice M s.length O] ?_; (with_reducible refine (laws_eqStoredS.calls k _ _ l0_3 _ _ s true _ ?Y1 ?Y2 ?Y3 ?Y4 A6.out).mono ?_); (case Y1 => have h_ := Kd.C_below aI.out HB.out; exact tC); (case Y2 => exact aJ.out); (case Y3 => have h_ := Kd.C_below aK.out HB.out; exact tC); (case Y4 => exact aL.out); rintro e bD ⟨rfl, hb⟩; refine ⟨_, rfl, ?_⟩; replace BK486 := aM (kB BK486 (Z37) hb); replace BK487 := aM (kB BK487 (Z194) hb); replace HB := aM (below_step (Z62) hb); (try clear hb); refine bD5 BK486 ?_; intros; refine bD5 BK487 ?_; intros) | ((with_reducible refine gC 111 ?_); refine gL 30 func111 #[.slice Y y.length Z, .slice aA D.length aB] ?_; (with_reducible refine (laws_eqStringS.calls k _ _ y _ _ D true _ ?Y1 ?Y2 ?Y3 ?Y4 A8.out).mono ?_); (case Y1 => have h_ := Kd.C_below aR.out HB.out; exact tC); (case Y2 => exact aS.out); (case Y3 => have h_ := Kd.C_below aT.out HB.out; exact tC); (case Y4 => exact aU.out); rintro e w' ⟨rfl, ⟨nd, rfl⟩⟩; refine ⟨_, rfl, ?_⟩))
      go_ret
      exact ⟨Z1, Z62⟩
     ·replace c9 := Bool.eq_false_iff.mpr c9
      subst c9
      replace H := ifF H
      obtain rfl := oI H
      go_enter func76, ntmps76
      go_wp2_with (first | ((with_reducible refine gD 2 ?_); refine bxF w 2 #[.string aC, .int .i64 aD, .int .i64 aE, .slice I l0_3.length J, .slice Y y.length Z] 98 (Z0) ?_; intro aN hg bE BK486 aO GE486 HB hb; clear hb hg) | ((with_reducible refine gD 3 ?_); refine bxF w 3 #[.string aF, .int .i64 aG, .int .i64 aH, .slice M s.length O, .slice aA D.length aB] 98 (Z32) ?_; intro aP hg bF BK487 aQ GE487 HB hb; have U := aM ((nL BK486 hg (Z37))); have X := aM ((nG BK486 hg (Z37))); replace BK486 := aM (kB BK486 (Z37) hb); clear hb hg; have bG := U.out; have bH := X.out; refine bD5 BK486 ?_; intros; refine bD5 BK487 ?_; intros) | ((with_reducible refine gC 110 ?_); refine gL 24 func110 #[.slice I l0_3.length J, .slice M s.length O] ?_; (with_reducible refine (laws_eqStoredS.calls k _ _ l0_3 _ _ s true _ ?Y1 ?Y2 ?Y3 ?Y4 A6.out).mono ?_); (case Y1 => have h_ := Kd.C_below aI.out HB.out; exact tC); (case Y2 => exact aJ.out); (case Y3 => have h_ := Kd.C_below aK.out HB.out; exact tC); (case Y4 => exact aL.out); rintro e bI ⟨rfl, hb⟩; refine ⟨_, rfl, ?_⟩; replace BK486 := aM (kB BK486 (Z37) hb); replace BK487 := aM (kB BK487 (Z194) hb); replace HB := aM (below_step (Z62) hb); (try clear hb); refine bD5 BK486 ?_; intros; refine bD5 BK487 ?_; intros) | ((with_reducible refine gC 111 ?_); refine gL 30 func111 #[.slice Y y.length Z, .slice aA D.length aB] ?_; (with_reducible refine (laws_eqStringS.calls k _ _ y _ _ D false _ ?Y1 ?Y2 ?Y3 ?Y4 A8.out).mono ?_); (case Y1 => have h_ := Kd.C_below aR.out HB.out; exact tC); (case Y2 => exact aS.out); (case Y3 => have h_ := Kd.C_below aT.out HB.out; exact tC); (case Y4 => exact aU.out); rintro e w' ⟨rfl, ⟨nd, rfl⟩⟩; refine ⟨_, rfl, ?_⟩))
      go_ret
      exact ⟨Z1, Z62⟩
    ·replace c7 := Bool.eq_false_iff.mpr c7
     subst c7
     replace H := ifF H
     obtain rfl := oI H
     go_enter func76, ntmps76
     go_wp2_with (first | ((with_reducible refine gD 2 ?_); refine bxF w 2 #[.string aC, .int .i64 aD, .int .i64 aE, .slice I l0_3.length J, .slice Y y.length Z] 98 (Z0) ?_; intro aN hg bJ BK486 aO GE486 HB hb; clear hb hg) | ((with_reducible refine gD 3 ?_); refine bxF w 3 #[.string aF, .int .i64 aG, .int .i64 aH, .slice M s.length O, .slice aA D.length aB] 98 (Z32) ?_; intro aP hg bK BK487 aQ GE487 HB hb; have U := aM ((nL BK486 hg (Z37))); have X := aM ((nG BK486 hg (Z37))); replace BK486 := aM (kB BK486 (Z37) hb); clear hb hg; have bL := U.out; have bM := X.out; refine bD5 BK486 ?_; intros; refine bD5 BK487 ?_; intros) | ((with_reducible refine gC 110 ?_); refine gL 24 func110 #[.slice I l0_3.length J, .slice M s.length O] ?_; (with_reducible refine (laws_eqStoredS.calls k _ _ l0_3 _ _ s false _ ?Y1 ?Y2 ?Y3 ?Y4 A6.out).mono ?_); (case Y1 => have h_ := Kd.C_below aI.out HB.out; exact tC); (case Y2 => exact aJ.out); (case Y3 => have h_ := Kd.C_below aK.out HB.out; exact tC); (case Y4 => exact aL.out); rintro e bN ⟨rfl, hb⟩; refine ⟨_, rfl, ?_⟩; replace BK486 := aM (kB BK486 (Z37) hb); replace BK487 := aM (kB BK487 (Z194) hb); replace HB := aM (below_step (Z62) hb); (try clear hb)))
     go_ret
     exact ⟨Z1, Z62⟩
   ·rw [if_neg c5] at H
    have a3 := beq_eq_false_iff_ne.mpr c5
    have a5 := bne_iff_ne.mpr c5
    obtain rfl := oI H
    go_enter func76, ntmps76
    go_wp2_with (first | ((with_reducible refine gD 2 ?_); refine bxF w 2 #[.string aC, .int .i64 aD, .int .i64 aE, .slice I l0_3.length J, .slice Y y.length Z] 98 (Z0) ?_; intro aN hg bO BK486 aO GE486 HB hb; clear hb hg) | ((with_reducible refine gD 3 ?_); refine bxF w 3 #[.string aF, .int .i64 aG, .int .i64 aH, .slice M s.length O, .slice aA D.length aB] 98 (Z32) ?_; intro aP hg bP BK487 aQ GE487 HB hb; have U := aM ((nL BK486 hg (Z37))); have X := aM ((nG BK486 hg (Z37))); replace BK486 := aM (kB BK486 (Z37) hb); clear hb hg; have bQ := U.out; have bR := X.out; refine bD5 BK486 ?_; intros; refine bD5 BK487 ?_; intros))
    go_ret
    exact ⟨Z1, Z62⟩
  ·rw [if_neg c4] at H
   have aZ := beq_eq_false_iff_ne.mpr c4
   have a2 := bne_iff_ne.mpr c4
   obtain rfl := oI H
   go_enter func76, ntmps76
   go_wp2_with (first | ((with_reducible refine gD 2 ?_); refine bxF w 2 #[.string aC, .int .i64 aD, .int .i64 aE, .slice I l0_3.length J, .slice Y y.length Z] 98 (Z0) ?_; intro aN hg bS BK486 aO GE486 HB hb; clear hb hg) | ((with_reducible refine gD 3 ?_); refine bxF w 3 #[.string aF, .int .i64 aG, .int .i64 aH, .slice M s.length O, .slice aA D.length aB] 98 (Z32) ?_; intro aP hg bT BK487 aQ GE487 HB hb; have U := aM ((nL BK486 hg (Z37))); have X := aM ((nG BK486 hg (Z37))); replace BK486 := aM (kB BK486 (Z37) hb); clear hb hg; have bU := U.out; have bV := X.out; refine bD5 BK486 ?_; intros; refine bD5 BK487 ?_; intros))
   go_ret
   exact ⟨Z1, Z62⟩
 ·rw [if_neg c3] at H
  have aX := beq_eq_false_iff_ne.mpr c3
  have aY := bne_iff_ne.mpr c3
  obtain rfl := oI H
  go_enter func76, ntmps76
  go_wp2_with (first | ((with_reducible refine gD 2 ?_); refine bxF w 2 #[.string aC, .int .i64 aD, .int .i64 aE, .slice I l0_3.length J, .slice Y y.length Z] 98 (Z0) ?_; intro aN hg bW BK486 aO GE486 HB hb; clear hb hg) | ((with_reducible refine gD 3 ?_); refine bxF w 3 #[.string aF, .int .i64 aG, .int .i64 aH, .slice M s.length O, .slice aA D.length aB] 98 (Z32) ?_; intro aP hg bX BK487 aQ GE487 HB hb; have U := aM ((nL BK486 hg (Z37))); have X := aM ((nG BK486 hg (Z37))); replace BK486 := aM (kB BK486 (Z37) hb); clear hb hg; have bY := U.out; have bZ := X.out; refine bD5 BK486 ?_; intros; refine bD5 BK487 ?_; intros))
  go_ret
  exact ⟨Z1, Z62⟩
def laws_eqBoxS.l0 : Nat → List (S98) → List (S98) → Int → Option (Bool)
 | 0, _, _, _ => none
 | k + 1, x0, x1, x5 => if x5 < (x0.length : Int) then (if 0 ≤ x5 then (if x5 < (x1.length : Int) then ((laws_eqBox.f k ((rd_T98 x0 x5).f0) ((rd_T98 x0 x5).f1) ((rd_T98 x0 x5).f2) ((rd_T98 x0 x5).f3) ((rd_T98 x0 x5).f4) ((rd_T98 x1 x5).f0) ((rd_T98 x1 x5).f1) ((rd_T98 x1 x5).f2) ((rd_T98 x1 x5).f3) ((rd_T98 x1 x5).f4)).bind fun s => (if s = true then (laws_eqBoxS.l0 k x0 x1 (wrap64 (x5 + 1))) else (some false))) else (none)) else (none)) else (some true)
def laws_eqBoxS.f (k : Nat) (l0 : List (S98)) (l1 : List (S98)) : Option (Bool) := if (l0.length : Int) = (l1.length : Int) then (laws_eqBoxS.l0 k l0 l1 0) else (some false)
def laws_eqBoxS.T6 : Bool × List (List Nat × List Nat) := (true, [([], []), ([], []), ([0, 1], [0, 1]), ([2], [2]), ([], []), ([], []), ([4, 5], [4, 5]), ([6], [6]), ([3, 7], [3, 7]), ([8], [8])])
def laws_eqBoxS.B6 : List Nat := [0, 0, 3, 7, 0, 0, 48, 112, 255, 511]
theorem laws_eqBoxS.tab6 : rtab .any (opsOf Tryz.f45 6) = laws_eqBoxS.T6 := by kernel_rfl
theorem laws_eqBoxS.bits6 : waitsOk laws_eqBoxS.T6.2 laws_eqBoxS.B6 = true := by kernel_rfl
theorem laws_eqBoxS.calls (k : Nat) (A0 : Option Addr) (c0 : Nat) (l0 : List (S98)) (A1 : Option Addr) (c1 : Nat) (l1 : List (S98)) (r : Bool) (w : World) (hr0 : Kd.C k98 w A0 l0.length l0) (bN : l0.length ≤ c0) (bB : Kd.C k98 w A1 l1.length l1) (bO : l1.length ≤ c1) (h : laws_eqBoxS.f k l0 l1 = some r) :
  Calls prog 45 #[.slice A0 l0.length c0, .slice A1 l1.length c1] w fun e w' => e = .returned (.bool r) ∧ Below w.heap.size w w' := by
 have bW := underlying98
 replace hr0 := aM hr0
 replace bN := aM bN
 replace bB := aM bB
 replace bO := aM bO
 have HB := aM (Below.refl w.heap.size w)
 have H := h
 clear h
 unfold laws_eqBoxS.f at H
 by_cases c3 : (l0.length : Int) = (l1.length : Int)
 ·rw [if_pos c3] at H
  have bP := beq_iff_eq.mpr c3
  have bQ := bne_eq_false_iff_eq.mpr c3
  have bR : (l0.length == l1.length) = true := by first | simpa using c3 | (simp at c3 ⊢; omega)
  clear c3
  have H' := aM H
  clear H
  go_enter func45, ntmps45
  go_wp2
  go_loopg [5] k (fun kq v5 w' => ∃ (x5_1 : Int), v5 = .int .i64 x5_1 ∧ Aside0 (laws_eqBoxS.l0 kq l0 l1 x5_1 = some r) ∧ Aside0 (kq ≤ k) ∧ Aside0 (Below w.heap.size w w'))
  case atStart => exact ⟨(0), (Z3), H', ⟨Nat.le_refl _⟩, ⟨Z0⟩⟩
  case round =>
   clear H'
   (try clear c1); (try clear c3); (try clear bP); (try clear bQ); (try clear bR)
   obtain ⟨x5_1, rfl, HA, HK1, HB⟩ := hrel
   cases gk with
   | zero => exact absurd HA.out (by simp [laws_eqBoxS.l0])
   | succ k1 =>
    have H := HA.out
    clear HA
    simp only [laws_eqBoxS.l0] at H
    by_cases c4 : x5_1 < (l0.length : Int)
    ·rw [if_pos c4] at H
     have bU := decide_eq_true c4
     clear c4
     obtain ⟨c5, H⟩ := ifS H
     have bX := decide_eq_true c5
     clear c5
     obtain ⟨c6, H⟩ := ifS H
     have bY := decide_eq_true c6
     clear c6
     obtain ⟨bV, A7, H⟩ := bindA H
     try dsimp only at H
     by_cases c8 : bV = true
     ·subst c8
      replace H := ifT H
      have H' := aM H
      clear H
      try go_wp2
      replace HB := aM (below_drew1 HB.out)
      have Z : 0 ≤ (x5_1 : Int) := of_decide_eq_true (Z4)
      have aA : x5_1 < (l0.length : Int) := of_decide_eq_true (Z4)
      obtain ⟨bD, aD, aE, aF, aG, bE, s, y, D, I, J, aH, aI, aJ, aK⟩ := at_T98 hr0.out x5_1 Z aA
      have aL := J
      have aN := I
      have aO := D
      have aP := y
      have aQ := s
      cases bE
      replace s := cB HB.out s
      replace y := cB HB.out y
      replace D := cB HB.out D
      replace I := cB HB.out I
      replace J := cB HB.out J
      have aR := aM aI
      have bF := aM aH
      clear aI aH
      have aS := aM aK
      have bG := aM aJ
      clear aK aJ
      replace Z := eq_true Z
      replace aA := eq_true aA
      have aB : 0 ≤ (x5_1 : Int) := of_decide_eq_true (Z4)
      have aC : x5_1 < (l1.length : Int) := of_decide_eq_true (Z4)
      obtain ⟨bH, aT, aU, aV, aW, bI, M, O, U, X, Y, aX, aY, aZ, a2⟩ := at_T98 bB.out x5_1 aB aC
      have a3 := Y
      have a5 := X
      have a6 := U
      have a7 := O
      have a8 := M
      cases bI
      replace M := cB HB.out M
      replace O := cB HB.out O
      replace U := cB HB.out U
      replace X := cB HB.out X
      replace Y := cB HB.out Y
      have a9 := aM aY
      have bJ := aM aX
      clear aY aX
      have bA := aM a2
      have bK := aM aZ
      clear a2 aZ
      replace aB := eq_true aB
      replace aC := eq_true aC
      refine start_ (n := 10) (S := fun w' => Qa5 (bD.add ((x5_1).toNat * 5)) (.string ((rd_T98 l0 x5_1).f0)) (.int .i64 ((rd_T98 l0 x5_1).f1)) (.int .i64 ((rd_T98 l0 x5_1).f2)) (.slice aD ((rd_T98 l0 x5_1).f3).length aE) (.slice aF ((rd_T98 l0 x5_1).f4).length aG) (qa5 (bH.add ((x5_1).toNat * 5)) (.string ((rd_T98 l1 x5_1).f0)) (.int .i64 ((rd_T98 l1 x5_1).f1)) (.int .i64 ((rd_T98 l1 x5_1).f2)) (.slice aT ((rd_T98 l1 x5_1).f3).length aU) (.slice aV ((rd_T98 l1 x5_1).f4).length aW) w') w') (ds := []) #[false, false, false, false, false, false, false, false, false, false] (Z18) rfl rfl ⟨(cB HB.out aQ :), ⟨(cB HB.out aP :), ⟨(cB HB.out aO :), ⟨(cB HB.out aN :), ⟨(cB HB.out aL :), ⟨(cB HB.out a8 :), ⟨(cB HB.out a7 :), ⟨(cB HB.out a6 :), ⟨(cB HB.out a5 :), (cB HB.out a3 :)⟩⟩⟩⟩⟩⟩⟩⟩⟩ (fun hHeld => ?_); refine with_tabW laws_eqBoxS.tab6 laws_eqBoxS.bits6 (fun HT_ HW_ => ?_)
      generalize wr.drew = w9 at HB aR aS a9 bA s y D I J M O U X Y hHeld ⊢
      refine pA 0 17 ?_
      refine pA 1 18 ?_
      refine pA 2 19 ?_
      refine pA 4 21 ?_
      refine pA 5 22 ?_
      refine pA 6 23 ?_
      refine tA 3 20 ?_
      refine tA 7 24 ?_
      refine oA 8 25 (fun K hK => ?_)
      refine goes_ func76 (Z18) rfl #[.agg #[.string ((rd_T98 l0 x5_1).f0), .int .i64 ((rd_T98 l0 x5_1).f1), .int .i64 ((rd_T98 l0 x5_1).f2), .slice aD ((rd_T98 l0 x5_1).f3).length aE, .slice aF ((rd_T98 l0 x5_1).f4).length aG], .agg #[.string ((rd_T98 l1 x5_1).f0), .int .i64 ((rd_T98 l1 x5_1).f1), .int .i64 ((rd_T98 l1 x5_1).f2), .slice aT ((rd_T98 l1 x5_1).f3).length aU, .slice aV ((rd_T98 l1 x5_1).f4).length aW]] (Z117) rfl rfl (Z2) ?_
      with_reducible refine (laws_eqBox.calls k1 ((rd_T98 l0 x5_1).f0) ((rd_T98 l0 x5_1).f1) ((rd_T98 l0 x5_1).f2) _ _ ((rd_T98 l0 x5_1).f3) _ _ ((rd_T98 l0 x5_1).f4) ((rd_T98 l1 x5_1).f0) ((rd_T98 l1 x5_1).f1) ((rd_T98 l1 x5_1).f2) _ _ ((rd_T98 l1 x5_1).f3) _ _ ((rd_T98 l1 x5_1).f4) true _ ?Y1 ?Y2 ?Y3 ?Y4 ?Y5 ?Y6 ?Y7 ?Y8 A7.out).mono ?_
      (case Y1 => have h_ := Kd.C_below aR.out HB.out; exact tC)
      (case Y2 => exact bF.out)
      (case Y3 => have h_ := Kd.C_below aS.out HB.out; exact tC)
      (case Y4 => exact bG.out)
      (case Y5 => have h_ := Kd.C_below a9.out HB.out; exact tC)
      (case Y6 => exact bJ.out)
      (case Y7 => have h_ := Kd.C_below bA.out HB.out; exact tC)
      (case Y8 => exact bK.out)
      rintro e b0 ⟨rfl, hb⟩
      refine ⟨_, rfl, ?_⟩
      replace HB := aM (below_step (Z0) hb)
      (try clear hb)
      refine hK.out _ _ ⟨(cB HB.out aQ :), ⟨(cB HB.out aP :), ⟨(cB HB.out aO :), ⟨(cB HB.out aN :), ⟨(cB HB.out aL :), ⟨(cB HB.out a8 :), ⟨(cB HB.out a7 :), ⟨(cB HB.out a6 :), ⟨(cB HB.out a5 :), (cB HB.out a3 :)⟩⟩⟩⟩⟩⟩⟩⟩⟩ (fun hHeld => ?_)
      clear hK K
      refine nB 25 ?_
      refine pA 9 26 ?_
      refine done_ (done_of HT_.out (Z18)) ?_
      try go_wp2
      go_roundg k1
      case measure => have := HK1.out; omega
      case rel => exact ⟨(wrap64 (x5_1 + 1)), (Z3), H', ⟨Z125⟩, ⟨Z0⟩⟩
     ·replace c8 := Bool.eq_false_iff.mpr c8
      subst c8
      replace H := ifF H
      obtain rfl := oI H
      try go_wp2
      replace HB := aM (below_drew1 HB.out)
      have Z : 0 ≤ (x5_1 : Int) := of_decide_eq_true (Z4)
      have aA : x5_1 < (l0.length : Int) := of_decide_eq_true (Z4)
      obtain ⟨bD, aD, aE, aF, aG, bE, s, y, D, I, J, aH, aI, aJ, aK⟩ := at_T98 hr0.out x5_1 Z aA
      have aL := J
      have aN := I
      have aO := D
      have aP := y
      have aQ := s
      cases bE
      replace s := cB HB.out s
      replace y := cB HB.out y
      replace D := cB HB.out D
      replace I := cB HB.out I
      replace J := cB HB.out J
      have aR := aM aI
      have bF := aM aH
      clear aI aH
      have aS := aM aK
      have bG := aM aJ
      clear aK aJ
      replace Z := eq_true Z
      replace aA := eq_true aA
      have aB : 0 ≤ (x5_1 : Int) := of_decide_eq_true (Z4)
      have aC : x5_1 < (l1.length : Int) := of_decide_eq_true (Z4)
      obtain ⟨bH, aT, aU, aV, aW, bI, M, O, U, X, Y, aX, aY, aZ, a2⟩ := at_T98 bB.out x5_1 aB aC
      have a3 := Y
      have a5 := X
      have a6 := U
      have a7 := O
      have a8 := M
      cases bI
      replace M := cB HB.out M
      replace O := cB HB.out O
      replace U := cB HB.out U
      replace X := cB HB.out X
      replace Y := cB HB.out Y
      have a9 := aM aY
      have bJ := aM aX
      clear aY aX
      have bA := aM a2
      have bK := aM aZ
      clear a2 aZ
      replace aB := eq_true aB
      replace aC := eq_true aC
      refine start_ (n := 10) (S := fun w' => Qa5 (bD.add ((x5_1).toNat * 5)) (.string ((rd_T98 l0 x5_1).f0)) (.int .i64 ((rd_T98 l0 x5_1).f1)) (.int .i64 ((rd_T98 l0 x5_1).f2)) (.slice aD ((rd_T98 l0 x5_1).f3).length aE) (.slice aF ((rd_T98 l0 x5_1).f4).length aG) (qa5 (bH.add ((x5_1).toNat * 5)) (.string ((rd_T98 l1 x5_1).f0)) (.int .i64 ((rd_T98 l1 x5_1).f1)) (.int .i64 ((rd_T98 l1 x5_1).f2)) (.slice aT ((rd_T98 l1 x5_1).f3).length aU) (.slice aV ((rd_T98 l1 x5_1).f4).length aW) w') w') (ds := []) #[false, false, false, false, false, false, false, false, false, false] (Z18) rfl rfl ⟨(cB HB.out aQ :), ⟨(cB HB.out aP :), ⟨(cB HB.out aO :), ⟨(cB HB.out aN :), ⟨(cB HB.out aL :), ⟨(cB HB.out a8 :), ⟨(cB HB.out a7 :), ⟨(cB HB.out a6 :), ⟨(cB HB.out a5 :), (cB HB.out a3 :)⟩⟩⟩⟩⟩⟩⟩⟩⟩ (fun hHeld => ?_); refine with_tabW laws_eqBoxS.tab6 laws_eqBoxS.bits6 (fun HT_ HW_ => ?_)
      generalize wr.drew = b1 at HB aR aS a9 bA s y D I J M O U X Y hHeld ⊢
      refine pA 0 17 ?_
      refine pA 1 18 ?_
      refine pA 2 19 ?_
      refine pA 4 21 ?_
      refine pA 5 22 ?_
      refine pA 6 23 ?_
      refine tA 3 20 ?_
      refine tA 7 24 ?_
      refine oA 8 25 (fun K hK => ?_)
      refine goes_ func76 (Z18) rfl #[.agg #[.string ((rd_T98 l0 x5_1).f0), .int .i64 ((rd_T98 l0 x5_1).f1), .int .i64 ((rd_T98 l0 x5_1).f2), .slice aD ((rd_T98 l0 x5_1).f3).length aE, .slice aF ((rd_T98 l0 x5_1).f4).length aG], .agg #[.string ((rd_T98 l1 x5_1).f0), .int .i64 ((rd_T98 l1 x5_1).f1), .int .i64 ((rd_T98 l1 x5_1).f2), .slice aT ((rd_T98 l1 x5_1).f3).length aU, .slice aV ((rd_T98 l1 x5_1).f4).length aW]] (Z117) rfl rfl (Z2) ?_
      with_reducible refine (laws_eqBox.calls k1 ((rd_T98 l0 x5_1).f0) ((rd_T98 l0 x5_1).f1) ((rd_T98 l0 x5_1).f2) _ _ ((rd_T98 l0 x5_1).f3) _ _ ((rd_T98 l0 x5_1).f4) ((rd_T98 l1 x5_1).f0) ((rd_T98 l1 x5_1).f1) ((rd_T98 l1 x5_1).f2) _ _ ((rd_T98 l1 x5_1).f3) _ _ ((rd_T98 l1 x5_1).f4) false _ ?Y1 ?Y2 ?Y3 ?Y4 ?Y5 ?Y6 ?Y7 ?Y8 A7.out).mono ?_
      (case Y1 => have h_ := Kd.C_below aR.out HB.out; exact tC)
      (case Y2 => exact bF.out)
      (case Y3 => have h_ := Kd.C_below aS.out HB.out; exact tC)
      (case Y4 => exact bG.out)
      (case Y5 => have h_ := Kd.C_below a9.out HB.out; exact tC)
      (case Y6 => exact bJ.out)
      (case Y7 => have h_ := Kd.C_below bA.out HB.out; exact tC)
      (case Y8 => exact bK.out)
      rintro e b2 ⟨rfl, hb⟩
      refine ⟨_, rfl, ?_⟩
      replace HB := aM (below_step (Z0) hb)
      (try clear hb)
      refine hK.out _ _ ⟨(cB HB.out aQ :), ⟨(cB HB.out aP :), ⟨(cB HB.out aO :), ⟨(cB HB.out aN :), ⟨(cB HB.out aL :), ⟨(cB HB.out a8 :), ⟨(cB HB.out a7 :), ⟨(cB HB.out a6 :), ⟨(cB HB.out a5 :), (cB HB.out a3 :)⟩⟩⟩⟩⟩⟩⟩⟩⟩ (fun hHeld => ?_)
      clear hK K
      refine nB 25 ?_
      refine pA 9 26 ?_
      refine done_ (done_of HT_.out (Z18)) ?_
      try go_wp2
      go_ret
      exact ⟨Z1, Z0⟩
    ·rw [if_neg c4] at H
     have bU := decide_eq_false c4
     clear c4
     obtain rfl := oI H
     go_wp2
     go_ret
     exact ⟨Z1, Z0⟩
 ·rw [if_neg c3] at H
  have bP := beq_eq_false_iff_ne.mpr c3
  have bQ := bne_iff_ne.mpr c3
  have bR : (l0.length == l1.length) = false := by first | simpa using c3 | (simp at c3 ⊢; omega)
  obtain rfl := oI H
  go_enter func45, ntmps45
  go_wp2
  go_ret
  exact ⟨Z1, Z0⟩
def laws_eqEngine.f (k : Nat) (s : Int) (y : ByteArray) (D : Int) (l0_3 : List (S98)) (I : Int) (J : ByteArray) (M : Int) (O : List (S98)) : Option (Bool) := (laws_eqLog.f s y D I J M).bind fun U => (if U = true then ((laws_eqBoxS.f k l0_3 O).bind fun X => (if X = true then (some true) else (some false))) else (some false))
theorem laws_eqEngine.calls (k : Nat) (y : Int) (D : ByteArray) (I : Int) (U : Option Addr) (X : Nat) (l0_3 : List (S98)) (J : Int) (M : ByteArray) (O : Int) (Y : Option Addr) (Z : Nat) (s : List (S98)) (r : Bool) (w : World) (aC : Kd.C k98 w U l0_3.length l0_3) (aD : l0_3.length ≤ X) (aE : Kd.C k98 w Y s.length s) (aF : s.length ≤ Z) (h : laws_eqEngine.f k y D I l0_3 J M O s = some r) :
  Calls prog 19 #[.agg #[.int .i64 y, .string D, .int .i64 I, .slice U l0_3.length X], .agg #[.int .i64 J, .string M, .int .i64 O, .slice Y s.length Z]] w fun e w' => e = .returned (.bool r) ∧ Below w.heap.size w w' := by
 have aP := underlying35
 have aQ := underlying32
 replace aC := aM aC
 replace aD := aM aD
 replace aE := aM aE
 replace aF := aM aF
 have HB := aM (Below.refl w.heap.size w)
 have H := h
 clear h
 unfold laws_eqEngine.f at H
 obtain ⟨aN, A3, H⟩ := bindA H
 try dsimp only at H
 by_cases c4 : aN = true
 ·subst c4
  replace H := ifT H
  obtain ⟨aO, A5, H⟩ := bindA H
  try dsimp only at H
  by_cases c6 : aO = true
  ·subst c6
   replace H := ifT H
   obtain rfl := oI H
   go_enter func19, ntmps19
   go_wp2_with (first | ((with_reducible refine gD 2 ?_); refine bxF w 2 #[.int .i64 y, .string D, .int .i64 I, .slice U l0_3.length X] 35 (Z0) ?_; intro aI hg w7 BK493 aJ GE493 HB hb; clear hb hg) | ((with_reducible refine gD 3 ?_); refine bxF w 3 #[.int .i64 J, .string M, .int .i64 O, .slice Y s.length Z] 35 (Z73) ?_; intro aK hg w8 BK494 aL GE494 HB hb; have aA := aM ((nL BK493 hg (Z63))); have aB := aM ((nG BK493 hg (Z63))); replace BK493 := aM (kB BK493 (Z63) hb); clear hb hg; have aS := aA.out; have aT := aB.out; refine bD4 BK493 ?_; intros; refine bD4 BK494 ?_; intros) | ((with_reducible refine gC 44 ?_); refine gL 9 func44 #[.agg #[.int .i64 y, .string D, .int .i64 I], .agg #[.int .i64 J, .string M, .int .i64 O]] ?_; (with_reducible refine (laws_eqLog.calls y D I J M O true _ A3.out).mono ?_); rintro e aU ⟨rfl, hb⟩; refine ⟨_, rfl, ?_⟩; replace BK493 := aM (kB BK493 (Z63) hb); replace BK494 := aM (kB BK494 (Z142) hb); replace HB := aM (below_step (Z66) hb); (try clear hb); refine bD4 BK493 ?_; intros; refine bD4 BK494 ?_; intros) | ((with_reducible refine gC 45 ?_); refine gL 15 func45 #[.slice U l0_3.length X, .slice Y s.length Z] ?_; (with_reducible refine (laws_eqBoxS.calls k _ _ l0_3 _ _ s true _ ?Y1 ?Y2 ?Y3 ?Y4 A5.out).mono ?_); (case Y1 => have h_ := Kd.C_below aC.out HB.out; exact tC); (case Y2 => exact aD.out); (case Y3 => have h_ := Kd.C_below aE.out HB.out; exact tC); (case Y4 => exact aF.out); rintro e aV ⟨rfl, hb⟩; refine ⟨_, rfl, ?_⟩; replace BK493 := aM (kB BK493 (Z63) hb); replace BK494 := aM (kB BK494 (Z142) hb); replace HB := aM (below_step (Z66) hb); (try clear hb)))
   go_ret
   exact ⟨Z1, Z66⟩
  ·replace c6 := Bool.eq_false_iff.mpr c6
   subst c6
   replace H := ifF H
   obtain rfl := oI H
   go_enter func19, ntmps19
   go_wp2_with (first | ((with_reducible refine gD 2 ?_); refine bxF w 2 #[.int .i64 y, .string D, .int .i64 I, .slice U l0_3.length X] 35 (Z0) ?_; intro aI hg aW BK493 aJ GE493 HB hb; clear hb hg) | ((with_reducible refine gD 3 ?_); refine bxF w 3 #[.int .i64 J, .string M, .int .i64 O, .slice Y s.length Z] 35 (Z73) ?_; intro aK hg aX BK494 aL GE494 HB hb; have aA := aM ((nL BK493 hg (Z63))); have aB := aM ((nG BK493 hg (Z63))); replace BK493 := aM (kB BK493 (Z63) hb); clear hb hg; have aY := aA.out; have aZ := aB.out; refine bD4 BK493 ?_; intros; refine bD4 BK494 ?_; intros) | ((with_reducible refine gC 44 ?_); refine gL 9 func44 #[.agg #[.int .i64 y, .string D, .int .i64 I], .agg #[.int .i64 J, .string M, .int .i64 O]] ?_; (with_reducible refine (laws_eqLog.calls y D I J M O true _ A3.out).mono ?_); rintro e a2 ⟨rfl, hb⟩; refine ⟨_, rfl, ?_⟩; replace BK493 := aM (kB BK493 (Z63) hb); replace BK494 := aM (kB BK494 (Z142) hb); replace HB := aM (below_step (Z66) hb); (try clear hb); refine bD4 BK493 ?_; intros; refine bD4 BK494 ?_; intros) | ((with_reducible refine gC 45 ?_); refine gL 15 func45 #[.slice U l0_3.length X, .slice Y s.length Z] ?_; (with_reducible refine (laws_eqBoxS.calls k _ _ l0_3 _ _ s false _ ?Y1 ?Y2 ?Y3 ?Y4 A5.out).mono ?_); (case Y1 => have h_ := Kd.C_below aC.out HB.out; exact tC); (case Y2 => exact aD.out); (case Y3 => have h_ := Kd.C_below aE.out HB.out; exact tC); (case Y4 => exact aF.out); rintro e a3 ⟨rfl, hb⟩; refine ⟨_, rfl, ?_⟩; replace BK493 := aM (kB BK493 (Z63) hb); replace BK494 := aM (kB BK494 (Z142) hb); replace HB := aM (below_step (Z66) hb); (try clear hb)))
   go_ret
   exact ⟨Z1, Z66⟩
 ·replace c4 := Bool.eq_false_iff.mpr c4
  subst c4
  replace H := ifF H
  obtain rfl := oI H
  go_enter func19, ntmps19
  go_wp2_with (first | ((with_reducible refine gD 2 ?_); refine bxF w 2 #[.int .i64 y, .string D, .int .i64 I, .slice U l0_3.length X] 35 (Z0) ?_; intro aI hg a5 BK493 aJ GE493 HB hb; clear hb hg) | ((with_reducible refine gD 3 ?_); refine bxF w 3 #[.int .i64 J, .string M, .int .i64 O, .slice Y s.length Z] 35 (Z73) ?_; intro aK hg a6 BK494 aL GE494 HB hb; have aA := aM ((nL BK493 hg (Z63))); have aB := aM ((nG BK493 hg (Z63))); replace BK493 := aM (kB BK493 (Z63) hb); clear hb hg; have a7 := aA.out; have a8 := aB.out; refine bD4 BK493 ?_; intros; refine bD4 BK494 ?_; intros) | ((with_reducible refine gC 44 ?_); refine gL 9 func44 #[.agg #[.int .i64 y, .string D, .int .i64 I], .agg #[.int .i64 J, .string M, .int .i64 O]] ?_; (with_reducible refine (laws_eqLog.calls y D I J M O false _ A3.out).mono ?_); rintro e a9 ⟨rfl, hb⟩; refine ⟨_, rfl, ?_⟩; replace BK493 := aM (kB BK493 (Z63) hb); replace BK494 := aM (kB BK494 (Z142) hb); replace HB := aM (below_step (Z66) hb); (try clear hb)))
  go_ret
  exact ⟨Z1, Z66⟩
def laws_eqIntS.l0 : Nat → List Int → List Int → Int → Option (Bool)
 | 0, _, _, _ => none
 | k + 1, x0, x1, x5 => if x5 < (x0.length : Int) then (if 0 ≤ x5 then (if x5 < (x1.length : Int) then (if (rd x0 x5) = (rd x1 x5) then (laws_eqIntS.l0 k x0 x1 (wrap64 (x5 + 1))) else (some false)) else (none)) else (none)) else (some true)
def laws_eqIntS.f (k : Nat) (l0 : List Int) (l1 : List Int) : Option (Bool) := if (l0.length : Int) = (l1.length : Int) then (laws_eqIntS.l0 k l0 l1 0) else (some false)
theorem laws_eqIntS.calls (k : Nat) (U : Option Addr) (c0 : Nat) (l0 : List Int) (X : Option Addr) (c1 : Nat) (l1 : List Int) (r : Bool) (w : World) (hr0 : Kd.C (Kd.int .i64) w U l0.length l0) (Y : l0.length ≤ c0) (J : Kd.C (Kd.int .i64) w X l1.length l1) (Z : l1.length ≤ c1) (h : laws_eqIntS.f k l0 l1 = some r) :
  Calls prog 112 #[.slice U l0.length c0, .slice X l1.length c1] w fun e w' => e = .returned (.bool r) ∧ Drawn0 w w' := by
 replace hr0 := aM hr0
 replace Y := aM Y
 replace J := aM J
 replace Z := aM Z
 have H := h
 clear h
 unfold laws_eqIntS.f at H
 by_cases c3 : (l0.length : Int) = (l1.length : Int)
 ·rw [if_pos c3] at H
  have aA := beq_iff_eq.mpr c3
  have aB := bne_eq_false_iff_eq.mpr c3
  have aC : (l0.length == l1.length) = true := by first | simpa using c3 | (simp at c3 ⊢; omega)
  clear c3
  have H' := aM H
  clear H
  go_enter func112, ntmps112
  go_wp2
  repeat (go_quiet (fail); try go_wp2)
  go_loopg [5] k (fun kq v5 w' => ∃ (x5_1 : Int), v5 = .int .i64 x5_1 ∧ Aside0 (laws_eqIntS.l0 kq l0 l1 x5_1 = some r) ∧ Aside0 (kq ≤ k) ∧ Drawn0 w w')
  case atStart => exact ⟨(0), (Z3), H', ⟨Nat.le_refl _⟩, Z9⟩
  case round =>
   clear H'
   (try clear c1); (try clear c3); (try clear aA); (try clear aB); (try clear aC)
   obtain ⟨x5_1, rfl, HA, HK1, ⟨m1, rfl⟩⟩ := hrel
   cases gk with
   | zero => exact absurd HA.out (by simp [laws_eqIntS.l0])
   | succ k1 =>
    have H := HA.out
    clear HA
    simp only [laws_eqIntS.l0] at H
    by_cases c4 : x5_1 < (l0.length : Int)
    ·rw [if_pos c4] at H
     have aF := decide_eq_true c4
     clear c4
     obtain ⟨c5, H⟩ := ifS H
     have aN := decide_eq_true c5
     clear c5
     obtain ⟨c6, H⟩ := ifS H
     have aO := decide_eq_true c6
     clear c6
     by_cases c7 : (rd l0 x5_1) = (rd l1 x5_1)
     ·rw [if_pos c7] at H
      have aG := beq_iff_eq.mpr c7
      have aH := bne_eq_false_iff_eq.mpr c7
      clear c7
      have H' := aM H
      clear H
      have s : 0 ≤ (x5_1 : Int) := of_decide_eq_true (Z4)
      have y : x5_1 < (l0.length : Int) := of_decide_eq_true (Z4)
      obtain ⟨aI, M, aJ⟩ := Kd.at_int hr0.out x5_1 s y
      cases M
      replace s := eq_true s
      replace y := eq_true y
      have D : 0 ≤ (x5_1 : Int) := of_decide_eq_true (Z4)
      have I : x5_1 < (l1.length : Int) := of_decide_eq_true (Z4)
      obtain ⟨aK, O, aL⟩ := Kd.at_int J.out x5_1 D I
      cases O
      replace D := eq_true D
      replace I := eq_true I
      go_wp2
      repeat (go_quiet (fail); try go_wp2)
      go_roundg k1
      case measure => have := HK1.out; omega
      case rel => exact ⟨(wrap64 (x5_1 + 1)), (Z3), H', ⟨Z125⟩, Z9⟩
     ·rw [if_neg c7] at H
      have aG := beq_eq_false_iff_ne.mpr c7
      have aH := bne_iff_ne.mpr c7
      obtain rfl := oI H
      have s : 0 ≤ (x5_1 : Int) := of_decide_eq_true (Z4)
      have y : x5_1 < (l0.length : Int) := of_decide_eq_true (Z4)
      obtain ⟨aI, M, aJ⟩ := Kd.at_int hr0.out x5_1 s y
      cases M
      replace s := eq_true s
      replace y := eq_true y
      have D : 0 ≤ (x5_1 : Int) := of_decide_eq_true (Z4)
      have I : x5_1 < (l1.length : Int) := of_decide_eq_true (Z4)
      obtain ⟨aK, O, aL⟩ := Kd.at_int J.out x5_1 D I
      cases O
      replace D := eq_true D
      replace I := eq_true I
      go_wp2
      repeat (go_quiet (fail); try go_wp2)
      go_ret
      exact ⟨Z3, Z9⟩
    ·rw [if_neg c4] at H
     have aF := decide_eq_false c4
     clear c4
     obtain rfl := oI H
     go_wp2
     repeat (go_quiet (fail); try go_wp2)
     go_ret
     exact ⟨Z3, Z9⟩
 ·rw [if_neg c3] at H
  have aA := beq_eq_false_iff_ne.mpr c3
  have aB := bne_iff_ne.mpr c3
  have aC : (l0.length == l1.length) = false := by first | simpa using c3 | (simp at c3 ⊢; omega)
  obtain rfl := oI H
  go_enter func112, ntmps112
  go_wp2
  repeat (go_quiet (fail); try go_wp2)
  go_ret
  exact ⟨Z3, Z9⟩
def laws_eqImap.f (k : Nat) (s : Int) (y : ByteArray) (D : Bool) (l0_3 : List Int) (I : Int) (J : ByteArray) (M : Bool) (O : List Int) : Option (Bool) := if s = I then (if y.toList = J.toList then (if (D != M) = true then (some false) else ((laws_eqIntS.f k l0_3 O).bind fun U => (if U = true then (some true) else (some false)))) else (some false)) else (some false)
theorem laws_eqImap.calls (k : Nat) (Z : Int) (aA : ByteArray) (s : Bool) (I : Option Addr) (J : Nat) (l0_3 : List Int) (aB : Int) (aC : ByteArray) (y : Bool) (M : Option Addr) (O : Nat) (D : List Int) (r : Bool) (w : World) (aD : Kd.C (Kd.int .i64) w I l0_3.length l0_3) (aE : l0_3.length ≤ J) (aF : Kd.C (Kd.int .i64) w M D.length D) (aG : D.length ≤ O) (h : laws_eqImap.f k Z aA s l0_3 aB aC y D = some r) :
  Calls prog 77 #[.agg #[.int .i64 Z, .string aA, .bool s, .slice I l0_3.length J], .agg #[.int .i64 aB, .string aC, .bool y, .slice M D.length O]] w fun e w' => e = .returned (.bool r) ∧ Below w.heap.size w w' := by
 have aW := underlying48
 replace aD := aM aD
 replace aE := aM aE
 replace aF := aM aF
 replace aG := aM aG
 have HB := aM (Below.refl w.heap.size w)
 have H := h
 clear h
 unfold laws_eqImap.f at H
 by_cases c3 : Z = aB
 ·rw [if_pos c3] at H
  have aO := beq_iff_eq.mpr c3
  have aP := bne_eq_false_iff_eq.mpr c3
  clear c3
  by_cases c4 : aA.toList = aC.toList
  ·rw [if_pos c4] at H
   have aQ := beq_iff_eq.mpr c4
   have aR := bne_eq_false_iff_eq.mpr c4
   clear c4
   by_cases c5 : (s != y) = true
   ·rw [if_pos c5] at H
    have aS : (s != y) = true := c5
    (try (have aT : decide (s = y) = false := by simpa using c5))
    (try (have aU : (s == y) = false := by simpa using c5))
    (try (have aX : ¬ (s = y) := by simpa using c5))
    clear c5
    obtain rfl := oI H
    go_enter func77, ntmps77
    go_wp2_with (first | ((with_reducible refine gD 2 ?_); refine bxF w 2 #[.int .i64 Z, .string aA, .bool s, .slice I l0_3.length J] 48 (Z0) ?_; intro aH hg w6 BK499 aI GE499 HB hb; clear hb hg) | ((with_reducible refine gD 3 ?_); refine bxF w 3 #[.int .i64 aB, .string aC, .bool y, .slice M D.length O] 48 (Z38) ?_; intro aJ hg w7 U aK GE500 HB hb; have X := aM ((nL BK499 hg (Z60))); have Y := aM ((nG BK499 hg (Z60))); replace BK499 := aM (kB BK499 (Z60) hb); clear hb hg; have aY := X.out; have aZ := Y.out; refine bD4 BK499 ?_; intros; refine bD4 U ?_; intros))
    go_ret
    exact ⟨Z1, Z104⟩
   ·rw [if_neg c5] at H
    have aS : (s != y) = false := by simpa using c5
    (try (have aT : decide (s = y) = true := by simpa using c5))
    (try (have aU : (s == y) = true := by simpa using c5))
    clear c5
    obtain ⟨aV, aN, H⟩ := bindA H
    try dsimp only at H
    by_cases aL : aV = true
    ·subst aL
     replace H := ifT H
     obtain rfl := oI H
     go_enter func77, ntmps77
     go_wp2_with (first | ((with_reducible refine gD 2 ?_); refine bxF w 2 #[.int .i64 Z, .string aA, .bool s, .slice I l0_3.length J] 48 (Z0) ?_; intro aH hg a2 BK499 aI GE499 HB hb; clear hb hg) | ((with_reducible refine gD 3 ?_); refine bxF w 3 #[.int .i64 aB, .string aC, .bool y, .slice M D.length O] 48 (Z38) ?_; intro aJ hg a3 U aK GE500 HB hb; have X := aM ((nL BK499 hg (Z60))); have Y := aM ((nG BK499 hg (Z60))); replace BK499 := aM (kB BK499 (Z60) hb); clear hb hg; have a5 := X.out; have a6 := Y.out; refine bD4 BK499 ?_; intros; refine bD4 U ?_; intros) | ((with_reducible refine gC 112 ?_); refine gL 24 func112 #[.slice I l0_3.length J, .slice M D.length O] ?_; (with_reducible refine (laws_eqIntS.calls k _ _ l0_3 _ _ D true _ ?Y1 ?Y2 ?Y3 ?Y4 aN.out).mono ?_); (case Y1 => have h_ := Kd.C_below aD.out HB.out; exact tC); (case Y2 => exact aE.out); (case Y3 => have h_ := Kd.C_below aF.out HB.out; exact tC); (case Y4 => exact aG.out); rintro e w' ⟨rfl, ⟨nd, rfl⟩⟩; refine ⟨_, rfl, ?_⟩))
     go_ret
     exact ⟨Z1, Z104⟩
    ·replace aL := Bool.eq_false_iff.mpr aL
     subst aL
     replace H := ifF H
     obtain rfl := oI H
     go_enter func77, ntmps77
     go_wp2_with (first | ((with_reducible refine gD 2 ?_); refine bxF w 2 #[.int .i64 Z, .string aA, .bool s, .slice I l0_3.length J] 48 (Z0) ?_; intro aH hg a7 BK499 aI GE499 HB hb; clear hb hg) | ((with_reducible refine gD 3 ?_); refine bxF w 3 #[.int .i64 aB, .string aC, .bool y, .slice M D.length O] 48 (Z38) ?_; intro aJ hg a8 U aK GE500 HB hb; have X := aM ((nL BK499 hg (Z60))); have Y := aM ((nG BK499 hg (Z60))); replace BK499 := aM (kB BK499 (Z60) hb); clear hb hg; have a9 := X.out; have bA := Y.out; refine bD4 BK499 ?_; intros; refine bD4 U ?_; intros) | ((with_reducible refine gC 112 ?_); refine gL 24 func112 #[.slice I l0_3.length J, .slice M D.length O] ?_; (with_reducible refine (laws_eqIntS.calls k _ _ l0_3 _ _ D false _ ?Y1 ?Y2 ?Y3 ?Y4 aN.out).mono ?_); (case Y1 => have h_ := Kd.C_below aD.out HB.out; exact tC); (case Y2 => exact aE.out); (case Y3 => have h_ := Kd.C_below aF.out HB.out; exact tC); (case Y4 => exact aG.out); rintro e w' ⟨rfl, ⟨nd, rfl⟩⟩; refine ⟨_, rfl, ?_⟩))
     go_ret
     exact ⟨Z1, Z104⟩
  ·rw [if_neg c4] at H
   have aQ := beq_eq_false_iff_ne.mpr c4
   have aR := bne_iff_ne.mpr c4
   obtain rfl := oI H
   go_enter func77, ntmps77
   go_wp2_with (first | ((with_reducible refine gD 2 ?_); refine bxF w 2 #[.int .i64 Z, .string aA, .bool s, .slice I l0_3.length J] 48 (Z0) ?_; intro aH hg bB BK499 aI GE499 HB hb; clear hb hg) | ((with_reducible refine gD 3 ?_); refine bxF w 3 #[.int .i64 aB, .string aC, .bool y, .slice M D.length O] 48 (Z38) ?_; intro aJ hg bC U aK GE500 HB hb; have X := aM ((nL BK499 hg (Z60))); have Y := aM ((nG BK499 hg (Z60))); replace BK499 := aM (kB BK499 (Z60) hb); clear hb hg; have bD := X.out; have bE := Y.out; refine bD4 BK499 ?_; intros; refine bD4 U ?_; intros))
   go_ret
   exact ⟨Z1, Z104⟩
 ·rw [if_neg c3] at H
  have aO := beq_eq_false_iff_ne.mpr c3
  have aP := bne_iff_ne.mpr c3
  obtain rfl := oI H
  go_enter func77, ntmps77
  go_wp2_with (first | ((with_reducible refine gD 2 ?_); refine bxF w 2 #[.int .i64 Z, .string aA, .bool s, .slice I l0_3.length J] 48 (Z0) ?_; intro aH hg bF BK499 aI GE499 HB hb; clear hb hg) | ((with_reducible refine gD 3 ?_); refine bxF w 3 #[.int .i64 aB, .string aC, .bool y, .slice M D.length O] 48 (Z38) ?_; intro aJ hg bG U aK GE500 HB hb; have X := aM ((nL BK499 hg (Z60))); have Y := aM ((nG BK499 hg (Z60))); replace BK499 := aM (kB BK499 (Z60) hb); clear hb hg; have bH := X.out; have bI := Y.out; refine bD4 BK499 ?_; intros; refine bD4 U ?_; intros))
  go_ret
  exact ⟨Z1, Z104⟩
def laws_eqNntp.f (s : ByteArray) (y : Int) (D : Bool) (I : ByteArray) (J : Int) (M : Bool) : Option (Bool) := if s.toList = I.toList then (if y = J then (if (D != M) = true then (some false) else (some true)) else (some false)) else (some false)
theorem laws_eqNntp.calls (D : ByteArray) (I : Int) (s : Bool) (J : ByteArray) (M : Int) (y : Bool) (r : Bool) (w : World) (h : laws_eqNntp.f D I s J M y = some r) :
  Calls prog 78 #[.agg #[.string D, .int .i64 I, .bool s], .agg #[.string J, .int .i64 M, .bool y]] w fun e w' => e = .returned (.bool r) ∧ Below w.heap.size w w' := by
 have aJ := underlying50
 have HB := aM (Below.refl w.heap.size w)
 have H := h
 clear h
 unfold laws_eqNntp.f at H
 by_cases c3 : D.toList = J.toList
 ·rw [if_pos c3] at H
  have aC := beq_iff_eq.mpr c3
  have aD := bne_eq_false_iff_eq.mpr c3
  clear c3
  by_cases c4 : I = M
  ·rw [if_pos c4] at H
   have aE := beq_iff_eq.mpr c4
   have aF := bne_eq_false_iff_eq.mpr c4
   clear c4
   by_cases c5 : (s != y) = true
   ·rw [if_pos c5] at H
    have aG : (s != y) = true := c5
    (try (have aH : decide (s = y) = false := by simpa using c5))
    (try (have aI : (s == y) = false := by simpa using c5))
    (try (have aK : ¬ (s = y) := by simpa using c5))
    clear c5
    obtain rfl := oI H
    go_enter func78, ntmps78
    go_wp2_with (first | ((with_reducible refine gD 2 ?_); refine bxF w 2 #[.string D, .int .i64 I, .bool s] 50 (Z0) ?_; intro Y hg w6 BK502 Z GE502 HB hb; clear hb hg) | ((with_reducible refine gD 3 ?_); refine bxF w 3 #[.string J, .int .i64 M, .bool y] 50 (Z49) ?_; intro aA hg w7 O aB GE503 HB hb; have U := aM ((nL BK502 hg (Z78))); have X := aM ((nG BK502 hg (Z78))); replace BK502 := aM (kB BK502 (Z78) hb); clear hb hg; have aL := U.out; have aN := X.out; refine bD3 BK502 ?_; intros; refine bD3 O ?_; intros))
    go_ret
    exact ⟨Z1, Z122⟩
   ·rw [if_neg c5] at H
    have aG : (s != y) = false := by simpa using c5
    (try (have aH : decide (s = y) = true := by simpa using c5))
    (try (have aI : (s == y) = true := by simpa using c5))
    clear c5
    obtain rfl := oI H
    go_enter func78, ntmps78
    go_wp2_with (first | ((with_reducible refine gD 2 ?_); refine bxF w 2 #[.string D, .int .i64 I, .bool s] 50 (Z0) ?_; intro Y hg aO BK502 Z GE502 HB hb; clear hb hg) | ((with_reducible refine gD 3 ?_); refine bxF w 3 #[.string J, .int .i64 M, .bool y] 50 (Z49) ?_; intro aA hg aP O aB GE503 HB hb; have U := aM ((nL BK502 hg (Z78))); have X := aM ((nG BK502 hg (Z78))); replace BK502 := aM (kB BK502 (Z78) hb); clear hb hg; have aQ := U.out; have aR := X.out; refine bD3 BK502 ?_; intros; refine bD3 O ?_; intros))
    go_ret
    exact ⟨Z1, Z122⟩
  ·rw [if_neg c4] at H
   have aE := beq_eq_false_iff_ne.mpr c4
   have aF := bne_iff_ne.mpr c4
   obtain rfl := oI H
   go_enter func78, ntmps78
   go_wp2_with (first | ((with_reducible refine gD 2 ?_); refine bxF w 2 #[.string D, .int .i64 I, .bool s] 50 (Z0) ?_; intro Y hg aS BK502 Z GE502 HB hb; clear hb hg) | ((with_reducible refine gD 3 ?_); refine bxF w 3 #[.string J, .int .i64 M, .bool y] 50 (Z49) ?_; intro aA hg aT O aB GE503 HB hb; have U := aM ((nL BK502 hg (Z78))); have X := aM ((nG BK502 hg (Z78))); replace BK502 := aM (kB BK502 (Z78) hb); clear hb hg; have aU := U.out; have aV := X.out; refine bD3 BK502 ?_; intros; refine bD3 O ?_; intros))
   go_ret
   exact ⟨Z1, Z122⟩
 ·rw [if_neg c3] at H
  have aC := beq_eq_false_iff_ne.mpr c3
  have aD := bne_iff_ne.mpr c3
  obtain rfl := oI H
  go_enter func78, ntmps78
  go_wp2_with (first | ((with_reducible refine gD 2 ?_); refine bxF w 2 #[.string D, .int .i64 I, .bool s] 50 (Z0) ?_; intro Y hg aW BK502 Z GE502 HB hb; clear hb hg) | ((with_reducible refine gD 3 ?_); refine bxF w 3 #[.string J, .int .i64 M, .bool y] 50 (Z49) ?_; intro aA hg aX O aB GE503 HB hb; have U := aM ((nL BK502 hg (Z78))); have X := aM ((nG BK502 hg (Z78))); replace BK502 := aM (kB BK502 (Z78) hb); clear hb hg; have aY := U.out; have aZ := X.out; refine bD3 BK502 ?_; intros; refine bD3 O ?_; intros))
  go_ret
  exact ⟨Z1, Z122⟩
def laws_eqConn.f (k : Nat) (s : Int) (y : ByteArray) (D : Int) (I : ByteArray) (J : Bool) (M : List Int) (O : ByteArray) (U : Int) (X : Bool) (Y : Int) (Z : ByteArray) (aA : Int) (aB : ByteArray) (aC : Bool) (aD : List Int) (aE : ByteArray) (aF : Int) (aG : Bool) : Option (Bool) := if s = Y then (if y.toList = Z.toList then ((laws_eqImap.f k D I J M aA aB aC aD).bind fun aH => (if aH = true then ((laws_eqNntp.f O U X aE aF aG).bind fun aI => (if aI = true then (some true) else (some false))) else (some false))) else (some false)) else (some false)
theorem laws_eqConn.calls (k : Nat) (aJ : Int) (aK : ByteArray) (D : Int) (I : ByteArray) (J : Bool) (aD : Option Addr) (aE : Nat) (s : List Int) (X : ByteArray) (Y : Int) (Z : Bool) (aL : Int) (aN : ByteArray) (M : Int) (O : ByteArray) (U : Bool) (aF : Option Addr) (aG : Nat) (y : List Int) (aA : ByteArray) (aB : Int) (aC : Bool) (r : Bool) (w : World) (aO : Kd.C (Kd.int .i64) w aD s.length s) (aP : s.length ≤ aE) (aQ : Kd.C (Kd.int .i64) w aF y.length y) (aR : y.length ≤ aG) (h : laws_eqConn.f k aJ aK D I J s X Y Z aL aN M O U y aA aB aC = some r) :
  Calls prog 46 #[.agg #[.int .i64 aJ, .string aK, .int .i64 D, .string I, .bool J, .slice aD s.length aE, .string X, .int .i64 Y, .bool Z], .agg #[.int .i64 aL, .string aN, .int .i64 M, .string O, .bool U, .slice aF y.length aG, .string aA, .int .i64 aB, .bool aC]] w fun e w' => e = .returned (.bool r) ∧ Below w.heap.size w w' := by
 have a7 := underlying52
 have a8 := underlying48
 have a9 := underlying50
 replace aO := aM aO
 replace aP := aM aP
 replace aQ := aM aQ
 replace aR := aM aR
 have HB := aM (Below.refl w.heap.size w)
 have H := h
 clear h
 unfold laws_eqConn.f at H
 by_cases c3 : aJ = aL
 ·rw [if_pos c3] at H
  have aY := beq_iff_eq.mpr c3
  have aZ := bne_eq_false_iff_eq.mpr c3
  clear c3
  by_cases c4 : aK.toList = aN.toList
  ·rw [if_pos c4] at H
   have a2 := beq_iff_eq.mpr c4
   have a3 := bne_eq_false_iff_eq.mpr c4
   clear c4
   obtain ⟨a5, A5, H⟩ := bindA H
   try dsimp only at H
   by_cases c6 : a5 = true
   ·subst c6
    replace H := ifT H
    obtain ⟨a6, A7, H⟩ := bindA H
    try dsimp only at H
    by_cases c8 : a6 = true
    ·subst c8
     replace H := ifT H
     obtain rfl := oI H
     go_enter func46, ntmps46
     go_wp2_with (first | ((with_reducible refine gD 2 ?_); refine bxF w 2 #[.int .i64 aJ, .string aK, .int .i64 D, .string I, .bool J, .slice aD s.length aE, .string X, .int .i64 Y, .bool Z] 52 (Z0) ?_; intro aS hg w9 BK504 aT GE504 HB hb; clear hb hg) | ((with_reducible refine gD 3 ?_); refine bxF w 3 #[.int .i64 aL, .string aN, .int .i64 M, .string O, .bool U, .slice aF y.length aG, .string aA, .int .i64 aB, .bool aC] 52 (Z39) ?_; intro aU hg bB BK505 aV GE505 HB hb; have aH := aM ((nL BK504 hg (Z43))); have aI := aM ((nG BK504 hg (Z43))); replace BK504 := aM (kB BK504 (Z43) hb); clear hb hg; have bC := aH.out; have bD := aI.out; refine bD9 BK504 ?_; intros; refine bD9 BK505 ?_; intros) | ((with_reducible refine gC 77 ?_); refine gL 19 func77 #[.agg #[.int .i64 D, .string I, .bool J, .slice aD s.length aE], .agg #[.int .i64 M, .string O, .bool U, .slice aF y.length aG]] ?_; (with_reducible refine (laws_eqImap.calls k D I J _ _ s M O U _ _ y true _ ?Y1 ?Y2 ?Y3 ?Y4 A5.out).mono ?_); (case Y1 => have h_ := Kd.C_below aO.out HB.out; exact tC); (case Y2 => exact aP.out); (case Y3 => have h_ := Kd.C_below aQ.out HB.out; exact tC); (case Y4 => exact aR.out); rintro e bE ⟨rfl, hb⟩; refine ⟨_, rfl, ?_⟩; replace BK504 := aM (kB BK504 (Z43) hb); replace BK505 := aM (kB BK505 (Z143) hb); replace HB := aM (below_step (Z50) hb); (try clear hb); refine bD9 BK504 ?_; intros; refine bD9 BK505 ?_; intros) | ((with_reducible refine gC 78 ?_); refine gL 25 func78 #[.agg #[.string X, .int .i64 Y, .bool Z], .agg #[.string aA, .int .i64 aB, .bool aC]] ?_; (with_reducible refine (laws_eqNntp.calls X Y Z aA aB aC true _ A7.out).mono ?_); rintro e bF ⟨rfl, hb⟩; refine ⟨_, rfl, ?_⟩; replace BK504 := aM (kB BK504 (Z43) hb); replace BK505 := aM (kB BK505 (Z143) hb); replace HB := aM (below_step (Z50) hb); (try clear hb)))
     go_ret
     exact ⟨Z1, Z50⟩
    ·replace c8 := Bool.eq_false_iff.mpr c8
     subst c8
     replace H := ifF H
     obtain rfl := oI H
     go_enter func46, ntmps46
     go_wp2_with (first | ((with_reducible refine gD 2 ?_); refine bxF w 2 #[.int .i64 aJ, .string aK, .int .i64 D, .string I, .bool J, .slice aD s.length aE, .string X, .int .i64 Y, .bool Z] 52 (Z0) ?_; intro aS hg bG BK504 aT GE504 HB hb; clear hb hg) | ((with_reducible refine gD 3 ?_); refine bxF w 3 #[.int .i64 aL, .string aN, .int .i64 M, .string O, .bool U, .slice aF y.length aG, .string aA, .int .i64 aB, .bool aC] 52 (Z39) ?_; intro aU hg bH BK505 aV GE505 HB hb; have aH := aM ((nL BK504 hg (Z43))); have aI := aM ((nG BK504 hg (Z43))); replace BK504 := aM (kB BK504 (Z43) hb); clear hb hg; have bI := aH.out; have bJ := aI.out; refine bD9 BK504 ?_; intros; refine bD9 BK505 ?_; intros) | ((with_reducible refine gC 77 ?_); refine gL 19 func77 #[.agg #[.int .i64 D, .string I, .bool J, .slice aD s.length aE], .agg #[.int .i64 M, .string O, .bool U, .slice aF y.length aG]] ?_; (with_reducible refine (laws_eqImap.calls k D I J _ _ s M O U _ _ y true _ ?Y1 ?Y2 ?Y3 ?Y4 A5.out).mono ?_); (case Y1 => have h_ := Kd.C_below aO.out HB.out; exact tC); (case Y2 => exact aP.out); (case Y3 => have h_ := Kd.C_below aQ.out HB.out; exact tC); (case Y4 => exact aR.out); rintro e bK ⟨rfl, hb⟩; refine ⟨_, rfl, ?_⟩; replace BK504 := aM (kB BK504 (Z43) hb); replace BK505 := aM (kB BK505 (Z143) hb); replace HB := aM (below_step (Z50) hb); (try clear hb); refine bD9 BK504 ?_; intros; refine bD9 BK505 ?_; intros) | ((with_reducible refine gC 78 ?_); refine gL 25 func78 #[.agg #[.string X, .int .i64 Y, .bool Z], .agg #[.string aA, .int .i64 aB, .bool aC]] ?_; (with_reducible refine (laws_eqNntp.calls X Y Z aA aB aC false _ A7.out).mono ?_); rintro e bL ⟨rfl, hb⟩; refine ⟨_, rfl, ?_⟩; replace BK504 := aM (kB BK504 (Z43) hb); replace BK505 := aM (kB BK505 (Z143) hb); replace HB := aM (below_step (Z50) hb); (try clear hb)))
     go_ret
     exact ⟨Z1, Z50⟩
   ·replace c6 := Bool.eq_false_iff.mpr c6
    subst c6
    replace H := ifF H
    obtain rfl := oI H
    go_enter func46, ntmps46
    go_wp2_with (first | ((with_reducible refine gD 2 ?_); refine bxF w 2 #[.int .i64 aJ, .string aK, .int .i64 D, .string I, .bool J, .slice aD s.length aE, .string X, .int .i64 Y, .bool Z] 52 (Z0) ?_; intro aS hg bM BK504 aT GE504 HB hb; clear hb hg) | ((with_reducible refine gD 3 ?_); refine bxF w 3 #[.int .i64 aL, .string aN, .int .i64 M, .string O, .bool U, .slice aF y.length aG, .string aA, .int .i64 aB, .bool aC] 52 (Z39) ?_; intro aU hg bN BK505 aV GE505 HB hb; have aH := aM ((nL BK504 hg (Z43))); have aI := aM ((nG BK504 hg (Z43))); replace BK504 := aM (kB BK504 (Z43) hb); clear hb hg; have bO := aH.out; have bP := aI.out; refine bD9 BK504 ?_; intros; refine bD9 BK505 ?_; intros) | ((with_reducible refine gC 77 ?_); refine gL 19 func77 #[.agg #[.int .i64 D, .string I, .bool J, .slice aD s.length aE], .agg #[.int .i64 M, .string O, .bool U, .slice aF y.length aG]] ?_; (with_reducible refine (laws_eqImap.calls k D I J _ _ s M O U _ _ y false _ ?Y1 ?Y2 ?Y3 ?Y4 A5.out).mono ?_); (case Y1 => have h_ := Kd.C_below aO.out HB.out; exact tC); (case Y2 => exact aP.out); (case Y3 => have h_ := Kd.C_below aQ.out HB.out; exact tC); (case Y4 => exact aR.out); rintro e bQ ⟨rfl, hb⟩; refine ⟨_, rfl, ?_⟩; replace BK504 := aM (kB BK504 (Z43) hb); replace BK505 := aM (kB BK505 (Z143) hb); replace HB := aM (below_step (Z50) hb); (try clear hb)))
    go_ret
    exact ⟨Z1, Z50⟩
  ·rw [if_neg c4] at H
   have a2 := beq_eq_false_iff_ne.mpr c4
   have a3 := bne_iff_ne.mpr c4
   obtain rfl := oI H
   go_enter func46, ntmps46
   go_wp2_with (first | ((with_reducible refine gD 2 ?_); refine bxF w 2 #[.int .i64 aJ, .string aK, .int .i64 D, .string I, .bool J, .slice aD s.length aE, .string X, .int .i64 Y, .bool Z] 52 (Z0) ?_; intro aS hg bR BK504 aT GE504 HB hb; clear hb hg) | ((with_reducible refine gD 3 ?_); refine bxF w 3 #[.int .i64 aL, .string aN, .int .i64 M, .string O, .bool U, .slice aF y.length aG, .string aA, .int .i64 aB, .bool aC] 52 (Z39) ?_; intro aU hg bS BK505 aV GE505 HB hb; have aH := aM ((nL BK504 hg (Z43))); have aI := aM ((nG BK504 hg (Z43))); replace BK504 := aM (kB BK504 (Z43) hb); clear hb hg; have bT := aH.out; have bU := aI.out; refine bD9 BK504 ?_; intros; refine bD9 BK505 ?_; intros))
   go_ret
   exact ⟨Z1, Z50⟩
 ·rw [if_neg c3] at H
  have aY := beq_eq_false_iff_ne.mpr c3
  have aZ := bne_iff_ne.mpr c3
  obtain rfl := oI H
  go_enter func46, ntmps46
  go_wp2_with (first | ((with_reducible refine gD 2 ?_); refine bxF w 2 #[.int .i64 aJ, .string aK, .int .i64 D, .string I, .bool J, .slice aD s.length aE, .string X, .int .i64 Y, .bool Z] 52 (Z0) ?_; intro aS hg bV BK504 aT GE504 HB hb; clear hb hg) | ((with_reducible refine gD 3 ?_); refine bxF w 3 #[.int .i64 aL, .string aN, .int .i64 M, .string O, .bool U, .slice aF y.length aG, .string aA, .int .i64 aB, .bool aC] 52 (Z39) ?_; intro aU hg bW BK505 aV GE505 HB hb; have aH := aM ((nL BK504 hg (Z43))); have aI := aM ((nG BK504 hg (Z43))); replace BK504 := aM (kB BK504 (Z43) hb); clear hb hg; have bX := aH.out; have bY := aI.out; refine bD9 BK504 ?_; intros; refine bD9 BK505 ?_; intros))
  go_ret
  exact ⟨Z1, Z50⟩
def laws_eqConnS.l0 : Nat → List (S52) → List (S52) → Int → Option (Bool)
 | 0, _, _, _ => none
 | k + 1, x0, x1, x5 => if x5 < (x0.length : Int) then (if 0 ≤ x5 then (if x5 < (x1.length : Int) then ((laws_eqConn.f k ((rd_T52 x0 x5).f0) ((rd_T52 x0 x5).f1) ((rd_T52 x0 x5).f2.f0) ((rd_T52 x0 x5).f2.f1) ((rd_T52 x0 x5).f2.f2) ((rd_T52 x0 x5).f2.f3) ((rd_T52 x0 x5).f3.f0) ((rd_T52 x0 x5).f3.f1) ((rd_T52 x0 x5).f3.f2) ((rd_T52 x1 x5).f0) ((rd_T52 x1 x5).f1) ((rd_T52 x1 x5).f2.f0) ((rd_T52 x1 x5).f2.f1) ((rd_T52 x1 x5).f2.f2) ((rd_T52 x1 x5).f2.f3) ((rd_T52 x1 x5).f3.f0) ((rd_T52 x1 x5).f3.f1) ((rd_T52 x1 x5).f3.f2)).bind fun s => (if s = true then (laws_eqConnS.l0 k x0 x1 (wrap64 (x5 + 1))) else (some false))) else (none)) else (none)) else (some true)
def laws_eqConnS.f (k : Nat) (l0 : List (S52)) (l1 : List (S52)) : Option (Bool) := if (l0.length : Int) = (l1.length : Int) then (laws_eqConnS.l0 k l0 l1 0) else (some false)
def laws_eqConnS.T6 : Bool × List (List Nat × List Nat) := (true, [([], []), ([], []), ([0, 1], [0, 1]), ([2], [2]), ([], []), ([], []), ([4, 5], [4, 5]), ([6], [6]), ([3, 7], [3, 7]), ([8], [8])])
def laws_eqConnS.B6 : List Nat := [0, 0, 3, 7, 0, 0, 48, 112, 255, 511]
theorem laws_eqConnS.tab6 : rtab .any (opsOf Tryz.f20 6) = laws_eqConnS.T6 := by kernel_rfl
theorem laws_eqConnS.bits6 : waitsOk laws_eqConnS.T6.2 laws_eqConnS.B6 = true := by kernel_rfl
theorem laws_eqConnS.calls (k : Nat) (A0 : Option Addr) (c0 : Nat) (l0 : List (S52)) (A1 : Option Addr) (c1 : Nat) (l1 : List (S52)) (r : Bool) (w : World) (hr0 : Kd.C k52 w A0 l0.length l0) (bR : l0.length ≤ c0) (bH : Kd.C k52 w A1 l1.length l1) (bS : l1.length ≤ c1) (h : laws_eqConnS.f k l0 l1 = some r) :
  Calls prog 20 #[.slice A0 l0.length c0, .slice A1 l1.length c1] w fun e w' => e = .returned (.bool r) ∧ Below w.heap.size w w' := by
 have b0 := underlying52
 replace hr0 := aM hr0
 replace bR := aM bR
 replace bH := aM bH
 replace bS := aM bS
 have HB := aM (Below.refl w.heap.size w)
 have H := h
 clear h
 unfold laws_eqConnS.f at H
 by_cases c3 : (l0.length : Int) = (l1.length : Int)
 ·rw [if_pos c3] at H
  have bT := beq_iff_eq.mpr c3
  have bU := bne_eq_false_iff_eq.mpr c3
  have bV : (l0.length == l1.length) = true := by first | simpa using c3 | (simp at c3 ⊢; omega)
  clear c3
  have H' := aM H
  clear H
  go_enter func20, ntmps20
  go_wp2
  go_loopg [5] k (fun kq v5 w' => ∃ (x5_1 : Int), v5 = .int .i64 x5_1 ∧ Aside0 (laws_eqConnS.l0 kq l0 l1 x5_1 = some r) ∧ Aside0 (kq ≤ k) ∧ Aside0 (Below w.heap.size w w'))
  case atStart => exact ⟨(0), (Z3), H', ⟨Nat.le_refl _⟩, ⟨Z0⟩⟩
  case round =>
   clear H'
   (try clear c1); (try clear c3); (try clear bT); (try clear bU); (try clear bV)
   obtain ⟨x5_1, rfl, HA, HK1, HB⟩ := hrel
   cases gk with
   | zero => exact absurd HA.out (by simp [laws_eqConnS.l0])
   | succ k1 =>
    have H := HA.out
    clear HA
    simp only [laws_eqConnS.l0] at H
    by_cases c4 : x5_1 < (l0.length : Int)
    ·rw [if_pos c4] at H
     have bY := decide_eq_true c4
     clear c4
     obtain ⟨c5, H⟩ := ifS H
     have b1 := decide_eq_true c5
     clear c5
     obtain ⟨c6, H⟩ := ifS H
     have b2 := decide_eq_true c6
     clear c6
     obtain ⟨bZ, A7, H⟩ := bindA H
     try dsimp only at H
     by_cases c8 : bZ = true
     ·subst c8
      replace H := ifT H
      have H' := aM H
      clear H
      try go_wp2
      replace HB := aM (below_drew1 HB.out)
      have aH : 0 ≤ (x5_1 : Int) := of_decide_eq_true (Z4)
      have aI : x5_1 < (l0.length : Int) := of_decide_eq_true (Z4)
      obtain ⟨bJ, aL, aN, bK, s, y, D, I, J, M, O, U, X, aO, aP⟩ := at_T52 hr0.out x5_1 aH aI
      have aQ := X
      have aR := U
      have aS := O
      have aT := M
      have aU := J
      have aV := I
      have aW := D
      have aX := y
      have aY := s
      cases bK
      replace s := cB HB.out s
      replace y := cB HB.out y
      replace D := cB HB.out D
      replace I := cB HB.out I
      replace J := cB HB.out J
      replace M := cB HB.out M
      replace O := cB HB.out O
      replace U := cB HB.out U
      replace X := cB HB.out X
      have aZ := aM aP
      have bL := aM aO
      clear aP aO
      replace aH := eq_true aH
      replace aI := eq_true aI
      have aJ : 0 ≤ (x5_1 : Int) := of_decide_eq_true (Z4)
      have aK : x5_1 < (l1.length : Int) := of_decide_eq_true (Z4)
      obtain ⟨bM, a2, a3, bN, Y, Z, aA, aB, aC, aD, aE, aF, aG, a5, a6⟩ := at_T52 bH.out x5_1 aJ aK
      have a7 := aG
      have a8 := aF
      have a9 := aE
      have bA := aD
      have bB := aC
      have bC := aB
      have bD := aA
      have bE := Z
      have bF := Y
      cases bN
      replace Y := cB HB.out Y
      replace Z := cB HB.out Z
      replace aA := cB HB.out aA
      replace aB := cB HB.out aB
      replace aC := cB HB.out aC
      replace aD := cB HB.out aD
      replace aE := cB HB.out aE
      replace aF := cB HB.out aF
      replace aG := cB HB.out aG
      have bG := aM a6
      have bO := aM a5
      clear a6 a5
      replace aJ := eq_true aJ
      replace aK := eq_true aK
      refine start_ (n := 10) (S := fun w' => Qa9 (bJ.add ((x5_1).toNat * 9)) (.int .i64 ((rd_T52 l0 x5_1).f0)) (.string ((rd_T52 l0 x5_1).f1)) (.int .i64 ((rd_T52 l0 x5_1).f2.f0)) (.string ((rd_T52 l0 x5_1).f2.f1)) (.bool ((rd_T52 l0 x5_1).f2.f2)) (.slice aL ((rd_T52 l0 x5_1).f2.f3).length aN) (.string ((rd_T52 l0 x5_1).f3.f0)) (.int .i64 ((rd_T52 l0 x5_1).f3.f1)) (.bool ((rd_T52 l0 x5_1).f3.f2)) (qa9 (bM.add ((x5_1).toNat * 9)) (.int .i64 ((rd_T52 l1 x5_1).f0)) (.string ((rd_T52 l1 x5_1).f1)) (.int .i64 ((rd_T52 l1 x5_1).f2.f0)) (.string ((rd_T52 l1 x5_1).f2.f1)) (.bool ((rd_T52 l1 x5_1).f2.f2)) (.slice a2 ((rd_T52 l1 x5_1).f2.f3).length a3) (.string ((rd_T52 l1 x5_1).f3.f0)) (.int .i64 ((rd_T52 l1 x5_1).f3.f1)) (.bool ((rd_T52 l1 x5_1).f3.f2)) w') w') (ds := []) #[false, false, false, false, false, false, false, false, false, false] (Z18) rfl rfl ⟨(cB HB.out aY :), ⟨(cB HB.out aX :), ⟨(cB HB.out aW :), ⟨(cB HB.out aV :), ⟨(cB HB.out aU :), ⟨(cB HB.out aT :), ⟨(cB HB.out aS :), ⟨(cB HB.out aR :), ⟨(cB HB.out aQ :), ⟨(cB HB.out bF :), ⟨(cB HB.out bE :), ⟨(cB HB.out bD :), ⟨(cB HB.out bC :), ⟨(cB HB.out bB :), ⟨(cB HB.out bA :), ⟨(cB HB.out a9 :), ⟨(cB HB.out a8 :), (cB HB.out a7 :)⟩⟩⟩⟩⟩⟩⟩⟩⟩⟩⟩⟩⟩⟩⟩⟩⟩ (fun hHeld => ?_); refine with_tabW laws_eqConnS.tab6 laws_eqConnS.bits6 (fun HT_ HW_ => ?_)
      generalize wr.drew = w9 at HB aZ bG s y D I J M O U X Y Z aA aB aC aD aE aF aG hHeld ⊢
      refine pA 0 17 ?_
      refine pA 1 18 ?_
      refine pA 2 19 ?_
      refine pA 4 21 ?_
      refine pA 5 22 ?_
      refine pA 6 23 ?_
      refine tA 3 20 ?_
      refine tA 7 24 ?_
      refine oA 8 25 (fun K hK => ?_)
      refine goes_ func46 (Z18) rfl #[.agg #[.int .i64 ((rd_T52 l0 x5_1).f0), .string ((rd_T52 l0 x5_1).f1), .int .i64 ((rd_T52 l0 x5_1).f2.f0), .string ((rd_T52 l0 x5_1).f2.f1), .bool ((rd_T52 l0 x5_1).f2.f2), .slice aL ((rd_T52 l0 x5_1).f2.f3).length aN, .string ((rd_T52 l0 x5_1).f3.f0), .int .i64 ((rd_T52 l0 x5_1).f3.f1), .bool ((rd_T52 l0 x5_1).f3.f2)], .agg #[.int .i64 ((rd_T52 l1 x5_1).f0), .string ((rd_T52 l1 x5_1).f1), .int .i64 ((rd_T52 l1 x5_1).f2.f0), .string ((rd_T52 l1 x5_1).f2.f1), .bool ((rd_T52 l1 x5_1).f2.f2), .slice a2 ((rd_T52 l1 x5_1).f2.f3).length a3, .string ((rd_T52 l1 x5_1).f3.f0), .int .i64 ((rd_T52 l1 x5_1).f3.f1), .bool ((rd_T52 l1 x5_1).f3.f2)]] (Z117) rfl rfl (Z2) ?_
      with_reducible refine (laws_eqConn.calls k1 ((rd_T52 l0 x5_1).f0) ((rd_T52 l0 x5_1).f1) ((rd_T52 l0 x5_1).f2.f0) ((rd_T52 l0 x5_1).f2.f1) ((rd_T52 l0 x5_1).f2.f2) _ _ ((rd_T52 l0 x5_1).f2.f3) ((rd_T52 l0 x5_1).f3.f0) ((rd_T52 l0 x5_1).f3.f1) ((rd_T52 l0 x5_1).f3.f2) ((rd_T52 l1 x5_1).f0) ((rd_T52 l1 x5_1).f1) ((rd_T52 l1 x5_1).f2.f0) ((rd_T52 l1 x5_1).f2.f1) ((rd_T52 l1 x5_1).f2.f2) _ _ ((rd_T52 l1 x5_1).f2.f3) ((rd_T52 l1 x5_1).f3.f0) ((rd_T52 l1 x5_1).f3.f1) ((rd_T52 l1 x5_1).f3.f2) true _ ?Y1 ?Y2 ?Y3 ?Y4 A7.out).mono ?_
      (case Y1 => have h_ := Kd.C_below aZ.out HB.out; exact tC)
      (case Y2 => exact bL.out)
      (case Y3 => have h_ := Kd.C_below bG.out HB.out; exact tC)
      (case Y4 => exact bO.out)
      rintro e b7 ⟨rfl, hb⟩
      refine ⟨_, rfl, ?_⟩
      replace HB := aM (below_step (Z0) hb)
      (try clear hb)
      refine hK.out _ _ ⟨(cB HB.out aY :), ⟨(cB HB.out aX :), ⟨(cB HB.out aW :), ⟨(cB HB.out aV :), ⟨(cB HB.out aU :), ⟨(cB HB.out aT :), ⟨(cB HB.out aS :), ⟨(cB HB.out aR :), ⟨(cB HB.out aQ :), ⟨(cB HB.out bF :), ⟨(cB HB.out bE :), ⟨(cB HB.out bD :), ⟨(cB HB.out bC :), ⟨(cB HB.out bB :), ⟨(cB HB.out bA :), ⟨(cB HB.out a9 :), ⟨(cB HB.out a8 :), (cB HB.out a7 :)⟩⟩⟩⟩⟩⟩⟩⟩⟩⟩⟩⟩⟩⟩⟩⟩⟩ (fun hHeld => ?_)
      clear hK K
      refine nB 25 ?_
      refine pA 9 26 ?_
      refine done_ (done_of HT_.out (Z18)) ?_
      try go_wp2
      go_roundg k1
      case measure => have := HK1.out; omega
      case rel => exact ⟨(wrap64 (x5_1 + 1)), (Z3), H', ⟨Z125⟩, ⟨Z0⟩⟩
     ·replace c8 := Bool.eq_false_iff.mpr c8
      subst c8
      replace H := ifF H
      obtain rfl := oI H
      try go_wp2
      replace HB := aM (below_drew1 HB.out)
      have aH : 0 ≤ (x5_1 : Int) := of_decide_eq_true (Z4)
      have aI : x5_1 < (l0.length : Int) := of_decide_eq_true (Z4)
      obtain ⟨bJ, aL, aN, bK, s, y, D, I, J, M, O, U, X, aO, aP⟩ := at_T52 hr0.out x5_1 aH aI
      have aQ := X
      have aR := U
      have aS := O
      have aT := M
      have aU := J
      have aV := I
      have aW := D
      have aX := y
      have aY := s
      cases bK
      replace s := cB HB.out s
      replace y := cB HB.out y
      replace D := cB HB.out D
      replace I := cB HB.out I
      replace J := cB HB.out J
      replace M := cB HB.out M
      replace O := cB HB.out O
      replace U := cB HB.out U
      replace X := cB HB.out X
      have aZ := aM aP
      have bL := aM aO
      clear aP aO
      replace aH := eq_true aH
      replace aI := eq_true aI
      have aJ : 0 ≤ (x5_1 : Int) := of_decide_eq_true (Z4)
      have aK : x5_1 < (l1.length : Int) := of_decide_eq_true (Z4)
      obtain ⟨bM, a2, a3, bN, Y, Z, aA, aB, aC, aD, aE, aF, aG, a5, a6⟩ := at_T52 bH.out x5_1 aJ aK
      have a7 := aG
      have a8 := aF
      have a9 := aE
      have bA := aD
      have bB := aC
      have bC := aB
      have bD := aA
      have bE := Z
      have bF := Y
      cases bN
      replace Y := cB HB.out Y
      replace Z := cB HB.out Z
      replace aA := cB HB.out aA
      replace aB := cB HB.out aB
      replace aC := cB HB.out aC
      replace aD := cB HB.out aD
      replace aE := cB HB.out aE
      replace aF := cB HB.out aF
      replace aG := cB HB.out aG
      have bG := aM a6
      have bO := aM a5
      clear a6 a5
      replace aJ := eq_true aJ
      replace aK := eq_true aK
      refine start_ (n := 10) (S := fun w' => Qa9 (bJ.add ((x5_1).toNat * 9)) (.int .i64 ((rd_T52 l0 x5_1).f0)) (.string ((rd_T52 l0 x5_1).f1)) (.int .i64 ((rd_T52 l0 x5_1).f2.f0)) (.string ((rd_T52 l0 x5_1).f2.f1)) (.bool ((rd_T52 l0 x5_1).f2.f2)) (.slice aL ((rd_T52 l0 x5_1).f2.f3).length aN) (.string ((rd_T52 l0 x5_1).f3.f0)) (.int .i64 ((rd_T52 l0 x5_1).f3.f1)) (.bool ((rd_T52 l0 x5_1).f3.f2)) (qa9 (bM.add ((x5_1).toNat * 9)) (.int .i64 ((rd_T52 l1 x5_1).f0)) (.string ((rd_T52 l1 x5_1).f1)) (.int .i64 ((rd_T52 l1 x5_1).f2.f0)) (.string ((rd_T52 l1 x5_1).f2.f1)) (.bool ((rd_T52 l1 x5_1).f2.f2)) (.slice a2 ((rd_T52 l1 x5_1).f2.f3).length a3) (.string ((rd_T52 l1 x5_1).f3.f0)) (.int .i64 ((rd_T52 l1 x5_1).f3.f1)) (.bool ((rd_T52 l1 x5_1).f3.f2)) w') w') (ds := []) #[false, false, false, false, false, false, false, false, false, false] (Z18) rfl rfl ⟨(cB HB.out aY :), ⟨(cB HB.out aX :), ⟨(cB HB.out aW :), ⟨(cB HB.out aV :), ⟨(cB HB.out aU :), ⟨(cB HB.out aT :), ⟨(cB HB.out aS :), ⟨(cB HB.out aR :), ⟨(cB HB.out aQ :), ⟨(cB HB.out bF :), ⟨(cB HB.out bE :), ⟨(cB HB.out bD :), ⟨(cB HB.out bC :), ⟨(cB HB.out bB :), ⟨(cB HB.out bA :), ⟨(cB HB.out a9 :), ⟨(cB HB.out a8 :), (cB HB.out a7 :)⟩⟩⟩⟩⟩⟩⟩⟩⟩⟩⟩⟩⟩⟩⟩⟩⟩ (fun hHeld => ?_); refine with_tabW laws_eqConnS.tab6 laws_eqConnS.bits6 (fun HT_ HW_ => ?_)
      generalize wr.drew = b8 at HB aZ bG s y D I J M O U X Y Z aA aB aC aD aE aF aG hHeld ⊢
      refine pA 0 17 ?_
      refine pA 1 18 ?_
      refine pA 2 19 ?_
      refine pA 4 21 ?_
      refine pA 5 22 ?_
      refine pA 6 23 ?_
      refine tA 3 20 ?_
      refine tA 7 24 ?_
      refine oA 8 25 (fun K hK => ?_)
      refine goes_ func46 (Z18) rfl #[.agg #[.int .i64 ((rd_T52 l0 x5_1).f0), .string ((rd_T52 l0 x5_1).f1), .int .i64 ((rd_T52 l0 x5_1).f2.f0), .string ((rd_T52 l0 x5_1).f2.f1), .bool ((rd_T52 l0 x5_1).f2.f2), .slice aL ((rd_T52 l0 x5_1).f2.f3).length aN, .string ((rd_T52 l0 x5_1).f3.f0), .int .i64 ((rd_T52 l0 x5_1).f3.f1), .bool ((rd_T52 l0 x5_1).f3.f2)], .agg #[.int .i64 ((rd_T52 l1 x5_1).f0), .string ((rd_T52 l1 x5_1).f1), .int .i64 ((rd_T52 l1 x5_1).f2.f0), .string ((rd_T52 l1 x5_1).f2.f1), .bool ((rd_T52 l1 x5_1).f2.f2), .slice a2 ((rd_T52 l1 x5_1).f2.f3).length a3, .string ((rd_T52 l1 x5_1).f3.f0), .int .i64 ((rd_T52 l1 x5_1).f3.f1), .bool ((rd_T52 l1 x5_1).f3.f2)]] (Z117) rfl rfl (Z2) ?_
      with_reducible refine (laws_eqConn.calls k1 ((rd_T52 l0 x5_1).f0) ((rd_T52 l0 x5_1).f1) ((rd_T52 l0 x5_1).f2.f0) ((rd_T52 l0 x5_1).f2.f1) ((rd_T52 l0 x5_1).f2.f2) _ _ ((rd_T52 l0 x5_1).f2.f3) ((rd_T52 l0 x5_1).f3.f0) ((rd_T52 l0 x5_1).f3.f1) ((rd_T52 l0 x5_1).f3.f2) ((rd_T52 l1 x5_1).f0) ((rd_T52 l1 x5_1).f1) ((rd_T52 l1 x5_1).f2.f0) ((rd_T52 l1 x5_1).f2.f1) ((rd_T52 l1 x5_1).f2.f2) _ _ ((rd_T52 l1 x5_1).f2.f3) ((rd_T52 l1 x5_1).f3.f0) ((rd_T52 l1 x5_1).f3.f1) ((rd_T52 l1 x5_1).f3.f2) false _ ?Y1 ?Y2 ?Y3 ?Y4 A7.out).mono ?_
      (case Y1 => have h_ := Kd.C_below aZ.out HB.out; exact tC)
      (case Y2 => exact bL.out)
      (case Y3 => have h_ := Kd.C_below bG.out HB.out; exact tC)
      (case Y4 => exact bO.out)
      rintro e b9 ⟨rfl, hb⟩
      refine ⟨_, rfl, ?_⟩
      replace HB := aM (below_step (Z0) hb)
      (try clear hb)
      refine hK.out _ _ ⟨(cB HB.out aY :), ⟨(cB HB.out aX :), ⟨(cB HB.out aW :), ⟨(cB HB.out aV :), ⟨(cB HB.out aU :), ⟨(cB HB.out aT :), ⟨(cB HB.out aS :), ⟨(cB HB.out aR :), ⟨(cB HB.out aQ :), ⟨(cB HB.out bF :), ⟨(cB HB.out bE :), ⟨(cB HB.out bD :), ⟨(cB HB.out bC :), ⟨(cB HB.out bB :), ⟨(cB HB.out bA :), ⟨(cB HB.out a9 :), ⟨(cB HB.out a8 :), (cB HB.out a7 :)⟩⟩⟩⟩⟩⟩⟩⟩⟩⟩⟩⟩⟩⟩⟩⟩⟩ (fun hHeld => ?_)
      clear hK K
      refine nB 25 ?_
      refine pA 9 26 ?_
      refine done_ (done_of HT_.out (Z18)) ?_
      try go_wp2
      go_ret
      exact ⟨Z1, Z0⟩
    ·rw [if_neg c4] at H
     have bY := decide_eq_false c4
     clear c4
     obtain rfl := oI H
     go_wp2
     go_ret
     exact ⟨Z1, Z0⟩
 ·rw [if_neg c3] at H
  have bT := beq_eq_false_iff_ne.mpr c3
  have bU := bne_iff_ne.mpr c3
  have bV : (l0.length == l1.length) = false := by first | simpa using c3 | (simp at c3 ⊢; omega)
  obtain rfl := oI H
  go_enter func20, ntmps20
  go_wp2
  go_ret
  exact ⟨Z1, Z0⟩
def laws_eqWorld.f (k : Nat) (s : Int) (y : ByteArray) (D : Int) (l0_3 : List (S98)) (I : List (S52)) (J : Int) (M : ByteArray) (O : Int) (U : List (S98)) (X : List (S52)) : Option (Bool) := (laws_eqEngine.f k s y D l0_3 J M O U).bind fun Y => (if Y = true then ((laws_eqConnS.f k I X).bind fun Z => (if Z = true then (some true) else (some false))) else (some false))
theorem laws_eqWorld.calls (k : Nat) (I : Int) (J : ByteArray) (M : Int) (Y : Option Addr) (Z : Nat) (l0_3 : List (S98)) (aC : Option Addr) (aD : Nat) (y : List (S52)) (O : Int) (U : ByteArray) (X : Int) (aA : Option Addr) (aB : Nat) (s : List (S98)) (aE : Option Addr) (aF : Nat) (D : List (S52)) (r : Bool) (w : World) (aG : Kd.C k98 w Y l0_3.length l0_3) (aH : l0_3.length ≤ Z) (aN : Kd.C k52 w aC y.length y) (aO : y.length ≤ aD) (aI : Kd.C k98 w aA s.length s) (aJ : s.length ≤ aB) (aP : Kd.C k52 w aE D.length D) (aQ : D.length ≤ aF) (h : laws_eqWorld.f k I J M l0_3 y O U X s D = some r) :
  Calls prog 8 #[.agg #[.int .i64 I, .string J, .int .i64 M, .slice Y l0_3.length Z, .slice aC y.length aD], .agg #[.int .i64 O, .string U, .int .i64 X, .slice aA s.length aB, .slice aE D.length aF]] w fun e w' => e = .returned (.bool r) ∧ Below w.heap.size w w' := by
 have aZ := underlying38
 have a2 := underlying35
 replace aG := aM aG
 replace aH := aM aH
 replace aN := aM aN
 replace aO := aM aO
 replace aI := aM aI
 replace aJ := aM aJ
 replace aP := aM aP
 replace aQ := aM aQ
 have HB := aM (Below.refl w.heap.size w)
 have H := h
 clear h
 unfold laws_eqWorld.f at H
 obtain ⟨aX, A3, H⟩ := bindA H
 try dsimp only at H
 by_cases c4 : aX = true
 ·subst c4
  replace H := ifT H
  obtain ⟨aY, A5, H⟩ := bindA H
  try dsimp only at H
  by_cases c6 : aY = true
  ·subst c6
   replace H := ifT H
   obtain rfl := oI H
   go_enter func8, ntmps8
   go_wp2_with (first | ((with_reducible refine gD 2 ?_); refine bxF w 2 #[.int .i64 I, .string J, .int .i64 M, .slice Y l0_3.length Z, .slice aC y.length aD] 38 (Z0) ?_; intro aT hg w7 BK511 aU GE511 HB hb; clear hb hg) | ((with_reducible refine gD 3 ?_); refine bxF w 3 #[.int .i64 O, .string U, .int .i64 X, .slice aA s.length aB, .slice aE D.length aF] 38 (Z74) ?_; intro aV hg w8 BK512 aW GE512 HB hb; have aK := aM ((nL BK511 hg (Z64))); have aL := aM ((nG BK511 hg (Z64))); replace BK511 := aM (kB BK511 (Z64) hb); clear hb hg; have a5 := aK.out; have a6 := aL.out; refine bD5 BK511 ?_; intros; refine bD5 BK512 ?_; intros) | ((with_reducible refine gC 19 ?_); refine gL 9 func19 #[.agg #[.int .i64 I, .string J, .int .i64 M, .slice Y l0_3.length Z], .agg #[.int .i64 O, .string U, .int .i64 X, .slice aA s.length aB]] ?_; (with_reducible refine (laws_eqEngine.calls k I J M _ _ l0_3 O U X _ _ s true _ ?Y1 ?Y2 ?Y3 ?Y4 A3.out).mono ?_); (case Y1 => have h_ := Kd.C_below aG.out HB.out; exact tC); (case Y2 => exact aH.out); (case Y3 => have h_ := Kd.C_below aI.out HB.out; exact tC); (case Y4 => exact aJ.out); rintro e a7 ⟨rfl, hb⟩; refine ⟨_, rfl, ?_⟩; replace BK511 := aM (kB BK511 (Z64) hb); replace BK512 := aM (kB BK512 (Z144) hb); replace HB := aM (below_step (Z67) hb); (try clear hb); refine bD5 BK511 ?_; intros; refine bD5 BK512 ?_; intros) | ((with_reducible refine gC 20 ?_); refine gL 15 func20 #[.slice aC y.length aD, .slice aE D.length aF] ?_; (with_reducible refine (laws_eqConnS.calls k _ _ y _ _ D true _ ?Y1 ?Y2 ?Y3 ?Y4 A5.out).mono ?_); (case Y1 => have h_ := Kd.C_below aN.out HB.out; exact tC); (case Y2 => exact aO.out); (case Y3 => have h_ := Kd.C_below aP.out HB.out; exact tC); (case Y4 => exact aQ.out); rintro e a8 ⟨rfl, hb⟩; refine ⟨_, rfl, ?_⟩; replace BK511 := aM (kB BK511 (Z64) hb); replace BK512 := aM (kB BK512 (Z144) hb); replace HB := aM (below_step (Z67) hb); (try clear hb)))
   go_ret
   exact ⟨Z1, Z67⟩
  ·replace c6 := Bool.eq_false_iff.mpr c6
   subst c6
   replace H := ifF H
   obtain rfl := oI H
   go_enter func8, ntmps8
   go_wp2_with (first | ((with_reducible refine gD 2 ?_); refine bxF w 2 #[.int .i64 I, .string J, .int .i64 M, .slice Y l0_3.length Z, .slice aC y.length aD] 38 (Z0) ?_; intro aT hg a9 BK511 aU GE511 HB hb; clear hb hg) | ((with_reducible refine gD 3 ?_); refine bxF w 3 #[.int .i64 O, .string U, .int .i64 X, .slice aA s.length aB, .slice aE D.length aF] 38 (Z74) ?_; intro aV hg bA BK512 aW GE512 HB hb; have aK := aM ((nL BK511 hg (Z64))); have aL := aM ((nG BK511 hg (Z64))); replace BK511 := aM (kB BK511 (Z64) hb); clear hb hg; have bB := aK.out; have bC := aL.out; refine bD5 BK511 ?_; intros; refine bD5 BK512 ?_; intros) | ((with_reducible refine gC 19 ?_); refine gL 9 func19 #[.agg #[.int .i64 I, .string J, .int .i64 M, .slice Y l0_3.length Z], .agg #[.int .i64 O, .string U, .int .i64 X, .slice aA s.length aB]] ?_; (with_reducible refine (laws_eqEngine.calls k I J M _ _ l0_3 O U X _ _ s true _ ?Y1 ?Y2 ?Y3 ?Y4 A3.out).mono ?_); (case Y1 => have h_ := Kd.C_below aG.out HB.out; exact tC); (case Y2 => exact aH.out); (case Y3 => have h_ := Kd.C_below aI.out HB.out; exact tC); (case Y4 => exact aJ.out); rintro e bD ⟨rfl, hb⟩; refine ⟨_, rfl, ?_⟩; replace BK511 := aM (kB BK511 (Z64) hb); replace BK512 := aM (kB BK512 (Z144) hb); replace HB := aM (below_step (Z67) hb); (try clear hb); refine bD5 BK511 ?_; intros; refine bD5 BK512 ?_; intros) | ((with_reducible refine gC 20 ?_); refine gL 15 func20 #[.slice aC y.length aD, .slice aE D.length aF] ?_; (with_reducible refine (laws_eqConnS.calls k _ _ y _ _ D false _ ?Y1 ?Y2 ?Y3 ?Y4 A5.out).mono ?_); (case Y1 => have h_ := Kd.C_below aN.out HB.out; exact tC); (case Y2 => exact aO.out); (case Y3 => have h_ := Kd.C_below aP.out HB.out; exact tC); (case Y4 => exact aQ.out); rintro e bE ⟨rfl, hb⟩; refine ⟨_, rfl, ?_⟩; replace BK511 := aM (kB BK511 (Z64) hb); replace BK512 := aM (kB BK512 (Z144) hb); replace HB := aM (below_step (Z67) hb); (try clear hb)))
   go_ret
   exact ⟨Z1, Z67⟩
 ·replace c4 := Bool.eq_false_iff.mpr c4
  subst c4
  replace H := ifF H
  obtain rfl := oI H
  go_enter func8, ntmps8
  go_wp2_with (first | ((with_reducible refine gD 2 ?_); refine bxF w 2 #[.int .i64 I, .string J, .int .i64 M, .slice Y l0_3.length Z, .slice aC y.length aD] 38 (Z0) ?_; intro aT hg bF BK511 aU GE511 HB hb; clear hb hg) | ((with_reducible refine gD 3 ?_); refine bxF w 3 #[.int .i64 O, .string U, .int .i64 X, .slice aA s.length aB, .slice aE D.length aF] 38 (Z74) ?_; intro aV hg bG BK512 aW GE512 HB hb; have aK := aM ((nL BK511 hg (Z64))); have aL := aM ((nG BK511 hg (Z64))); replace BK511 := aM (kB BK511 (Z64) hb); clear hb hg; have bH := aK.out; have bI := aL.out; refine bD5 BK511 ?_; intros; refine bD5 BK512 ?_; intros) | ((with_reducible refine gC 19 ?_); refine gL 9 func19 #[.agg #[.int .i64 I, .string J, .int .i64 M, .slice Y l0_3.length Z], .agg #[.int .i64 O, .string U, .int .i64 X, .slice aA s.length aB]] ?_; (with_reducible refine (laws_eqEngine.calls k I J M _ _ l0_3 O U X _ _ s false _ ?Y1 ?Y2 ?Y3 ?Y4 A3.out).mono ?_); (case Y1 => have h_ := Kd.C_below aG.out HB.out; exact tC); (case Y2 => exact aH.out); (case Y3 => have h_ := Kd.C_below aI.out HB.out; exact tC); (case Y4 => exact aJ.out); rintro e bJ ⟨rfl, hb⟩; refine ⟨_, rfl, ?_⟩; replace BK511 := aM (kB BK511 (Z64) hb); replace BK512 := aM (kB BK512 (Z144) hb); replace HB := aM (below_step (Z67) hb); (try clear hb)))
  go_ret
  exact ⟨Z1, Z67⟩
def laws_FnExactWorldOK.f (k : Nat) (I : Int) (J : ByteArray) (M : Int) (l0_3 : List (S91)) (O : List (S66)) : Option (Bool) := (laws_szWorld.f k I J M l0_3 O 1048576).bind fun U => (if U < 0 then (some true) else ((laws_toWorld.f k I J M l0_3 O).bind fun y => ((spec_WorldOK.f k y.1 y.2.1 y.2.2.1 y.2.2.2.1 y.2.2.2.2).bind fun X => ((laws_toWorld.f k I J M l0_3 O).bind fun s => ((impl_WorldOK.f k s.1 s.2.1 s.2.2.1 s.2.2.2.1 s.2.2.2.2).bind fun Y => (if (Y != X) = true then (some false) else ((laws_toWorld.f k I J M l0_3 O).bind fun D => ((laws_eqWorld.f k s.1 s.2.1 s.2.2.1 s.2.2.2.1 s.2.2.2.2 D.1 D.2.1 D.2.2.1 D.2.2.2.1 D.2.2.2.2).bind fun Z => (if Z = true then (some true) else (some false))))))))))
theorem laws_FnExactWorldOK.calls (k : Nat) (y : Int) (D : ByteArray) (I : Int) (O : Option Addr) (U : Nat) (l0_3 : List (S91)) (X : Option Addr) (Y : Nat) (s : List (S66)) (r : Bool) (w : World) (Z : Kd.C k91 w O l0_3.length l0_3) (aA : l0_3.length ≤ U) (aB : Kd.C k66 w X s.length s) (aC : s.length ≤ Y) (h : laws_FnExactWorldOK.f k y D I l0_3 s = some r) :
  Calls prog 3 #[.agg #[.int .i64 y, .string D, .int .i64 I, .slice O l0_3.length U, .slice X s.length Y]] w fun e w' => e = .returned (.bool r) ∧ Below w.heap.size w w' := by
 have cT := underlying29
 have cU := underlying38
 replace Z := aM Z
 replace aA := aM aA
 replace aB := aM aB
 replace aC := aM aC
 have HB := aM (Below.refl w.heap.size w)
 have H := h
 clear h
 unfold laws_FnExactWorldOK.f at H
 obtain ⟨aT, A2, H⟩ := bindA H
 try dsimp only at H
 by_cases c3 : aT < 0
 ·rw [if_pos c3] at H
  have bU := decide_eq_true c3
  clear c3
  obtain rfl := oI H
  go_enter func3, ntmps3
  go_wp2_with (first | ((with_reducible refine gD 1 ?_); refine bxF w 1 #[.int .i64 y, .string D, .int .i64 I, .slice O l0_3.length U, .slice X s.length Y] 29 (Z0) ?_; intro aU hg w4 BK515 aY GE515 HB hb; clear hb hg; refine bD5 BK515 ?_; intros) | ((with_reducible refine gC 4 ?_); refine gL 9 func4 #[.agg #[.int .i64 y, .string D, .int .i64 I, .slice O l0_3.length U, .slice X s.length Y], .int .i64 1048576] ?_; (with_reducible refine (laws_szWorld.calls k y D I _ _ l0_3 _ _ s 1048576 aT _ ?Y1 ?Y2 ?Y3 ?Y4 A2.out).mono ?_); (case Y1 => have h_ := Kd.C_below Z.out HB.out; exact tC); (case Y2 => exact aA.out); (case Y3 => have h_ := Kd.C_below aB.out HB.out; exact tC); (case Y4 => exact aC.out); rintro e w6 ⟨rfl, hb⟩; refine ⟨_, rfl, ?_⟩; replace BK515 := aM (kB BK515 (Z30) hb); replace HB := aM (below_step (Z11) hb); (try clear hb)))
  go_ret
  exact ⟨Z1, Z11⟩
 ·rw [if_neg c3] at H
  have bU := decide_eq_false c3
  clear c3
  obtain ⟨⟨aK, aL, aN, aD, aE⟩, A7, H⟩ := bindA H
  try dsimp only at H
  obtain ⟨aF, A8, H⟩ := bindA H
  try dsimp only at H
  obtain ⟨⟨t527, t528, t529, t530, t533⟩, A9, H⟩ := bindA H
  try dsimp only at H
  obtain ⟨aG, a5, H⟩ := bindA H
  try dsimp only at H
  by_cases aH : (aG != aF) = true
  ·rw [if_pos aH] at H
   have bV : (aG != aF) = true := aH
   (try (have bW : decide (aG = aF) = false := by simpa using aH))
   (try (have bX : (aG == aF) = false := by simpa using aH))
   (try (have cV : ¬ (aG = aF) := by simpa using aH))
   clear aH
   obtain rfl := oI H
   go_enter func3, ntmps3
   go_wp2_with (first | ((with_reducible refine gD 1 ?_); refine bxF w 1 #[.int .i64 y, .string D, .int .i64 I, .slice O l0_3.length U, .slice X s.length Y] 29 (Z0) ?_; intro aU hg cX BK515 aY GE515 HB hb; clear hb hg; refine bD5 BK515 ?_; intros) | ((with_reducible refine gC 4 ?_); refine gL 9 func4 #[.agg #[.int .i64 y, .string D, .int .i64 I, .slice O l0_3.length U, .slice X s.length Y], .int .i64 1048576] ?_; (with_reducible refine (laws_szWorld.calls k y D I _ _ l0_3 _ _ s 1048576 aT _ ?Y1 ?Y2 ?Y3 ?Y4 A2.out).mono ?_); (case Y1 => have h_ := Kd.C_below Z.out HB.out; exact tC); (case Y2 => exact aA.out); (case Y3 => have h_ := Kd.C_below aB.out HB.out; exact tC); (case Y4 => exact aC.out); rintro e cY ⟨rfl, hb⟩; refine ⟨_, rfl, ?_⟩; replace BK515 := aM (kB BK515 (Z30) hb); replace HB := aM (below_step (Z11) hb); (try clear hb); refine bD5 BK515 ?_; intros) | ((with_reducible refine gC 6 ?_); refine gL 13 func6 #[.agg #[.int .i64 y, .string D, .int .i64 I, .slice O l0_3.length U, .slice X s.length Y]] ?_; (with_reducible refine (laws_toWorld.calls k y D I _ _ l0_3 _ _ s aK aL aN aD aE _ ?Y1 ?Y2 ?Y3 ?Y4 A7.out).mono ?_); (case Y1 => have h_ := Kd.C_below Z.out HB.out; exact tC); (case Y2 => exact aA.out); (case Y3 => have h_ := Kd.C_below aB.out HB.out; exact tC); (case Y4 => exact aC.out); rintro e cZ ⟨a7, a8, rfl, J, M, hb⟩; refine ⟨_, rfl, ?_⟩; have HO522 := aM (Kd.S_lower J (below_size (Z11))); have HO525 := aM (Kd.S_lower M (below_size (Z11))); replace BK515 := aM (kB BK515 (Z30) hb); replace HB := aM (below_step (Z11) hb); (try clear hb); (try clear J); (try clear M); obtain ⟨a9, bA, bY⟩ := Kd.S_slice HO522.out; subst bY; obtain ⟨bB, bC, bZ⟩ := Kd.S_slice HO525.out; subst bZ) | ((with_reducible refine gC 5 ?_); refine gL 14 func5 #[.agg #[.int .i64 aK, .string aL, .int .i64 aN, .slice a9 aD.length bA, .slice bB aE.length bC]] ?_; (with_reducible refine (spec_WorldOK.calls k aK aL aN _ _ aD _ _ aE aF _ ?Y1 ?Y2 ?Y3 ?Y4 A8.out).mono ?_); (case Y1 => have h_ := (Kd.S_reads' HO522.out).2.2; exact tC); (case Y2 => exact (Kd.S_reads' HO522.out).2.1); (case Y3 => have h_ := (Kd.S_reads' HO525.out).2.2; exact tC); (case Y4 => exact (Kd.S_reads' HO525.out).2.1); rintro e dA ⟨rfl, hb⟩; refine ⟨_, rfl, ?_⟩; replace HO522 := aM (Kd.S_below (Z51) hb); replace HO525 := aM (Kd.S_below (Z52) hb); replace BK515 := aM (kB BK515 (Z30) hb); replace HB := aM (below_step (Z11) hb); (try clear hb); refine bD5 BK515 ?_; intros) | ((with_reducible refine gC 6 ?_); refine gL 16 func6 #[.agg #[.int .i64 y, .string D, .int .i64 I, .slice O l0_3.length U, .slice X s.length Y]] ?_; (with_reducible refine (laws_toWorld.calls k y D I _ _ l0_3 _ _ s t527 t528 t529 t530 t533 _ ?Y1 ?Y2 ?Y3 ?Y4 A9.out).mono ?_); (case Y1 => have h_ := Kd.C_below Z.out HB.out; exact tC); (case Y2 => exact aA.out); (case Y3 => have h_ := Kd.C_below aB.out HB.out; exact tC); (case Y4 => exact aC.out); rintro e dB ⟨bD, bE, rfl, J, M, hb⟩; refine ⟨_, rfl, ?_⟩; have HO532 := aM (Kd.S_lower (Kd.S_new' J (Kd.S_lt (Z51))) (below_size (Z11))); replace HO522 := aM (Kd.S_elder' (Z51) (Kd.S_base J) hb); have HO535 := aM (Kd.S_lower (Kd.S_new' M (Kd.S_lt (Z52))) (below_size (Z11))); replace HO525 := aM (Kd.S_elder' (Z52) (Kd.S_base M) hb); replace BK515 := aM (kB BK515 (Z30) hb); replace HB := aM (below_step (Z11) hb); (try clear hb); (try clear J); (try clear M)) | ((with_reducible refine gD 5 ?_); refine bxE 5 #[.int .i64 0, .string (⟨#[]⟩ : ByteArray), .int .i64 0, .slice none 0 0, .slice none 0 0] 38 ?_; intro gb536 hg dC hbox hb; replace HO522 := aM (Kd.S_below (Z51) hb); replace HO525 := aM (Kd.S_below (Z52) hb); replace HO532 := aM (Kd.S_below (Z105) hb); replace HO535 := aM (Kd.S_below (Z106) hb); have BK536 := aM (hbox); have bF := aM ((szE w hg (Z11))); have GE536 := aM ((szE w hg (Z11))); replace HB := aM (below_step (Z11) hb); have NB515_536 := aM ((nL BK515 hg (Z30))); have aV := aM ((nG BK515 hg (Z30))); replace BK515 := aM (kB BK515 (Z30) hb); clear hb hbox hg; have dD := aV.out; have dE := NB515_536.out; refine bD5 BK536 ?_; intros; obtain ⟨Ao25, co25, b0⟩ := Kd.S_slice HO532.out; subst b0; obtain ⟨Ao26, co26, b1⟩ := Kd.S_slice HO535.out; subst b1) | ((with_reducible refine gC 7 ?_); refine gL 18 func7 #[.agg #[.int .i64 t527, .string t528, .int .i64 t529, .slice Ao25 t530.length co25, .slice Ao26 t533.length co26]] ?_; (with_reducible refine (impl_WorldOK.calls k t527 t528 t529 _ _ t530 _ _ t533 aG _ ?Y1 ?Y2 ?Y3 ?Y4 a5.out).mono ?_); (case Y1 => refine (Kd.S_reads' (e := 98) (base := w.heap.size) (ok := fun k_ => (True ∧ some k_ ≠ (.slice a9 aD.length bA : Value).ownBlock)) (n := t530.length) (c := co25) ?_).2.2; exact (Z92)); (case Y2 => exact (Kd.S_reads' HO532.out).2.1); (case Y3 => refine (Kd.S_reads' (e := 52) (base := w.heap.size) (ok := fun k_ => (True ∧ some k_ ≠ (.slice bB aE.length bC : Value).ownBlock)) (n := t533.length) (c := co26) ?_).2.2; exact (Z93)); (case Y4 => exact (Kd.S_reads' HO535.out).2.1); rintro e dF ⟨rfl, hb⟩; refine ⟨_, rfl, ?_⟩; replace HO522 := aM (Kd.S_below (by (with_reducible repeat (first | apply Kd.S_alloc | apply Kd.S_drewN | apply Kd.S_drew)); exact (Kd.S_mono (sF 4 (sF 3 (sF 2 (sF 1 (sF 0 (Kd.S_types HO522.out BK536.out (Z101))))))) (fun _ h_ => h_.1))) hb); replace HO525 := aM (Kd.S_below (by (with_reducible repeat (first | apply Kd.S_alloc | apply Kd.S_drewN | apply Kd.S_drew)); exact (Kd.S_mono (sF 4 (sF 3 (sF 2 (sF 1 (sF 0 (Kd.S_types HO525.out BK536.out (Z101))))))) (fun _ h_ => h_.1))) hb); replace HO532 := aM (Kd.S_below (Z92) hb); replace HO535 := aM (Kd.S_below (Z93) hb); replace BK515 := aM (kB BK515 (Z41) hb); replace BK536 := aM (blk_below (g := gb536) (o := .cells #[.int .i64 t527, .string t528, .int .i64 t529, .slice Ao25 t530.length co25, .slice Ao26 t533.length co26] 38 (0, 0)) zB hb); replace HB := aM (below_step (Z33) hb); (try clear hb); (try clear hk)))
   go_ret
   exact ⟨Z1, Z33⟩
  ·rw [if_neg aH] at H
   have bV : (aG != aF) = false := by simpa using aH
   (try (have bW : decide (aG = aF) = true := by simpa using aH))
   (try (have bX : (aG == aF) = true := by simpa using aH))
   clear aH
   obtain ⟨⟨aO, aP, aQ, aR, aS⟩, bG, H⟩ := bindA H
   try dsimp only at H
   obtain ⟨b2, bH, H⟩ := bindA H
   try dsimp only at H
   by_cases aX : b2 = true
   ·subst aX
    replace H := ifT H
    obtain rfl := oI H
    go_enter func3, ntmps3
    try go_wp2_with (first | ((with_reducible refine gD 1 ?_); refine bxF w 1 #[.int .i64 y, .string D, .int .i64 I, .slice O l0_3.length U, .slice X s.length Y] 29 (Z0) ?_; intro aU hg dG BK515 aY GE515 HB hb; clear hb hg; refine bD5 BK515 ?_; intros) | ((with_reducible refine gC 4 ?_); refine gL 9 func4 #[.agg #[.int .i64 y, .string D, .int .i64 I, .slice O l0_3.length U, .slice X s.length Y], .int .i64 1048576] ?_; (with_reducible refine (laws_szWorld.calls k y D I _ _ l0_3 _ _ s 1048576 aT _ ?Y1 ?Y2 ?Y3 ?Y4 A2.out).mono ?_); (case Y1 => have h_ := Kd.C_below Z.out HB.out; exact tC); (case Y2 => exact aA.out); (case Y3 => have h_ := Kd.C_below aB.out HB.out; exact tC); (case Y4 => exact aC.out); rintro e dH ⟨rfl, hb⟩; refine ⟨_, rfl, ?_⟩; replace BK515 := aM (kB BK515 (Z30) hb); replace HB := aM (below_step (Z11) hb); (try clear hb); refine bD5 BK515 ?_; intros) | ((with_reducible refine gC 6 ?_); refine gL 13 func6 #[.agg #[.int .i64 y, .string D, .int .i64 I, .slice O l0_3.length U, .slice X s.length Y]] ?_; (with_reducible refine (laws_toWorld.calls k y D I _ _ l0_3 _ _ s aK aL aN aD aE _ ?Y1 ?Y2 ?Y3 ?Y4 A7.out).mono ?_); (case Y1 => have h_ := Kd.C_below Z.out HB.out; exact tC); (case Y2 => exact aA.out); (case Y3 => have h_ := Kd.C_below aB.out HB.out; exact tC); (case Y4 => exact aC.out); rintro e dI ⟨a7, a8, rfl, J, M, hb⟩; refine ⟨_, rfl, ?_⟩; have HO522 := aM (Kd.S_lower J (below_size (Z11))); have HO525 := aM (Kd.S_lower M (below_size (Z11))); replace BK515 := aM (kB BK515 (Z30) hb); replace HB := aM (below_step (Z11) hb); (try clear hb); (try clear J); (try clear M); obtain ⟨bI, bJ, b6⟩ := Kd.S_slice HO522.out; subst b6; obtain ⟨bK, bL, b7⟩ := Kd.S_slice HO525.out; subst b7) | ((with_reducible refine gC 5 ?_); refine gL 14 func5 #[.agg #[.int .i64 aK, .string aL, .int .i64 aN, .slice bI aD.length bJ, .slice bK aE.length bL]] ?_; (with_reducible refine (spec_WorldOK.calls k aK aL aN _ _ aD _ _ aE aF _ ?Y1 ?Y2 ?Y3 ?Y4 A8.out).mono ?_); (case Y1 => have h_ := (Kd.S_reads' HO522.out).2.2; exact tC); (case Y2 => exact (Kd.S_reads' HO522.out).2.1); (case Y3 => have h_ := (Kd.S_reads' HO525.out).2.2; exact tC); (case Y4 => exact (Kd.S_reads' HO525.out).2.1); rintro e dJ ⟨rfl, hb⟩; refine ⟨_, rfl, ?_⟩; replace HO522 := aM (Kd.S_below (Z51) hb); replace HO525 := aM (Kd.S_below (Z52) hb); replace BK515 := aM (kB BK515 (Z30) hb); replace HB := aM (below_step (Z11) hb); (try clear hb); refine bD5 BK515 ?_; intros) | ((with_reducible refine gC 6 ?_); refine gL 16 func6 #[.agg #[.int .i64 y, .string D, .int .i64 I, .slice O l0_3.length U, .slice X s.length Y]] ?_; (with_reducible refine (laws_toWorld.calls k y D I _ _ l0_3 _ _ s t527 t528 t529 t530 t533 _ ?Y1 ?Y2 ?Y3 ?Y4 A9.out).mono ?_); (case Y1 => have h_ := Kd.C_below Z.out HB.out; exact tC); (case Y2 => exact aA.out); (case Y3 => have h_ := Kd.C_below aB.out HB.out; exact tC); (case Y4 => exact aC.out); rintro e dK ⟨bD, bE, rfl, J, M, hb⟩; refine ⟨_, rfl, ?_⟩; have HO532 := aM (Kd.S_lower (Kd.S_new' J (Kd.S_lt (Z51))) (below_size (Z11))); replace HO522 := aM (Kd.S_elder' (Z51) (Kd.S_base J) hb); have HO535 := aM (Kd.S_lower (Kd.S_new' M (Kd.S_lt (Z52))) (below_size (Z11))); replace HO525 := aM (Kd.S_elder' (Z52) (Kd.S_base M) hb); replace BK515 := aM (kB BK515 (Z30) hb); replace HB := aM (below_step (Z11) hb); (try clear hb); (try clear J); (try clear M)) | ((with_reducible refine gD 5 ?_); refine bxE 5 #[.int .i64 0, .string (⟨#[]⟩ : ByteArray), .int .i64 0, .slice none 0 0, .slice none 0 0] 38 ?_; intro gb536 hg dL hbox hb; replace HO522 := aM (Kd.S_below (Z51) hb); replace HO525 := aM (Kd.S_below (Z52) hb); replace HO532 := aM (Kd.S_below (Z105) hb); replace HO535 := aM (Kd.S_below (Z106) hb); have BK536 := aM (hbox); have bF := aM ((szE w hg (Z11))); have GE536 := aM ((szE w hg (Z11))); replace HB := aM (below_step (Z11) hb); have NB515_536 := aM ((nL BK515 hg (Z30))); have aV := aM ((nG BK515 hg (Z30))); replace BK515 := aM (kB BK515 (Z30) hb); clear hb hbox hg; have dM := aV.out; have dN := NB515_536.out; refine bD5 BK536 ?_; intros; obtain ⟨Ao44, co44, b8⟩ := Kd.S_slice HO532.out; subst b8; obtain ⟨Ao45, co45, b9⟩ := Kd.S_slice HO535.out; subst b9) | ((with_reducible refine gC 7 ?_); refine gL 18 func7 #[.agg #[.int .i64 t527, .string t528, .int .i64 t529, .slice Ao44 t530.length co44, .slice Ao45 t533.length co45]] ?_; (with_reducible refine (impl_WorldOK.calls k t527 t528 t529 _ _ t530 _ _ t533 aG _ ?Y1 ?Y2 ?Y3 ?Y4 a5.out).mono ?_); (case Y1 => refine (Kd.S_reads' (e := 98) (base := w.heap.size) (ok := fun k_ => (True ∧ some k_ ≠ (.slice bI aD.length bJ : Value).ownBlock)) (n := t530.length) (c := co44) ?_).2.2; exact (Z94)); (case Y2 => exact (Kd.S_reads' HO532.out).2.1); (case Y3 => refine (Kd.S_reads' (e := 52) (base := w.heap.size) (ok := fun k_ => (True ∧ some k_ ≠ (.slice bK aE.length bL : Value).ownBlock)) (n := t533.length) (c := co45) ?_).2.2; exact (Z95)); (case Y4 => exact (Kd.S_reads' HO535.out).2.1); rintro e cA ⟨rfl, hb⟩; refine ⟨_, rfl, ?_⟩; replace HO522 := aM (Kd.S_below (by (with_reducible repeat (first | apply Kd.S_alloc | apply Kd.S_drewN | apply Kd.S_drew)); exact (Kd.S_mono (sF 4 (sF 3 (sF 2 (sF 1 (sF 0 (Kd.S_types HO522.out BK536.out (Z101))))))) (fun _ h_ => h_.1))) hb); replace HO525 := aM (Kd.S_below (by (with_reducible repeat (first | apply Kd.S_alloc | apply Kd.S_drewN | apply Kd.S_drew)); exact (Kd.S_mono (sF 4 (sF 3 (sF 2 (sF 1 (sF 0 (Kd.S_types HO525.out BK536.out (Z101))))))) (fun _ h_ => h_.1))) hb); replace HO532 := aM (Kd.S_below (Z94) hb); replace HO535 := aM (Kd.S_below (Z95) hb); replace BK515 := aM (kB BK515 (Z41) hb); replace BK536 := aM (blk_below (g := gb536) (o := .cells #[.int .i64 t527, .string t528, .int .i64 t529, .slice Ao44 t530.length co44, .slice Ao45 t533.length co45] 38 (0, 0)) zB hb); replace HB := aM (below_step (Z33) hb); (try clear hb); (try clear hk)))
    replace HO522 := aM (Kd.S_drew HO522.out)
    replace HO525 := aM (Kd.S_drew HO525.out)
    replace HO532 := aM (Kd.S_drew HO532.out)
    replace HO535 := aM (Kd.S_drew HO535.out)
    replace BK515 := aM (blk_drew BK515.out)
    replace BK536 := aM (blk_drew BK536.out)
    replace HB := aM (below_drew1 HB.out)
    refine start_ (n := 5) (S := fun w' => Qc5 gb536 (.int .i64 t527) (.string t528) (.int .i64 t529) (.slice Ao44 t530.length co44) (.slice Ao45 t533.length co45) (qc5 aU (.int .i64 y) (.string D) (.int .i64 I) (.slice O l0_3.length U) (.slice X s.length Y) w') w') (ds := []) #[false, false, false, false, false] (Z18) rfl rfl (bk5 BK536.out (bc5 BK515.out)) (fun hHeld => ?_)
    generalize cA.drew = dO at HO522 HO525 HO532 HO535 BK515 BK536 HB hHeld ⊢
    refine tA 0 22 ?_
    refine tA 1 23 ?_
    refine oA 2 24 (fun K hK => ?_)
    refine goes_ func6 (Z18) rfl #[.agg #[.int .i64 y, .string D, .int .i64 I, .slice O l0_3.length U, .slice X s.length Y]] (Z117) rfl rfl (Z2) ?_
    with_reducible refine (laws_toWorld.calls k y D I _ _ l0_3 _ _ s aO aP aQ aR aS _ ?Y1 ?Y2 ?Y3 ?Y4 bG.out).mono ?_
    (case Y1 => have h_ := Kd.C_below Z.out HB.out; exact tC)
    (case Y2 => exact aA.out)
    (case Y3 => have h_ := Kd.C_below aB.out HB.out; exact tC)
    (case Y4 => exact aC.out)
    rintro e dP ⟨cC, cD, rfl, J, M, hb⟩
    refine ⟨_, rfl, ?_⟩
    have aI := aM (Kd.S_lower (Kd.S_new' (Kd.S_new' J (Kd.S_lt (Z51))) (Kd.S_lt (Z105))) (below_size (Z33)))
    replace HO522 := aM (Kd.S_elder' (Z51) (Kd.S_base J) hb)
    replace HO532 := aM (Kd.S_elder' (Z105) (Kd.S_base J) hb)
    have aJ := aM (Kd.S_lower (Kd.S_new' (Kd.S_new' M (Kd.S_lt (Z52))) (Kd.S_lt (Z106))) (below_size (Z33)))
    replace HO525 := aM (Kd.S_elder' (Z52) (Kd.S_base M) hb)
    replace HO535 := aM (Kd.S_elder' (Z106) (Kd.S_base M) hb)
    replace BK515 := aM (kB BK515 (Z30) hb)
    replace BK536 := aM (kB BK536 (Z181) hb)
    replace HB := aM (below_step (Z33) hb)
    (try clear hb); (try clear a6); (try clear hk); (try clear hi); (try clear J); (try clear M)
    obtain ⟨cG, cH, bM⟩ := Kd.S_slice aI.out
    (first | subst bM | (injection bM with f1_ f2_ f3_; have f4_ := f1_.symm; have f5_ := f3_.symm; clear f1_ f2_ f3_; subst f4_; subst f5_))
    obtain ⟨cI, cJ, bN⟩ := Kd.S_slice aJ.out
    (first | subst bN | (injection bN with f1_ f2_ f3_; have f4_ := f1_.symm; have f5_ := f3_.symm; clear f1_ f2_ f3_; subst f4_; subst f5_))
    refine hK.out _ _ (bk5 BK536.out (bc5 BK515.out)) (fun hHeld => ?_)
    clear hK K
    refine nB 24 ?_
    refine oA 3 25 (fun K hK => ?_)
    refine goes_ func8 (Z18) rfl #[.agg #[.int .i64 t527, .string t528, .int .i64 t529, .slice Ao44 t530.length co44, .slice Ao45 t533.length co45], .agg #[.int .i64 aO, .string aP, .int .i64 aQ, .slice cG aR.length cH, .slice cI aS.length cJ]] (Z117) rfl rfl (Z2) ?_
    with_reducible refine (laws_eqWorld.calls k t527 t528 t529 _ _ t530 _ _ t533 aO aP aQ _ _ aR _ _ aS true _ ?Y1 ?Y2 ?Y3 ?Y4 ?Y5 ?Y6 ?Y7 ?Y8 bH.out).mono ?_
    (case Y1 => have h_ := (Kd.S_reads' HO532.out).2.2; exact tC)
    (case Y2 => exact (Kd.S_reads' HO532.out).2.1)
    (case Y3 => have h_ := (Kd.S_reads' HO535.out).2.2; exact tC)
    (case Y4 => exact (Kd.S_reads' HO535.out).2.1)
    (case Y5 => have h_ := (Kd.S_reads' aI.out).2.2; exact tC)
    (case Y6 => exact (Kd.S_reads' aI.out).2.1)
    (case Y7 => have h_ := (Kd.S_reads' aJ.out).2.2; exact tC)
    (case Y8 => exact (Kd.S_reads' aJ.out).2.1)
    rintro e dQ ⟨rfl, hb⟩
    refine ⟨_, rfl, ?_⟩
    replace HO522 := aM (Kd.S_below (Z51) hb)
    replace HO525 := aM (Kd.S_below (Z52) hb)
    replace HO532 := aM (Kd.S_below (Z105) hb)
    replace HO535 := aM (Kd.S_below (Z106) hb)
    replace aI := aM (Kd.S_below (by (with_reducible repeat (first | apply Kd.S_alloc | apply Kd.S_drewN | apply Kd.S_drew)); exact aI.out) hb)
    replace aJ := aM (Kd.S_below (by (with_reducible repeat (first | apply Kd.S_alloc | apply Kd.S_drewN | apply Kd.S_drew)); exact aJ.out) hb)
    replace BK515 := aM (kB BK515 (Z30) hb)
    replace BK536 := aM (kB BK536 (Z181) hb)
    replace HB := aM (below_step (Z33) hb)
    (try clear hb); (try clear a6); (try clear hk); (try clear hi)
    refine hK.out _ _ (bk5 BK536.out (bc5 BK515.out)) (fun hHeld => ?_)
    clear hK K
    refine nB 25 ?_
    refine pA 4 26 ?_
    refine done_ (Z18) ?_
    try go_wp2
    go_ret
    exact ⟨Z1, Z33⟩
   ·replace aX := Bool.eq_false_iff.mpr aX
    subst aX
    replace H := ifF H
    obtain rfl := oI H
    go_enter func3, ntmps3
    try go_wp2_with (first | ((with_reducible refine gD 1 ?_); refine bxF w 1 #[.int .i64 y, .string D, .int .i64 I, .slice O l0_3.length U, .slice X s.length Y] 29 (Z0) ?_; intro aU hg dR BK515 aY GE515 HB hb; clear hb hg; refine bD5 BK515 ?_; intros) | ((with_reducible refine gC 4 ?_); refine gL 9 func4 #[.agg #[.int .i64 y, .string D, .int .i64 I, .slice O l0_3.length U, .slice X s.length Y], .int .i64 1048576] ?_; (with_reducible refine (laws_szWorld.calls k y D I _ _ l0_3 _ _ s 1048576 aT _ ?Y1 ?Y2 ?Y3 ?Y4 A2.out).mono ?_); (case Y1 => have h_ := Kd.C_below Z.out HB.out; exact tC); (case Y2 => exact aA.out); (case Y3 => have h_ := Kd.C_below aB.out HB.out; exact tC); (case Y4 => exact aC.out); rintro e dS ⟨rfl, hb⟩; refine ⟨_, rfl, ?_⟩; replace BK515 := aM (kB BK515 (Z30) hb); replace HB := aM (below_step (Z11) hb); (try clear hb); refine bD5 BK515 ?_; intros) | ((with_reducible refine gC 6 ?_); refine gL 13 func6 #[.agg #[.int .i64 y, .string D, .int .i64 I, .slice O l0_3.length U, .slice X s.length Y]] ?_; (with_reducible refine (laws_toWorld.calls k y D I _ _ l0_3 _ _ s aK aL aN aD aE _ ?Y1 ?Y2 ?Y3 ?Y4 A7.out).mono ?_); (case Y1 => have h_ := Kd.C_below Z.out HB.out; exact tC); (case Y2 => exact aA.out); (case Y3 => have h_ := Kd.C_below aB.out HB.out; exact tC); (case Y4 => exact aC.out); rintro e dT ⟨a7, a8, rfl, J, M, hb⟩; refine ⟨_, rfl, ?_⟩; have HO522 := aM (Kd.S_lower J (below_size (Z11))); have HO525 := aM (Kd.S_lower M (below_size (Z11))); replace BK515 := aM (kB BK515 (Z30) hb); replace HB := aM (below_step (Z11) hb); (try clear hb); (try clear J); (try clear M); obtain ⟨bO, bP, cK⟩ := Kd.S_slice HO522.out; subst cK; obtain ⟨bQ, bR, cL⟩ := Kd.S_slice HO525.out; subst cL) | ((with_reducible refine gC 5 ?_); refine gL 14 func5 #[.agg #[.int .i64 aK, .string aL, .int .i64 aN, .slice bO aD.length bP, .slice bQ aE.length bR]] ?_; (with_reducible refine (spec_WorldOK.calls k aK aL aN _ _ aD _ _ aE aF _ ?Y1 ?Y2 ?Y3 ?Y4 A8.out).mono ?_); (case Y1 => have h_ := (Kd.S_reads' HO522.out).2.2; exact tC); (case Y2 => exact (Kd.S_reads' HO522.out).2.1); (case Y3 => have h_ := (Kd.S_reads' HO525.out).2.2; exact tC); (case Y4 => exact (Kd.S_reads' HO525.out).2.1); rintro e dU ⟨rfl, hb⟩; refine ⟨_, rfl, ?_⟩; replace HO522 := aM (Kd.S_below (Z51) hb); replace HO525 := aM (Kd.S_below (Z52) hb); replace BK515 := aM (kB BK515 (Z30) hb); replace HB := aM (below_step (Z11) hb); (try clear hb); refine bD5 BK515 ?_; intros) | ((with_reducible refine gC 6 ?_); refine gL 16 func6 #[.agg #[.int .i64 y, .string D, .int .i64 I, .slice O l0_3.length U, .slice X s.length Y]] ?_; (with_reducible refine (laws_toWorld.calls k y D I _ _ l0_3 _ _ s t527 t528 t529 t530 t533 _ ?Y1 ?Y2 ?Y3 ?Y4 A9.out).mono ?_); (case Y1 => have h_ := Kd.C_below Z.out HB.out; exact tC); (case Y2 => exact aA.out); (case Y3 => have h_ := Kd.C_below aB.out HB.out; exact tC); (case Y4 => exact aC.out); rintro e dV ⟨bD, bE, rfl, J, M, hb⟩; refine ⟨_, rfl, ?_⟩; have HO532 := aM (Kd.S_lower (Kd.S_new' J (Kd.S_lt (Z51))) (below_size (Z11))); replace HO522 := aM (Kd.S_elder' (Z51) (Kd.S_base J) hb); have HO535 := aM (Kd.S_lower (Kd.S_new' M (Kd.S_lt (Z52))) (below_size (Z11))); replace HO525 := aM (Kd.S_elder' (Z52) (Kd.S_base M) hb); replace BK515 := aM (kB BK515 (Z30) hb); replace HB := aM (below_step (Z11) hb); (try clear hb); (try clear J); (try clear M)) | ((with_reducible refine gD 5 ?_); refine bxE 5 #[.int .i64 0, .string (⟨#[]⟩ : ByteArray), .int .i64 0, .slice none 0 0, .slice none 0 0] 38 ?_; intro gb536 hg dW hbox hb; replace HO522 := aM (Kd.S_below (Z51) hb); replace HO525 := aM (Kd.S_below (Z52) hb); replace HO532 := aM (Kd.S_below (Z105) hb); replace HO535 := aM (Kd.S_below (Z106) hb); have BK536 := aM (hbox); have bF := aM ((szE w hg (Z11))); have GE536 := aM ((szE w hg (Z11))); replace HB := aM (below_step (Z11) hb); have NB515_536 := aM ((nL BK515 hg (Z30))); have aV := aM ((nG BK515 hg (Z30))); replace BK515 := aM (kB BK515 (Z30) hb); clear hb hbox hg; have dX := aV.out; have dY := NB515_536.out; refine bD5 BK536 ?_; intros; obtain ⟨Ao65, co65, cM⟩ := Kd.S_slice HO532.out; subst cM; obtain ⟨Ao66, co66, cN⟩ := Kd.S_slice HO535.out; subst cN) | ((with_reducible refine gC 7 ?_); refine gL 18 func7 #[.agg #[.int .i64 t527, .string t528, .int .i64 t529, .slice Ao65 t530.length co65, .slice Ao66 t533.length co66]] ?_; (with_reducible refine (impl_WorldOK.calls k t527 t528 t529 _ _ t530 _ _ t533 aG _ ?Y1 ?Y2 ?Y3 ?Y4 a5.out).mono ?_); (case Y1 => refine (Kd.S_reads' (e := 98) (base := w.heap.size) (ok := fun k_ => (True ∧ some k_ ≠ (.slice bO aD.length bP : Value).ownBlock)) (n := t530.length) (c := co65) ?_).2.2; exact (Z96)); (case Y2 => exact (Kd.S_reads' HO532.out).2.1); (case Y3 => refine (Kd.S_reads' (e := 52) (base := w.heap.size) (ok := fun k_ => (True ∧ some k_ ≠ (.slice bQ aE.length bR : Value).ownBlock)) (n := t533.length) (c := co66) ?_).2.2; exact (Z97)); (case Y4 => exact (Kd.S_reads' HO535.out).2.1); rintro e cO ⟨rfl, hb⟩; refine ⟨_, rfl, ?_⟩; replace HO522 := aM (Kd.S_below (by (with_reducible repeat (first | apply Kd.S_alloc | apply Kd.S_drewN | apply Kd.S_drew)); exact (Kd.S_mono (sF 4 (sF 3 (sF 2 (sF 1 (sF 0 (Kd.S_types HO522.out BK536.out (Z101))))))) (fun _ h_ => h_.1))) hb); replace HO525 := aM (Kd.S_below (by (with_reducible repeat (first | apply Kd.S_alloc | apply Kd.S_drewN | apply Kd.S_drew)); exact (Kd.S_mono (sF 4 (sF 3 (sF 2 (sF 1 (sF 0 (Kd.S_types HO525.out BK536.out (Z101))))))) (fun _ h_ => h_.1))) hb); replace HO532 := aM (Kd.S_below (Z96) hb); replace HO535 := aM (Kd.S_below (Z97) hb); replace BK515 := aM (kB BK515 (Z41) hb); replace BK536 := aM (blk_below (g := gb536) (o := .cells #[.int .i64 t527, .string t528, .int .i64 t529, .slice Ao65 t530.length co65, .slice Ao66 t533.length co66] 38 (0, 0)) zB hb); replace HB := aM (below_step (Z33) hb); (try clear hb); (try clear hk)))
    replace HO522 := aM (Kd.S_drew HO522.out)
    replace HO525 := aM (Kd.S_drew HO525.out)
    replace HO532 := aM (Kd.S_drew HO532.out)
    replace HO535 := aM (Kd.S_drew HO535.out)
    replace BK515 := aM (blk_drew BK515.out)
    replace BK536 := aM (blk_drew BK536.out)
    replace HB := aM (below_drew1 HB.out)
    refine start_ (n := 5) (S := fun w' => Qc5 gb536 (.int .i64 t527) (.string t528) (.int .i64 t529) (.slice Ao65 t530.length co65) (.slice Ao66 t533.length co66) (qc5 aU (.int .i64 y) (.string D) (.int .i64 I) (.slice O l0_3.length U) (.slice X s.length Y) w') w') (ds := []) #[false, false, false, false, false] (Z18) rfl rfl (bk5 BK536.out (bc5 BK515.out)) (fun hHeld => ?_)
    generalize cO.drew = dZ at HO522 HO525 HO532 HO535 BK515 BK536 HB hHeld ⊢
    refine tA 0 22 ?_
    refine tA 1 23 ?_
    refine oA 2 24 (fun K hK => ?_)
    refine goes_ func6 (Z18) rfl #[.agg #[.int .i64 y, .string D, .int .i64 I, .slice O l0_3.length U, .slice X s.length Y]] (Z117) rfl rfl (Z2) ?_
    with_reducible refine (laws_toWorld.calls k y D I _ _ l0_3 _ _ s aO aP aQ aR aS _ ?Y1 ?Y2 ?Y3 ?Y4 bG.out).mono ?_
    (case Y1 => have h_ := Kd.C_below Z.out HB.out; exact tC)
    (case Y2 => exact aA.out)
    (case Y3 => have h_ := Kd.C_below aB.out HB.out; exact tC)
    (case Y4 => exact aC.out)
    rintro e d0 ⟨cC, cD, rfl, J, M, hb⟩
    refine ⟨_, rfl, ?_⟩
    have aI := aM (Kd.S_lower (Kd.S_new' (Kd.S_new' J (Kd.S_lt (Z51))) (Kd.S_lt (Z105))) (below_size (Z33)))
    replace HO522 := aM (Kd.S_elder' (Z51) (Kd.S_base J) hb)
    replace HO532 := aM (Kd.S_elder' (Z105) (Kd.S_base J) hb)
    have aJ := aM (Kd.S_lower (Kd.S_new' (Kd.S_new' M (Kd.S_lt (Z52))) (Kd.S_lt (Z106))) (below_size (Z33)))
    replace HO525 := aM (Kd.S_elder' (Z52) (Kd.S_base M) hb)
    replace HO535 := aM (Kd.S_elder' (Z106) (Kd.S_base M) hb)
    replace BK515 := aM (kB BK515 (Z30) hb)
    replace BK536 := aM (kB BK536 (Z181) hb)
    replace HB := aM (below_step (Z33) hb)
    (try clear hb); (try clear a6); (try clear hk); (try clear hi); (try clear J); (try clear M)
    obtain ⟨cP, cQ, bS⟩ := Kd.S_slice aI.out
    (first | subst bS | (injection bS with f1_ f2_ f3_; have f4_ := f1_.symm; have f5_ := f3_.symm; clear f1_ f2_ f3_; subst f4_; subst f5_))
    obtain ⟨cR, cS, bT⟩ := Kd.S_slice aJ.out
    (first | subst bT | (injection bT with f1_ f2_ f3_; have f4_ := f1_.symm; have f5_ := f3_.symm; clear f1_ f2_ f3_; subst f4_; subst f5_))
    refine hK.out _ _ (bk5 BK536.out (bc5 BK515.out)) (fun hHeld => ?_)
    clear hK K
    refine nB 24 ?_
    refine oA 3 25 (fun K hK => ?_)
    refine goes_ func8 (Z18) rfl #[.agg #[.int .i64 t527, .string t528, .int .i64 t529, .slice Ao65 t530.length co65, .slice Ao66 t533.length co66], .agg #[.int .i64 aO, .string aP, .int .i64 aQ, .slice cP aR.length cQ, .slice cR aS.length cS]] (Z117) rfl rfl (Z2) ?_
    with_reducible refine (laws_eqWorld.calls k t527 t528 t529 _ _ t530 _ _ t533 aO aP aQ _ _ aR _ _ aS false _ ?Y1 ?Y2 ?Y3 ?Y4 ?Y5 ?Y6 ?Y7 ?Y8 bH.out).mono ?_
    (case Y1 => have h_ := (Kd.S_reads' HO532.out).2.2; exact tC)
    (case Y2 => exact (Kd.S_reads' HO532.out).2.1)
    (case Y3 => have h_ := (Kd.S_reads' HO535.out).2.2; exact tC)
    (case Y4 => exact (Kd.S_reads' HO535.out).2.1)
    (case Y5 => have h_ := (Kd.S_reads' aI.out).2.2; exact tC)
    (case Y6 => exact (Kd.S_reads' aI.out).2.1)
    (case Y7 => have h_ := (Kd.S_reads' aJ.out).2.2; exact tC)
    (case Y8 => exact (Kd.S_reads' aJ.out).2.1)
    rintro e d1 ⟨rfl, hb⟩
    refine ⟨_, rfl, ?_⟩
    replace HO522 := aM (Kd.S_below (Z51) hb)
    replace HO525 := aM (Kd.S_below (Z52) hb)
    replace HO532 := aM (Kd.S_below (Z105) hb)
    replace HO535 := aM (Kd.S_below (Z106) hb)
    replace aI := aM (Kd.S_below (by (with_reducible repeat (first | apply Kd.S_alloc | apply Kd.S_drewN | apply Kd.S_drew)); exact aI.out) hb)
    replace aJ := aM (Kd.S_below (by (with_reducible repeat (first | apply Kd.S_alloc | apply Kd.S_drewN | apply Kd.S_drew)); exact aJ.out) hb)
    replace BK515 := aM (kB BK515 (Z30) hb)
    replace BK536 := aM (kB BK536 (Z181) hb)
    replace HB := aM (below_step (Z33) hb)
    (try clear hb); (try clear a6); (try clear hk); (try clear hi)
    refine hK.out _ _ (bk5 BK536.out (bc5 BK515.out)) (fun hHeld => ?_)
    clear hK K
    refine nB 25 ?_
    refine pA 4 26 ?_
    refine done_ (Z18) ?_
    try go_wp2
    go_ret
    exact ⟨Z1, Z33⟩
end Go.Proofs.YtifkmkiljpeaaacGreat.PFnExactWorldOK
