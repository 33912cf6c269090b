import Derived.Test.YtcmnndnigjkldaaGreatDoorPFnExactFetchTextxA
namespace Go.Proofs.YtcmnndnigjkldaaGreatDoor.PFnExactFetchText
open Go.RowKit Go.Proofs.YtcmnndnigjkldaaGreatDoorW.PrintWords Go.Proofs.YtcmnndnigjkldaaGreatDoorW.PrintLast Go.Proofs.YtcmnndnigjkldaaGreatDoorW.PrintMore Go.Proofs.YtcmnndnigjkldaaGreatDoor.Mac
attribute [local go_sem] max2_int min2_int max_two min_two max_three min_three max_four min_four
set_option linter.unusedVariables false
set_option linter.unusedSimpArgs false

/-! ### spec_l03Unfold: function 52 -/
mutual
def spec_l03Unfold.j1 : Nat → ByteArray → Int → Option (ByteArray × ByteArray × Bool)
 | 0, _, _ => none
 | k + 1, x0, x5 => if (wrap64 (x5 + 3)) > (x0.size : Int) then (spec_l03Unfold.j2 k x0 x5 true) else (if 0 ≤ (wrap64 ((x0.size : Int) - 2)) then (if (wrap64 ((x0.size : Int) - 2)) ≤ (x0.size : Int) then (if (x0.extract ((wrap64 ((x0.size : Int) - 2)) : Int).toNat x0.size).toList = ([13, 10] : List UInt8) then (if 0 ≤ x5 then (if x5 ≤ (x0.size : Int) then ((spec_HeaderNameOK.f k (x0.extract 0 (x5 : Int).toNat)).bind fun t122 => (if t122 = true then (if 0 ≤ (wrap64 (x5 + 1)) then (if (wrap64 (x5 + 1)) < (x0.size : Int) then (spec_l03Unfold.j2 k x0 x5 ((bt x0 (wrap64 (x5 + 1))) != 32)) else (none)) else (none)) else (spec_l03Unfold.j2 k x0 x5 true))) else (none)) else (none)) else (spec_l03Unfold.j2 k x0 x5 true)) else (none)) else (none))
def spec_l03Unfold.j2 : Nat → ByteArray → Int → Bool → Option (ByteArray × ByteArray × Bool)
 | 0, _, _, _ => none
 | k + 1, x0, x5, x48 => if x48 = true then (some ((⟨#[]⟩ : ByteArray), (⟨#[]⟩ : ByteArray), false)) else (if 0 ≤ (wrap64 (x5 + 1)) then (if (wrap64 (x5 + 1)) ≤ (wrap64 ((x0.size : Int) - 2)) then (if (wrap64 ((x0.size : Int) - 2)) ≤ (x0.size : Int) then (spec_l03Unfold.l1 k x0 x5 (x0.extract ((wrap64 (x5 + 1)) : Int).toNat ((wrap64 ((x0.size : Int) - 2)) : Int).toNat) (([] : List Int)) 0) else (none)) else (none)) else (none))
def spec_l03Unfold.l1 : Nat → ByteArray → Int → ByteArray → List Int → Int → Option (ByteArray × ByteArray × Bool)
 | 0, _, _, _, _, _ => none
 | k + 1, x0, x5, x6, x7, x8 => if x8 < (x6.size : Int) then (if 0 ≤ x8 then (if (bt x6 x8) = 13 then (if (wrap64 (x8 + 2)) ≥ (x6.size : Int) then (some ((⟨#[]⟩ : ByteArray), (⟨#[]⟩ : ByteArray), false)) else (if 0 ≤ (wrap64 (x8 + 1)) then (if (wrap64 (x8 + 1)) < (x6.size : Int) then (if (bt x6 (wrap64 (x8 + 1))) = 10 then (if 0 ≤ (wrap64 (x8 + 2)) then (if (wrap64 (x8 + 2)) < (x6.size : Int) then (if (bt x6 (wrap64 (x8 + 2))) = 32 then (spec_l03Unfold.l1 k x0 x5 x6 x7 (wrap64 ((wrap64 (x8 + 1)) + 1))) else (some ((⟨#[]⟩ : ByteArray), (⟨#[]⟩ : ByteArray), false))) else (none)) else (none)) else (some ((⟨#[]⟩ : ByteArray), (⟨#[]⟩ : ByteArray), false))) else (none)) else (none))) else (if x7.length < 140737488355328 then (spec_l03Unfold.l1 k x0 x5 x6 (x7 ++ [bt x6 x8]) (wrap64 (x8 + 1))) else (none))) else (none)) else (if 1 ≤ (x7.length : Int) then ((some (x7.drop 1 : List Int)).bind fun y126 => (if 0 ≤ x5 then (if x5 ≤ (x0.size : Int) then ((spec_SafeValue.f k (strOfNums y126)).bind fun t130 => (some (x0.extract 0 (x5 : Int).toNat, strOfNums y126, t130))) else (none)) else (none))) else (none))
def spec_l03Unfold.l0 : Nat → ByteArray → Int → Option (ByteArray × ByteArray × Bool)
 | 0, _, _ => none
 | k + 1, x0, x5 => if x5 < (x0.size : Int) then (if 0 ≤ x5 then (if (bt x0 x5) = 58 then (spec_l03Unfold.j1 k x0 x5) else (spec_l03Unfold.l0 k x0 (wrap64 (x5 + 1)))) else (none)) else (spec_l03Unfold.j1 k x0 x5)
end
def spec_l03Unfold.f (k : Nat) (a0 : ByteArray) : Option (ByteArray × ByteArray × Bool) := spec_l03Unfold.l0 k a0 0
theorem spec_l03Unfold.mono_l : ∀ k, (∀ y0 y1, LeO (spec_l03Unfold.j1 k y0 y1) (spec_l03Unfold.j1 (k + 1) y0 y1)) ∧ (∀ y0 y1 y2, LeO (spec_l03Unfold.j2 k y0 y1 y2) (spec_l03Unfold.j2 (k + 1) y0 y1 y2)) ∧ (∀ y0 y1 y2 y3 y4, LeO (spec_l03Unfold.l1 k y0 y1 y2 y3 y4) (spec_l03Unfold.l1 (k + 1) y0 y1 y2 y3 y4)) ∧ (∀ y0 y1, LeO (spec_l03Unfold.l0 k y0 y1) (spec_l03Unfold.l0 (k + 1) y0 y1))
 | 0 => ⟨fun _ _ r h => by simp [spec_l03Unfold.j1] at h, fun _ _ _ r h => by simp [spec_l03Unfold.j2] at h, fun _ _ _ _ _ r h => by simp [spec_l03Unfold.l1] at h, fun _ _ r h => by simp [spec_l03Unfold.l0] at h⟩
 | k + 1 => by
  obtain ⟨ih0, ih1, ih2, ih3⟩ := spec_l03Unfold.mono_l k
  refine ⟨?_, ?_, ?_, ?_⟩
  ·intro y0 y1
   unfold spec_l03Unfold.j1
   have m0 := @spec_HeaderNameOK.mono
   have m1 := @spec_SafeValue.mono
   exact tM
  ·intro y0 y1 y2
   unfold spec_l03Unfold.j2
   have m0 := @spec_HeaderNameOK.mono
   have m1 := @spec_SafeValue.mono
   exact tM
  ·intro y0 y1 y2 y3 y4
   unfold spec_l03Unfold.l1
   have m0 := @spec_HeaderNameOK.mono
   have m1 := @spec_SafeValue.mono
   exact tM
  ·intro y0 y1
   unfold spec_l03Unfold.l0
   have m0 := @spec_HeaderNameOK.mono
   have m1 := @spec_SafeValue.mono
   exact tM
theorem spec_l03Unfold.mono : ∀ a0 k, LeO (spec_l03Unfold.f k a0) (spec_l03Unfold.f (k + 1) a0) := by
 intro a0 k
 obtain ⟨ih0, ih1, ih2, ih3⟩ := spec_l03Unfold.mono_l k
 unfold spec_l03Unfold.f
 have m0 := @spec_HeaderNameOK.mono
 have m1 := @spec_SafeValue.mono
 exact tM
set_option maxHeartbeats 40000000 in
set_option maxRecDepth 100000 in
theorem spec_l03Unfold.calls (k : Nat) (a0 : ByteArray) (r1 : ByteArray) (r2 : ByteArray) (r3 : Bool) (w : World) (h : spec_l03Unfold.f k a0 = some (r1, r2, r3)) :
  Calls Tryz.prog 52 #[.string a0] w fun e w' => e = .returned (.tuple #[.string r1, .string r2, .bool r3]) ∧ Below w.heap.size w w' := by
 have HB := Aside0.mk (Below.refl w.heap.size w)
 have H : (spec_l03Unfold.l0 k a0 0) = some (r1, r2, r3) := h
 clear h
 have HC2 := Aside0.mk H
 clear H
 go_enter Tryz.func52, Tryz.ntmps52
 go_upto_block 0 with (fail)
 repeat (go_quiet (fail); go_upto_block 0 with (fail))
 go_cut [5] (fun v5 wc => ∃ (kq : Nat) (x5_1 : Int), v5 = .int .i64 x5_1 ∧ Aside0 (spec_l03Unfold.j1 kq a0 x5_1 = some (r1, r2, r3)) ∧ Aside0 (kq ≤ k) ∧ Aside0 (Below w.heap.size w wc))
 case first =>
  have H := HC2.out
  clear HC2
  have H' := Aside0.mk H
  clear H
  go_wp2
  repeat (go_quiet (fail); try go_wp2)
  go_loopg [5] k (fun kq v5 w' => ∃ (x5_1 : Int), v5 = .int .i64 x5_1 ∧ Aside0 (spec_l03Unfold.l0 kq a0 x5_1 = some (r1, r2, r3)) ∧ Aside0 (kq ≤ k) ∧ Aside0 (Below w.heap.size w w'))
  case atStart => exact ⟨(0), (Z2), H', ⟨Nat.le_refl _⟩, ⟨Z0⟩⟩
  case round =>
   clear H'
   obtain ⟨x5_1, rfl, HA, HK1, HB⟩ := hrel
   cases gk with
   | zero => exact absurd HA.out (by simp [spec_l03Unfold.l0])
   | succ k1 =>
    have H := HA.out
    clear HA
    simp only [spec_l03Unfold.l0] at H
    by_cases c3 : x5_1 < (a0.size : Int)
    ·rw [if_pos c3] at H
     have c3b0 := decide_eq_true c3
     clear c3
     (first | rw [c3b0] | rw [c3b1] | (simp only [i64_w, i32_w]; rw [c3b0]) | skip)
     obtain ⟨c4, H⟩ := ifS H
     have c4b0 := decide_eq_true c4
     clear c4
     by_cases c6 : (bt a0 x5_1) = 58
     ·rw [if_pos c6] at H
      have c6b0 := beq_iff_eq.mpr c6
      have c6b1 := bne_eq_false_iff_eq.mpr c6
      clear c6
      have H' := Aside0.mk H
      clear H
      have p5 : 0 ≤ (x5_1 : Int) := of_decide_eq_true (Z4)
      have q5 : x5_1 < (a0.size : Int) := of_decide_eq_true (Z4)
      have hx5 := bt_at a0 x5_1
      replace p5 := eq_true p5
      replace q5 := eq_true q5
      go_wp2
      repeat (go_quiet (fail); try go_wp2)
      go_meet
      case rel => exact ⟨_, (x5_1), (Z2), H', ⟨Z47⟩, ⟨Z0⟩⟩
     ·rw [if_neg c6] at H
      have c6b0 := beq_eq_false_iff_ne.mpr c6
      have c6b1 := bne_iff_ne.mpr c6
      have H' := Aside0.mk H
      clear H
      have p5 : 0 ≤ (x5_1 : Int) := of_decide_eq_true (Z4)
      have q5 : x5_1 < (a0.size : Int) := of_decide_eq_true (Z4)
      have hx5 := bt_at a0 x5_1
      replace p5 := eq_true p5
      replace q5 := eq_true q5
      go_wp2
      repeat (go_quiet (fail); try go_wp2)
      go_roundg k1
      case measure => have := HK1.out; omega
      case rel => exact ⟨(wrap64 (x5_1 + 1)), (Z2), H', ⟨Z59⟩, ⟨Z0⟩⟩
    ·rw [if_neg c3] at H
     have c3b0 := decide_eq_false c3
     clear c3
     (first | rw [c3b0] | rw [c3b1] | (simp only [i64_w, i32_w]; rw [c3b0]) | skip)
     have H' := Aside0.mk H
     clear H
     go_wp2
     repeat (go_quiet (fail); try go_wp2)
     go_meet
     case rel => exact ⟨_, (x5_1), (Z2), H', ⟨Z47⟩, ⟨Z0⟩⟩
 case rest =>
  clear HC2
  obtain ⟨kq, x5_1, rfl, HA, HJ1, HB⟩ := hcut
  cases kq with
  | zero => exact absurd HA.out (by simp [spec_l03Unfold.j1])
  | succ kj1 =>
   have H := HA.out
   clear HA
   simp only [spec_l03Unfold.j1] at H
   have HC7 := Aside0.mk H
   clear H
   go_upto_region 4 with (fail)
   repeat (go_quiet (fail); go_upto_region 4 with (fail))
   go_cut [48] (fun v48 wc => ∃ (kq : Nat) (x48_6 : Bool), v48 = .bool x48_6 ∧ Aside0 (spec_l03Unfold.j2 kq a0 x5_1 x48_6 = some (r1, r2, r3)) ∧ Aside0 (kq ≤ kj1) ∧ Aside0 (Below w.heap.size w wc))
   case first =>
    have H := HC7.out
    clear HC7
    by_cases c8 : (wrap64 (x5_1 + 3)) > (a0.size : Int)
    ·rw [if_pos c8] at H
     have c8b0 : decide ((a0.size : Int) < (wrap64 (x5_1 + 3))) = true := decide_eq_true c8
     clear c8
     (first | rw [c8b0] | rw [c8b1] | (simp only [i64_w, i32_w]; rw [c8b0]) | skip)
     have H' := Aside0.mk H
     clear H
     go_wp2
     repeat (go_quiet (fail); try go_wp2)
     go_meet
     case rel => exact ⟨_, (true), (Z2), H', ⟨Z74⟩, ⟨Z0⟩⟩
    ·rw [if_neg c8] at H
     have c8b0 : decide ((a0.size : Int) < (wrap64 (x5_1 + 3))) = false := decide_eq_false c8
     clear c8
     (first | rw [c8b0] | rw [c8b1] | (simp only [i64_w, i32_w]; rw [c8b0]) | skip)
     obtain ⟨ji9, hji9⟩ : ∃ j_ : Int, (wrap64 ((a0.size : Int) - 2)) = j_ := ⟨_, rfl⟩
     replace H : (if 0 ≤ (ji9) then (if (ji9) ≤ (a0.size : Int) then (if (a0.extract ((ji9) : Int).toNat a0.size).toList = ([13, 10] : List UInt8) then (if 0 ≤ x5_1 then (if x5_1 ≤ (a0.size : Int) then ((spec_HeaderNameOK.f kj1 (a0.extract 0 (x5_1 : Int).toNat)).bind fun t122 => (if t122 = true then (if 0 ≤ (wrap64 (x5_1 + 1)) then (if (wrap64 (x5_1 + 1)) < (a0.size : Int) then (spec_l03Unfold.j2 kj1 a0 x5_1 ((bt a0 (wrap64 (x5_1 + 1))) != 32)) else (none)) else (none)) else (spec_l03Unfold.j2 kj1 a0 x5_1 true))) else (none)) else (none)) else (spec_l03Unfold.j2 kj1 a0 x5_1 true)) else (none)) else (none)) = some (r1, r2, r3) := by first | (rw [hji9] at H; exact H) | (simp only [hji9] at H ⊢; exact H)
     have hji9w : (IntKind.i64.wrap ((a0.size : Int) - 2)) = ji9 := (i64_w _).trans hji9
     obtain ⟨c10, H⟩ := ifS H
     have c10b0 := eq_true c10
     have c10b1 : decide (0 ≤ (ji9)) = true := decide_eq_true c10
     clear c10
     obtain ⟨c11, H⟩ := ifS H
     have c11b0 := eq_true c11
     have c11b1 : decide ((ji9) ≤ (a0.size : Int)) = true := decide_eq_true c11
     clear c11
     by_cases c12 : (a0.extract ((ji9) : Int).toNat a0.size).toList = ([13, 10] : List UInt8)
     ·rw [if_pos c12] at H
      have c12b0 := beq_iff_eq.mpr c12
      have c12b1 := bne_eq_false_iff_eq.mpr c12
      clear c12
      obtain ⟨c13, H⟩ := ifS H
      have c13b0 := eq_true c13
      have c13b1 : decide (0 ≤ x5_1) = true := decide_eq_true c13
      clear c13
      obtain ⟨c14, H⟩ := ifS H
      have c14b0 := eq_true c14
      have c14b1 : decide (x5_1 ≤ (a0.size : Int)) = true := decide_eq_true c14
      clear c14
      obtain ⟨t122, A15, H⟩ := bindA H
      try dsimp only at H
      by_cases c16 : t122 = true
      ·subst c16
       replace H := ifT H
       obtain ⟨ji17, hji17⟩ : ∃ j_ : Int, (wrap64 (x5_1 + 1)) = j_ := ⟨_, rfl⟩
       replace H : (if 0 ≤ (ji17) then (if (ji17) < (a0.size : Int) then (spec_l03Unfold.j2 kj1 a0 x5_1 ((bt a0 (ji17)) != 32)) else (none)) else (none)) = some (r1, r2, r3) := by first | (rw [hji17] at H; exact H) | (simp only [hji17] at H ⊢; exact H)
       (try rw [hji17] at A15)
       have hji17w : (IntKind.i64.wrap (x5_1 + 1)) = ji17 := (i64_w _).trans hji17
       obtain ⟨c18, H⟩ := ifS H
       have c18b0 := decide_eq_true c18
       clear c18
       obtain ⟨c19, H⟩ := ifS H
       have c19b0 := decide_eq_true c19
       clear c19
       have H' := Aside0.mk H
       clear H
       go_wp2_with (first | (go_at_call 65; (with_reducible refine (spec_HeaderNameOK.calls kj1 (a0.extract 0 (x5_1 : Int).toNat) true _ A15.out).mono ?_); rintro e w' ⟨rfl, ⟨nd, rfl⟩⟩; (try first | exact ⟨rfl, _, World.drewN_drewN _ _ _⟩ | exact ⟨rfl, _, Eq.trans (World.drewN_drewN _ _ _) (congrArg (World.drewN _) (Nat.add_assoc _ _ _))⟩); have p20 : 0 ≤ ((ji17) : Int) := of_decide_eq_true (Z4); have q20 : (ji17) < (a0.size : Int) := of_decide_eq_true (Z4); have hx20 := bt_at a0 (ji17); replace p20 := eq_true p20; replace q20 := eq_true q20))
       repeat (go_quiet (first | (go_at_call 65; (with_reducible refine (spec_HeaderNameOK.calls kj1 (a0.extract 0 (x5_1 : Int).toNat) true _ A15.out).mono ?_); rintro e w' ⟨rfl, ⟨nd, rfl⟩⟩; (try first | exact ⟨rfl, _, World.drewN_drewN _ _ _⟩ | exact ⟨rfl, _, Eq.trans (World.drewN_drewN _ _ _) (congrArg (World.drewN _) (Nat.add_assoc _ _ _))⟩); have p20 : 0 ≤ ((ji17) : Int) := of_decide_eq_true (Z4); have q20 : (ji17) < (a0.size : Int) := of_decide_eq_true (Z4); have hx20 := bt_at a0 (ji17); replace p20 := eq_true p20; replace q20 := eq_true q20)); try go_wp2_with (first | (go_at_call 65; (with_reducible refine (spec_HeaderNameOK.calls kj1 (a0.extract 0 (x5_1 : Int).toNat) true _ A15.out).mono ?_); rintro e w' ⟨rfl, ⟨nd, rfl⟩⟩; (try first | exact ⟨rfl, _, World.drewN_drewN _ _ _⟩ | exact ⟨rfl, _, Eq.trans (World.drewN_drewN _ _ _) (congrArg (World.drewN _) (Nat.add_assoc _ _ _))⟩); have p20 : 0 ≤ ((ji17) : Int) := of_decide_eq_true (Z4); have q20 : (ji17) < (a0.size : Int) := of_decide_eq_true (Z4); have hx20 := bt_at a0 (ji17); replace p20 := eq_true p20; replace q20 := eq_true q20)))
       go_meet
       case rel => exact ⟨_, (((bt a0 (ji17)) != 32)), (by first | rfl | (simp; done) | (simp only [← hji17] <;> (first | rfl | simp)) | (simp [*]; done)), H', ⟨Z74⟩, ⟨Z0⟩⟩
      ·replace c16 := Bool.eq_false_iff.mpr c16
       subst c16
       replace H := ifF H
       have H' := Aside0.mk H
       clear H
       go_wp2_with (first | (go_at_call 65; (with_reducible refine (spec_HeaderNameOK.calls kj1 (a0.extract 0 (x5_1 : Int).toNat) false _ A15.out).mono ?_); rintro e w' ⟨rfl, ⟨nd, rfl⟩⟩; (try first | exact ⟨rfl, _, World.drewN_drewN _ _ _⟩ | exact ⟨rfl, _, Eq.trans (World.drewN_drewN _ _ _) (congrArg (World.drewN _) (Nat.add_assoc _ _ _))⟩)))
       repeat (go_quiet (first | (go_at_call 65; (with_reducible refine (spec_HeaderNameOK.calls kj1 (a0.extract 0 (x5_1 : Int).toNat) false _ A15.out).mono ?_); rintro e w' ⟨rfl, ⟨nd, rfl⟩⟩; (try first | exact ⟨rfl, _, World.drewN_drewN _ _ _⟩ | exact ⟨rfl, _, Eq.trans (World.drewN_drewN _ _ _) (congrArg (World.drewN _) (Nat.add_assoc _ _ _))⟩))); try go_wp2_with (first | (go_at_call 65; (with_reducible refine (spec_HeaderNameOK.calls kj1 (a0.extract 0 (x5_1 : Int).toNat) false _ A15.out).mono ?_); rintro e w' ⟨rfl, ⟨nd, rfl⟩⟩; (try first | exact ⟨rfl, _, World.drewN_drewN _ _ _⟩ | exact ⟨rfl, _, Eq.trans (World.drewN_drewN _ _ _) (congrArg (World.drewN _) (Nat.add_assoc _ _ _))⟩))))
       go_meet
       case rel => exact ⟨_, (true), (Z2), H', ⟨Z74⟩, ⟨Z0⟩⟩
     ·rw [if_neg c12] at H
      have c12b0 := beq_eq_false_iff_ne.mpr c12
      have c12b1 := bne_iff_ne.mpr c12
      have H' := Aside0.mk H
      clear H
      go_wp2
      repeat (go_quiet (fail); try go_wp2)
      go_meet
      case rel => exact ⟨_, (true), (Z2), H', ⟨Z74⟩, ⟨Z0⟩⟩
   case rest =>
    clear HC7
    obtain ⟨kq, x48_6, rfl, HA, HJ6, HB⟩ := hcut
    cases kq with
    | zero => exact absurd HA.out (by simp [spec_l03Unfold.j2])
    | succ kj6 =>
     have H := HA.out
     clear HA
     simp only [spec_l03Unfold.j2] at H
     by_cases c21 : x48_6 = true
     ·subst c21
      replace H := ifT H
      simp only [Option.some.injEq, Prod.mk.injEq] at H
      obtain ⟨rfl, rfl, rfl⟩ := H
      go_wp2
      repeat (go_quiet (fail); try go_wp2)
      go_ret3
      exact ⟨Z3, Z0⟩
     ·replace c21 := Bool.eq_false_iff.mpr c21
      subst c21
      replace H := ifF H
      obtain ⟨ji22, hji22⟩ : ∃ j_ : Int, (wrap64 (x5_1 + 1)) = j_ := ⟨_, rfl⟩
      replace H : (if 0 ≤ (ji22) then (if (ji22) ≤ (wrap64 ((a0.size : Int) - 2)) then (if (wrap64 ((a0.size : Int) - 2)) ≤ (a0.size : Int) then (spec_l03Unfold.l1 kj6 a0 x5_1 (a0.extract ((ji22) : Int).toNat ((wrap64 ((a0.size : Int) - 2)) : Int).toNat) (([] : List Int)) 0) else (none)) else (none)) else (none)) = some (r1, r2, r3) := by first | (rw [hji22] at H; exact H) | (simp only [hji22] at H ⊢; exact H)
      have hji22w : (IntKind.i64.wrap (x5_1 + 1)) = ji22 := (i64_w _).trans hji22
      obtain ⟨c23, H⟩ := ifS H
      have c23b0 := eq_true c23
      have c23b1 : decide (0 ≤ (ji22)) = true := decide_eq_true c23
      clear c23
      obtain ⟨c24, H⟩ := ifS H
      have c24b0 := eq_true c24
      have c24b1 : decide ((ji22) ≤ (wrap64 ((a0.size : Int) - 2))) = true := decide_eq_true c24
      clear c24
      obtain ⟨c25, H⟩ := ifS H
      have c25b0 := eq_true c25
      have c25b1 : decide ((wrap64 ((a0.size : Int) - 2)) ≤ (a0.size : Int)) = true := decide_eq_true c25
      clear c25
      obtain ⟨y123, hy123⟩ : ∃ y_ : List Int, y_ = (([] : List Int)) := ⟨_, rfl⟩
      replace H : (spec_l03Unfold.l1 kj6 a0 x5_1 (a0.extract ((ji22) : Int).toNat ((wrap64 ((a0.size : Int) - 2)) : Int).toNat) y123 0) = some (r1, r2, r3) := by first | (rw [hy123]; with_reducible exact H) | (have H2_ := (Option.bind_some _ _).symm.trans H; rw [hy123]; with_reducible exact H2_) | (have H2_ := (Option.bind_some _ _).symm.trans H; with_reducible exact H2_) | with_reducible exact H | (rw [hy123]; exact H) | exact H
      have Ny123 := Aside0.mk hy123
      clear hy123
      have H' := Aside0.mk H
      clear H
      go_wp2_with (first | ((with_reducible refine gate_dst (N := 56) rfl ?_); (try (refine gate_guard (by rfl) ?_; dsimp only)); refine Kd.R_lit (Kd.int .u8) _ 5 ?hg (N := 56) ?hd (xs := ([] : List Int)) (inner := []) (ok := fun _ => True) (okp := fun _ => True) ?hr ?hp (fun _ hk => hk) trivial (Below.refl _ _) (Nat.le_refl _) (by simp) ?_; (case hd => rfl); (case hg => rfl); (case hr => first | (go_simp; done) | (go_simp; rfl)); (case hp => exact (Reps.none _ _)); intro v124 w26 ho27 hb hg_ hnew_; clear hg_ hnew_; (first | rw [← Ny123.out] at ho27 | (simp only [Int.reduceToNat] at ho27; rw [← Ny123.out] at ho27)); have HO125 := Aside0.mk (Kd.R_lower ho27 (below_size (Z0))); replace HB := Aside0.mk (below_step (Z0) hb); clear hb ho27))
      repeat (go_quiet (first | ((with_reducible refine gate_dst (N := 56) rfl ?_); (try (refine gate_guard (by rfl) ?_; dsimp only)); refine Kd.R_lit (Kd.int .u8) _ 5 ?hg (N := 56) ?hd (xs := ([] : List Int)) (inner := []) (ok := fun _ => True) (okp := fun _ => True) ?hr ?hp (fun _ hk => hk) trivial (Below.refl _ _) (Nat.le_refl _) (by simp) ?_; (case hd => rfl); (case hg => rfl); (case hr => first | (go_simp; done) | (go_simp; rfl)); (case hp => exact (Reps.none _ _)); intro v124 w26 ho27 hb hg_ hnew_; clear hg_ hnew_; (first | rw [← Ny123.out] at ho27 | (simp only [Int.reduceToNat] at ho27; rw [← Ny123.out] at ho27)); have HO125 := Aside0.mk (Kd.R_lower ho27 (below_size (Z0))); replace HB := Aside0.mk (below_step (Z0) hb); clear hb ho27)); try go_wp2_with (first | ((with_reducible refine gate_dst (N := 56) rfl ?_); (try (refine gate_guard (by rfl) ?_; dsimp only)); refine Kd.R_lit (Kd.int .u8) _ 5 ?hg (N := 56) ?hd (xs := ([] : List Int)) (inner := []) (ok := fun _ => True) (okp := fun _ => True) ?hr ?hp (fun _ hk => hk) trivial (Below.refl _ _) (Nat.le_refl _) (by simp) ?_; (case hd => rfl); (case hg => rfl); (case hr => first | (go_simp; done) | (go_simp; rfl)); (case hp => exact (Reps.none _ _)); intro v124 w26 ho27 hb hg_ hnew_; clear hg_ hnew_; (first | rw [← Ny123.out] at ho27 | (simp only [Int.reduceToNat] at ho27; rw [← Ny123.out] at ho27)); have HO125 := Aside0.mk (Kd.R_lower ho27 (below_size (Z0))); replace HB := Aside0.mk (below_step (Z0) hb); clear hb ho27)))
      generalize (a0.extract ((ji22) : Int).toNat ((wrap64 ((a0.size : Int) - 2)) : Int).toNat) = z6 at H' ⊢
      go_loopg [7, 8] kj6 (fun kq v7 v8 w' => ∃ (x7_3 : List Int) (x8_3 : Int), v8 = .int .i64 x8_3 ∧ Aside0 (spec_l03Unfold.l1 kq a0 x5_1 z6 x7_3 x8_3 = some (r1, r2, r3)) ∧ Aside0 (kq ≤ kj6) ∧ Aside0 (Kd.R (Kd.int .u8) 5 w' w.heap.size (fun _ => True) v7 x7_3) ∧ Aside0 (Below w.heap.size w w'))
      case atStart => exact ⟨(y123), (0), (Z2), H', ⟨Nat.le_refl _⟩, ⟨by (with_reducible repeat (first | apply Kd.R_alloc | apply Kd.R_drewN | apply Kd.R_drew)); exact HO125.out⟩, ⟨Z0⟩⟩
      case round =>
       clear H'
       (try clear c21); (try clear c23); (try clear c23b0); (try clear c23b1); (try clear c24); (try clear c24b0); (try clear c24b1); (try clear c25); (try clear c25b0); (try clear c25b1)
       obtain ⟨x7_3, x8_3, rfl, HA, HK3, HO_7, HB⟩ := hrel
       cases gk with
       | zero => exact absurd HA.out (by simp [spec_l03Unfold.l1])
       | succ k3 =>
        have H := HA.out
        clear HA
        simp only [spec_l03Unfold.l1] at H
        by_cases c28 : x8_3 < (z6.size : Int)
        ·rw [if_pos c28] at H
         have c28b0 := decide_eq_true c28
         clear c28
         obtain ⟨c29, H⟩ := ifS H
         have c29b0 := decide_eq_true c29
         clear c29
         by_cases c31 : (bt z6 x8_3) = 13
         ·rw [if_pos c31] at H
          have c31b0 := beq_iff_eq.mpr c31
          have c31b1 := bne_eq_false_iff_eq.mpr c31
          clear c31
          by_cases c32 : (wrap64 (x8_3 + 2)) ≥ (z6.size : Int)
          ·rw [if_pos c32] at H
           have c32b0 : decide ((z6.size : Int) ≤ (wrap64 (x8_3 + 2))) = true := decide_eq_true c32
           clear c32
           simp only [Option.some.injEq, Prod.mk.injEq] at H
           obtain ⟨rfl, rfl, rfl⟩ := H
           have p30 : 0 ≤ (x8_3 : Int) := of_decide_eq_true (Z4)
           have q30 : x8_3 < (z6.size : Int) := of_decide_eq_true (Z4)
           have hx30 := bt_at z6 x8_3
           replace p30 := eq_true p30
           replace q30 := eq_true q30
           go_wp2
           repeat (go_quiet (fail); try go_wp2)
           go_ret3
           exact ⟨Z60, Z0⟩
          ·rw [if_neg c32] at H
           have c32b0 : decide ((z6.size : Int) ≤ (wrap64 (x8_3 + 2))) = false := decide_eq_false c32
           clear c32
           obtain ⟨ji33, hji33⟩ : ∃ j_ : Int, (wrap64 (x8_3 + 1)) = j_ := ⟨_, rfl⟩
           replace H : (if 0 ≤ (ji33) then (if (ji33) < (z6.size : Int) then (if (bt z6 (ji33)) = 10 then (if 0 ≤ (wrap64 (x8_3 + 2)) then (if (wrap64 (x8_3 + 2)) < (z6.size : Int) then (if (bt z6 (wrap64 (x8_3 + 2))) = 32 then (spec_l03Unfold.l1 k3 a0 x5_1 z6 x7_3 (wrap64 ((ji33) + 1))) else (some ((⟨#[]⟩ : ByteArray), (⟨#[]⟩ : ByteArray), false))) else (none)) else (none)) else (some ((⟨#[]⟩ : ByteArray), (⟨#[]⟩ : ByteArray), false))) else (none)) else (none)) = some (r1, r2, r3) := by first | (rw [hji33] at H; exact H) | (simp only [hji33] at H ⊢; exact H)
           have hji33w : (IntKind.i64.wrap (x8_3 + 1)) = ji33 := (i64_w _).trans hji33
           obtain ⟨c34, H⟩ := ifS H
           have c34b0 := decide_eq_true c34
           clear c34
           obtain ⟨c35, H⟩ := ifS H
           have c35b0 := decide_eq_true c35
           clear c35
           by_cases c37 : (bt z6 (ji33)) = 10
           ·rw [if_pos c37] at H
            have c37b0 := beq_iff_eq.mpr c37
            have c37b1 := bne_eq_false_iff_eq.mpr c37
            clear c37
            obtain ⟨ji38, hji38⟩ : ∃ j_ : Int, (wrap64 (x8_3 + 2)) = j_ := ⟨_, rfl⟩
            replace H : (if 0 ≤ (ji38) then (if (ji38) < (z6.size : Int) then (if (bt z6 (ji38)) = 32 then (spec_l03Unfold.l1 k3 a0 x5_1 z6 x7_3 (wrap64 ((ji33) + 1))) else (some ((⟨#[]⟩ : ByteArray), (⟨#[]⟩ : ByteArray), false))) else (none)) else (none)) = some (r1, r2, r3) := by first | (rw [hji38] at H; exact H) | (simp only [hji38] at H ⊢; exact H)
            (try rw [hji38] at c32b0)
            have hji38w : (IntKind.i64.wrap (x8_3 + 2)) = ji38 := (i64_w _).trans hji38
            obtain ⟨c39, H⟩ := ifS H
            have c39b0 := decide_eq_true c39
            clear c39
            obtain ⟨c40, H⟩ := ifS H
            have c40b0 := decide_eq_true c40
            clear c40
            by_cases c42 : (bt z6 (ji38)) = 32
            ·rw [if_pos c42] at H
             have c42b0 := beq_iff_eq.mpr c42
             have c42b1 := bne_eq_false_iff_eq.mpr c42
             clear c42
             have H' := Aside0.mk H
             clear H
             have p30 : 0 ≤ (x8_3 : Int) := of_decide_eq_true (Z4)
             have q30 : x8_3 < (z6.size : Int) := of_decide_eq_true (Z4)
             have hx30 := bt_at z6 x8_3
             replace p30 := eq_true p30
             replace q30 := eq_true q30
             have p36 : 0 ≤ ((ji33) : Int) := of_decide_eq_true (Z4)
             have q36 : (ji33) < (z6.size : Int) := of_decide_eq_true (Z4)
             have hx36 := bt_at z6 (ji33)
             replace p36 := eq_true p36
             replace q36 := eq_true q36
             have p41 : 0 ≤ ((ji38) : Int) := of_decide_eq_true (Z4)
             have q41 : (ji38) < (z6.size : Int) := of_decide_eq_true (Z4)
             have hx41 := bt_at z6 (ji38)
             replace p41 := eq_true p41
             replace q41 := eq_true q41
             go_wp2
             repeat (go_quiet (fail); try go_wp2)
             go_roundg k3
             case measure => have := HJ1.out; have := HJ6.out; have := HK3.out; omega
             case rel => exact ⟨(x7_3), (wrap64 ((ji33) + 1)), (by first | rfl | (simp; done) | (simp only [← hji33] <;> (first | rfl | simp)) | (simp [*]; done)), H', ⟨by have := HJ1.out; have := HJ6.out; have := HK3.out; omega⟩, ⟨Z43⟩, ⟨Z0⟩⟩
            ·rw [if_neg c42] at H
             have c42b0 := beq_eq_false_iff_ne.mpr c42
             have c42b1 := bne_iff_ne.mpr c42
             simp only [Option.some.injEq, Prod.mk.injEq] at H
             obtain ⟨rfl, rfl, rfl⟩ := H
             have p30 : 0 ≤ (x8_3 : Int) := of_decide_eq_true (Z4)
             have q30 : x8_3 < (z6.size : Int) := of_decide_eq_true (Z4)
             have hx30 := bt_at z6 x8_3
             replace p30 := eq_true p30
             replace q30 := eq_true q30
             have p36 : 0 ≤ ((ji33) : Int) := of_decide_eq_true (Z4)
             have q36 : (ji33) < (z6.size : Int) := of_decide_eq_true (Z4)
             have hx36 := bt_at z6 (ji33)
             replace p36 := eq_true p36
             replace q36 := eq_true q36
             have p41 : 0 ≤ ((ji38) : Int) := of_decide_eq_true (Z4)
             have q41 : (ji38) < (z6.size : Int) := of_decide_eq_true (Z4)
             have hx41 := bt_at z6 (ji38)
             replace p41 := eq_true p41
             replace q41 := eq_true q41
             go_wp2
             repeat (go_quiet (fail); try go_wp2)
             go_ret3
             exact ⟨by first | rfl | (simp only [nil_beq, nil_bne]; rfl) | (simp [nil_beq, nil_bne]; done) | (simp [errW_none, errW_some] <;> rfl) | (simp only [← hji22, ← hji33, ← hji38]; first | rfl | (simp [errW_none, errW_some] <;> rfl)) | (simp [*, errW_none, errW_some] <;> rfl), Z0⟩
           ·rw [if_neg c37] at H
            have c37b0 := beq_eq_false_iff_ne.mpr c37
            have c37b1 := bne_iff_ne.mpr c37
            simp only [Option.some.injEq, Prod.mk.injEq] at H
            obtain ⟨rfl, rfl, rfl⟩ := H
            have p30 : 0 ≤ (x8_3 : Int) := of_decide_eq_true (Z4)
            have q30 : x8_3 < (z6.size : Int) := of_decide_eq_true (Z4)
            have hx30 := bt_at z6 x8_3
            replace p30 := eq_true p30
            replace q30 := eq_true q30
            have p36 : 0 ≤ ((ji33) : Int) := of_decide_eq_true (Z4)
            have q36 : (ji33) < (z6.size : Int) := of_decide_eq_true (Z4)
            have hx36 := bt_at z6 (ji33)
            replace p36 := eq_true p36
            replace q36 := eq_true q36
            go_wp2
            repeat (go_quiet (fail); try go_wp2)
            go_ret3
            exact ⟨by first | rfl | (simp only [nil_beq, nil_bne]; rfl) | (simp [nil_beq, nil_bne]; done) | (simp [errW_none, errW_some] <;> rfl) | (simp only [← hji22, ← hji33]; first | rfl | (simp [errW_none, errW_some] <;> rfl)) | (simp [*, errW_none, errW_some] <;> rfl), Z0⟩
         ·rw [if_neg c31] at H
          have c31b0 := beq_eq_false_iff_ne.mpr c31
          have c31b1 := bne_iff_ne.mpr c31
          obtain ⟨c44, H⟩ := ifS H
          have LMc44 := Aside0.mk c44
          clear c44
          obtain ⟨y131, hy131⟩ : ∃ y_ : List Int, y_ = (x7_3 ++ [bt z6 x8_3]) := ⟨_, rfl⟩
          replace H : (spec_l03Unfold.l1 k3 a0 x5_1 z6 y131 (wrap64 (x8_3 + 1))) = some (r1, r2, r3) := by first | (rw [hy131]; with_reducible exact H) | (have H2_ := (Option.bind_some _ _).symm.trans H; rw [hy131]; with_reducible exact H2_) | (have H2_ := (Option.bind_some _ _).symm.trans H; with_reducible exact H2_) | with_reducible exact H | (rw [hy131]; exact H) | exact H
          have Ny131 := Aside0.mk hy131
          clear hy131
          have H' := Aside0.mk H
          clear H
          have p30 : 0 ≤ (x8_3 : Int) := of_decide_eq_true (Z4)
          have q30 : x8_3 < (z6.size : Int) := of_decide_eq_true (Z4)
          have hx30 := bt_at z6 x8_3
          replace p30 := eq_true p30
          replace q30 := eq_true q30
          have p43 : 0 ≤ (x8_3 : Int) := of_decide_eq_true (Z4)
          have q43 : x8_3 < (z6.size : Int) := of_decide_eq_true (Z4)
          have hx43 := bt_at z6 x8_3
          replace p43 := eq_true p43
          replace q43 := eq_true q43
          go_wp2_with (first | ((with_reducible refine gate_builtin (b := .append) (xs := #[.tmp 88, .tmp 92]) rfl ?_); (try (refine gate_guard (by rfl) ?_; dsimp only)); at_builtin; refine Kd.R_append (Kd.int .u8) (w0 := w) w.heap.size rfl (.tmp 88) (.tmp 92) 55 5 (.int .u8 0) 1 rfl Tryz.underlying55 info5 rfl (Z63) (Z46) u7 x7_3 (bt z6 x8_3) [.int .u8 (bt z6 x8_3)] (fun _ => True) (fun _ => False) rfl rfl ?aP (fun _ hk => hk.elim) ?aF ?aO ?aB ?aS ?aL ?_; (case aP => exact rfl); (case aB => exact (Z0)); (case aF => exact (fun _ _ => trivial)); (case aO => exact (Z43)); (case aS => exact (below_size (Z0))); (case aL => have := LMc44.out; omega); intro v132 w45 ho hb hg hat; rw [← Ny131.out] at ho; have n0_ := Aside0.mk (hb); have n1_ := Aside0.mk (ho); clear HB; clear HO_7; have HB := n0_; have HO133 := n1_; clear n0_ n1_; clear ho hb hg hat))
          repeat (go_quiet (first | ((with_reducible refine gate_builtin (b := .append) (xs := #[.tmp 88, .tmp 92]) rfl ?_); (try (refine gate_guard (by rfl) ?_; dsimp only)); at_builtin; refine Kd.R_append (Kd.int .u8) (w0 := w) w.heap.size rfl (.tmp 88) (.tmp 92) 55 5 (.int .u8 0) 1 rfl Tryz.underlying55 info5 rfl (Z63) (Z46) u7 x7_3 (bt z6 x8_3) [.int .u8 (bt z6 x8_3)] (fun _ => True) (fun _ => False) rfl rfl ?aP (fun _ hk => hk.elim) ?aF ?aO ?aB ?aS ?aL ?_; (case aP => exact rfl); (case aB => exact (Z0)); (case aF => exact (fun _ _ => trivial)); (case aO => exact (Z43)); (case aS => exact (below_size (Z0))); (case aL => have := LMc44.out; omega); intro v132 w45 ho hb hg hat; rw [← Ny131.out] at ho; have n0_ := Aside0.mk (hb); have n1_ := Aside0.mk (ho); clear HB; clear HO_7; have HB := n0_; have HO133 := n1_; clear n0_ n1_; clear ho hb hg hat)); try go_wp2_with (first | ((with_reducible refine gate_builtin (b := .append) (xs := #[.tmp 88, .tmp 92]) rfl ?_); (try (refine gate_guard (by rfl) ?_; dsimp only)); at_builtin; refine Kd.R_append (Kd.int .u8) (w0 := w) w.heap.size rfl (.tmp 88) (.tmp 92) 55 5 (.int .u8 0) 1 rfl Tryz.underlying55 info5 rfl (Z63) (Z46) u7 x7_3 (bt z6 x8_3) [.int .u8 (bt z6 x8_3)] (fun _ => True) (fun _ => False) rfl rfl ?aP (fun _ hk => hk.elim) ?aF ?aO ?aB ?aS ?aL ?_; (case aP => exact rfl); (case aB => exact (Z0)); (case aF => exact (fun _ _ => trivial)); (case aO => exact (Z43)); (case aS => exact (below_size (Z0))); (case aL => have := LMc44.out; omega); intro v132 w45 ho hb hg hat; rw [← Ny131.out] at ho; have n0_ := Aside0.mk (hb); have n1_ := Aside0.mk (ho); clear HB; clear HO_7; have HB := n0_; have HO133 := n1_; clear n0_ n1_; clear ho hb hg hat)))
          go_roundg k3
          case measure => have := HJ1.out; have := HJ6.out; have := HK3.out; omega
          case rel => exact ⟨(y131), (wrap64 (x8_3 + 1)), (Z2), H', ⟨by have := HJ1.out; have := HJ6.out; have := HK3.out; omega⟩, ⟨by (with_reducible repeat (first | apply Kd.R_alloc | apply Kd.R_drewN | apply Kd.R_drew)); exact HO133.out⟩, ⟨Z0⟩⟩
        ·rw [if_neg c28] at H
         have c28b0 := decide_eq_false c28
         clear c28
         obtain ⟨c46, H⟩ := ifS H
         have c46b0 := eq_true c46
         have c46b1 : decide (1 ≤ (x7_3.length : Int)) = true := decide_eq_true c46
         clear c46
         obtain ⟨y126, hy126⟩ : ∃ y_ : List Int, y_ = (x7_3.drop 1) := ⟨_, rfl⟩
         replace H : (if 0 ≤ x5_1 then (if x5_1 ≤ (a0.size : Int) then ((spec_SafeValue.f k3 (strOfNums y126)).bind fun t130 => (some (a0.extract 0 (x5_1 : Int).toNat, strOfNums y126, t130))) else (none)) else (none)) = some (r1, r2, r3) := by first | (rw [hy126]; with_reducible exact H) | (have H2_ := (Option.bind_some _ _).symm.trans H; rw [hy126]; with_reducible exact H2_) | (have H2_ := (Option.bind_some _ _).symm.trans H; with_reducible exact H2_) | with_reducible exact H | (rw [hy126]; exact H) | exact H
         have Ny126 := Aside0.mk hy126
         clear hy126
         obtain ⟨c47, H⟩ := ifS H
         have c47b0 := eq_true c47
         have c47b1 : decide (0 ≤ x5_1) = true := decide_eq_true c47
         clear c47
         obtain ⟨c48, H⟩ := ifS H
         have c48b0 := eq_true c48
         have c48b1 : decide (x5_1 ≤ (a0.size : Int)) = true := decide_eq_true c48
         clear c48
         obtain ⟨t130, A49, H⟩ := bindA H
         try dsimp only at H
         simp only [Option.some.injEq, Prod.mk.injEq] at H
         obtain ⟨rfl, rfl, rfl⟩ := H
         obtain ⟨Ao51, co51, eo51⟩ := Kd.R_slice HO_7.out
         subst eo51
         have q50 : (1 : Int) ≤ ((x7_3.length : Int) : Int) := of_decide_eq_true (Z4)
         obtain ⟨i050, hi050, _, hsz50, _⟩ := info_parts info5
         have hroom50 : x7_3.length ≤ co51 := (Kd.R_reads' HO_7.out).2.1
         have hC50 : Kd.C (Kd.int .u8) _ Ao51 x7_3.length x7_3 := (Kd.R_reads' HO_7.out).2.2
         have hcut50 := cut_from (P := Tryz.prog) 55 5 .i64 Tryz.underlying55 hi050 1 hsz50 Ao51 x7_3.length co51 1 (Z46) q50
         have hr50 := Kd.C_drop (m := (1 : Int).toNat) (c := co51) hC50 (Z46) hroom50
         obtain ⟨A50, hA50⟩ : ∃ A1, A1 = (if co51 = (1 : Int).toNat then Ao51 else (Ao51 : Option Addr).map (·.add ((1 : Int).toNat * 1))) := ⟨_, rfl⟩
         obtain ⟨c50, hc50⟩ : ∃ c1, c1 = co51 - (1 : Int).toNat := ⟨_, rfl⟩
         have hy50 : y126.length = x7_3.length - (1 : Int).toNat := (by rw [Ny126.out, List.length_drop] <;> omega)
         rw [show (x7_3).drop (1 : Int).toNat = y126 from Ny126.out.symm] at hr50
         replace hr50 : Kd.C (Kd.int .u8) _ A50 y126.length y126 := (by rw [hA50]; exact hr50)
         rw [← hy50, ← hA50, ← hc50] at hcut50
         have HR129 := Aside0.mk hr50
         have HC129 := Aside0.mk (show y126.length ≤ c50 from by rw [hy50, hc50]; exact Nat.sub_le_sub_right hroom50 _)
         clear hr50 hC50 hroom50 hi050 hsz50 hc50
         have KY50 := Aside0.mk hy50
         have KA50 := Aside0.mk hA50
         clear hy50 hA50
         have KL50 := Aside0.mk (show 1 ≤ x7_3.length from by omega)
         replace q50 := eq_true q50
         have hcv52 := Kd.C_string (P := Tryz.prog) (A := A50) (c := c50) Tryz.underlying55 Tryz.underlying5 Tryz.underlying9 (by repeat (first | (with_reducible exact HR129.out) | (with_reducible refine Kd.C_alloc ?_ _) | (with_reducible refine Kd.C_drewN ?_ _) | (with_reducible refine Kd.C_drew ?_) | exact HR129.out))
         go_wp2_with (first | (go_at_call 66; (with_reducible refine (spec_SafeValue.calls k3 (strOfNums y126) t130 _ A49.out).mono ?_); rintro e w' ⟨rfl, ⟨nd, rfl⟩⟩; (try first | exact ⟨rfl, _, World.drewN_drewN _ _ _⟩ | exact ⟨rfl, _, Eq.trans (World.drewN_drewN _ _ _) (congrArg (World.drewN _) (Nat.add_assoc _ _ _))⟩)))
         repeat (go_quiet (first | (go_at_call 66; (with_reducible refine (spec_SafeValue.calls k3 (strOfNums y126) t130 _ A49.out).mono ?_); rintro e w' ⟨rfl, ⟨nd, rfl⟩⟩; (try first | exact ⟨rfl, _, World.drewN_drewN _ _ _⟩ | exact ⟨rfl, _, Eq.trans (World.drewN_drewN _ _ _) (congrArg (World.drewN _) (Nat.add_assoc _ _ _))⟩))); try go_wp2_with (first | (go_at_call 66; (with_reducible refine (spec_SafeValue.calls k3 (strOfNums y126) t130 _ A49.out).mono ?_); rintro e w' ⟨rfl, ⟨nd, rfl⟩⟩; (try first | exact ⟨rfl, _, World.drewN_drewN _ _ _⟩ | exact ⟨rfl, _, Eq.trans (World.drewN_drewN _ _ _) (congrArg (World.drewN _) (Nat.add_assoc _ _ _))⟩))))
         go_ret3
         exact ⟨Z60, Z0⟩
attribute [local go_sem] max2_int min2_int max_two min_two max_three min_three max_four min_four
set_option linter.unusedVariables false
set_option linter.unusedSimpArgs false

/-! ### spec_l07Parse: function 42 -/
mutual
def spec_l07Parse.l0 : Nat → ByteArray → Int → List (S84) → ByteArray → Option ((List (S84)) × ByteArray × Bool)
 | 0, _, _, _, _ => none
 | k + 1, x0, x5, x139000, x139001 => if (wrap64 (x5 + 2)) ≤ (x0.size : Int) then (if 0 ≤ x5 then (if x5 ≤ (wrap64 (x5 + 2)) then (spec_l07Parse.j1 k x0 x5 ((x0.extract (x5 : Int).toNat ((wrap64 (x5 + 2)) : Int).toNat).toList == ([13, 10] : List UInt8)) x139000 x139001) else (none)) else (none)) else (spec_l07Parse.j1 k x0 x5 false x139000 x139001)
def spec_l07Parse.j1 : Nat → ByteArray → Int → Bool → List (S84) → ByteArray → Option ((List (S84)) × ByteArray × Bool)
 | 0, _, _, _, _, _ => none
 | k + 1, x0, x5, x24, x139000, x139001 => if x24 = true then (if 0 ≤ (wrap64 (x5 + 2)) then (if (wrap64 (x5 + 2)) ≤ (x0.size : Int) then (some (x139000, x0.extract ((wrap64 (x5 + 2)) : Int).toNat x0.size, true)) else (none)) else (none)) else (spec_l07Parse.l1 k x0 x5 x5 x139000 x139001)
def spec_l07Parse.j3 : Nat → ByteArray → Int → Int → List (S84) → ByteArray → Option ((List (S84)) × ByteArray × Bool)
 | 0, _, _, _, _, _ => none
 | k + 1, x0, x5, x6, x139000, x139001 => if (wrap64 (x6 + 2)) > (x0.size : Int) then (some (x139000, x139001, false)) else (if 0 ≤ x5 then (if x5 ≤ (wrap64 (x6 + 2)) then (if (wrap64 (x6 + 2)) ≤ (x0.size : Int) then ((spec_l03Unfold.f k (x0.extract (x5 : Int).toNat ((wrap64 (x6 + 2)) : Int).toNat)).bind fun bt139 => (if bt139.2.2 = true then (if (x139000.length : Int) = 40 then (some (x139000, x139001, false)) else (if x139000.length < 4398046511104 then (spec_l07Parse.l0 k x0 (wrap64 (x6 + 2)) (x139000 ++ [(⟨bt139.1, bt139.2.1⟩ : S84)]) x139001) else (none))) else (some (x139000, x139001, false)))) else (none)) else (none)) else (none))
def spec_l07Parse.l1 : Nat → ByteArray → Int → Int → List (S84) → ByteArray → Option ((List (S84)) × ByteArray × Bool)
 | 0, _, _, _, _, _ => none
 | k + 1, x0, x5, x6, x139000, x139001 => if (wrap64 (x6 + 1)) < (x0.size : Int) then (if 0 ≤ x6 then (if x6 ≤ (wrap64 (x6 + 2)) then (if (wrap64 (x6 + 2)) ≤ (x0.size : Int) then (if (x0.extract (x6 : Int).toNat ((wrap64 (x6 + 2)) : Int).toNat).toList = ([13, 10] : List UInt8) then (if (wrap64 (x6 + 2)) = (x0.size : Int) then (spec_l07Parse.j3 k x0 x5 x6 x139000 x139001) else (if 0 ≤ (wrap64 (x6 + 2)) then (if (wrap64 (x6 + 2)) < (x0.size : Int) then (if (¬ (bt x0 (wrap64 (x6 + 2))) = 32) then (spec_l07Parse.j3 k x0 x5 x6 x139000 x139001) else (spec_l07Parse.l1 k x0 x5 (wrap64 (x6 + 1)) x139000 x139001)) else (none)) else (none))) else (spec_l07Parse.l1 k x0 x5 (wrap64 (x6 + 1)) x139000 x139001)) else (none)) else (none)) else (none)) else (spec_l07Parse.j3 k x0 x5 x6 x139000 x139001)
end
def spec_l07Parse.f (k : Nat) (a0 : ByteArray) : Option ((List (S84)) × ByteArray × Bool) := spec_l07Parse.l0 k a0 0 (([] : List (S84))) (⟨#[]⟩ : ByteArray)
theorem spec_l07Parse.mono_l : ∀ k, (∀ y0 y1 y2 y3, LeO (spec_l07Parse.l0 k y0 y1 y2 y3) (spec_l07Parse.l0 (k + 1) y0 y1 y2 y3)) ∧ (∀ y0 y1 y2 y3 y4, LeO (spec_l07Parse.j1 k y0 y1 y2 y3 y4) (spec_l07Parse.j1 (k + 1) y0 y1 y2 y3 y4)) ∧ (∀ y0 y1 y2 y3 y4, LeO (spec_l07Parse.j3 k y0 y1 y2 y3 y4) (spec_l07Parse.j3 (k + 1) y0 y1 y2 y3 y4)) ∧ (∀ y0 y1 y2 y3 y4, LeO (spec_l07Parse.l1 k y0 y1 y2 y3 y4) (spec_l07Parse.l1 (k + 1) y0 y1 y2 y3 y4))
 | 0 => ⟨fun _ _ _ _ r h => by simp [spec_l07Parse.l0] at h, fun _ _ _ _ _ r h => by simp [spec_l07Parse.j1] at h, fun _ _ _ _ _ r h => by simp [spec_l07Parse.j3] at h, fun _ _ _ _ _ r h => by simp [spec_l07Parse.l1] at h⟩
 | k + 1 => by
  obtain ⟨ih0, ih1, ih2, ih3⟩ := spec_l07Parse.mono_l k
  refine ⟨?_, ?_, ?_, ?_⟩
  ·intro y0 y1 y2 y3
   unfold spec_l07Parse.l0
   have m0 := @spec_l03Unfold.mono
   exact tM
  ·intro y0 y1 y2 y3 y4
   unfold spec_l07Parse.j1
   have m0 := @spec_l03Unfold.mono
   exact tM
  ·intro y0 y1 y2 y3 y4
   unfold spec_l07Parse.j3
   have m0 := @spec_l03Unfold.mono
   exact tM
  ·intro y0 y1 y2 y3 y4
   unfold spec_l07Parse.l1
   have m0 := @spec_l03Unfold.mono
   exact tM
theorem spec_l07Parse.mono : ∀ a0 k, LeO (spec_l07Parse.f k a0) (spec_l07Parse.f (k + 1) a0) := by
 intro a0 k
 obtain ⟨ih0, ih1, ih2, ih3⟩ := spec_l07Parse.mono_l k
 unfold spec_l07Parse.f
 have m0 := @spec_l03Unfold.mono
 exact tM
set_option maxHeartbeats 40000000 in
set_option maxRecDepth 100000 in
theorem spec_l07Parse.calls (k : Nat) (a0 : ByteArray) (r1 : List (S84)) (r2 : ByteArray) (r3 : Bool) (w : World) (h : spec_l07Parse.f k a0 = some (r1, r2, r3)) :
  Calls Tryz.prog 42 #[.string a0] w fun e w' => ∃ v0_ : Value, e = .returned (.tuple #[.agg #[v0_, .string r2], .bool r3]) ∧ Kd.R k84 84 w' w.heap.size (fun _ => True) v0_ r1 ∧ Below w.heap.size w w' := by
 have hu60 := Tryz.underlying60
 have hu84 := Tryz.underlying84
 have HB := Aside0.mk (Below.refl w.heap.size w)
 have H : (spec_l07Parse.l0 k a0 0 (([] : List (S84))) (⟨#[]⟩ : ByteArray)) = some (r1, r2, r3) := h
 clear h
 obtain ⟨y135, hy135⟩ : ∃ y_ : List (S84), y_ = (([] : List (S84))) := ⟨_, rfl⟩
 replace H : (spec_l07Parse.l0 k a0 0 y135 (⟨#[]⟩ : ByteArray)) = some (r1, r2, r3) := by first | (rw [hy135]; with_reducible exact H) | (have H2_ := (Option.bind_some _ _).symm.trans H; rw [hy135]; with_reducible exact H2_) | (have H2_ := (Option.bind_some _ _).symm.trans H; with_reducible exact H2_) | with_reducible exact H | (rw [hy135]; exact H) | exact H
 have Ny135 := Aside0.mk hy135
 clear hy135
 have H' := Aside0.mk H
 clear H
 go_enter Tryz.func42, Tryz.ntmps42
 go_wp2_with (first | ((with_reducible refine gate_dst (N := 2) rfl ?_); (try (refine gate_guard (by rfl) ?_; dsimp only)); refine bxE 2 #[.slice none 0 0, .string (⟨#[]⟩ : ByteArray)] 60 ?_; intro gb134 hg w2 hbox hb; have BK134 := Aside0.mk (hbox); have GW134 := Aside0.mk ((szE w hg (Z0))); have GE134 := Aside0.mk ((szE w hg (Z0))); replace HB := Aside0.mk (below_step (Z0) hb); clear hb hbox hg) | ((with_reducible refine gate_dst (N := 10) rfl ?_); (try (refine gate_guard (by rfl) ?_; dsimp only)); refine Kd.R_lit k84 _ 84 ?hg (N := 10) ?hd (xs := ([] : List (S84))) (inner := []) (ok := fun _ => True) (okp := fun _ => True) ?hr ?hp (fun _ hk => hk) trivial (Below.refl _ _) (Nat.le_refl _) (by simp) ?_; (case hd => rfl); (case hg => rfl); (case hr => first | (go_simp; done) | (go_simp; rfl)); (case hp => exact (Reps.none _ _)); intro v136 w3 ho4 hb hg_ hnew_; clear hg_ hnew_; (first | rw [← Ny135.out] at ho4 | (simp only [Int.reduceToNat] at ho4; rw [← Ny135.out] at ho4)); have HO137 := Aside0.mk (Kd.R_lower ho4 (below_size (Z41))); replace BK134 := Aside0.mk (kB BK134 (Z24) hb); replace HB := Aside0.mk (below_step (Z41) hb); clear hb ho4; obtain ⟨Ao5, co5, eo5⟩ := Kd.R_slice HO137.out; subst eo5) | ((with_reducible refine gate_dst (N := 4) rfl ?_); (try (refine gate_guard (by rfl) ?_; dsimp only)); refine bxE 4 #[.slice none 0 0, .string (⟨#[]⟩ : ByteArray)] 60 ?_; intro gb138 hg w6 hbox hb; replace HO137 := Aside0.mk (Kd.R_below (by (with_reducible repeat (first | apply Kd.R_alloc | apply Kd.R_drewN | apply Kd.R_drew)); exact HO137.out) hb); have BK138 := Aside0.mk (hbox); have GW138 := Aside0.mk ((szE w hg (Z41))); have GE138 := Aside0.mk ((szE w hg (Z41))); replace HB := Aside0.mk (below_step (Z41) hb); have NB134_138 := Aside0.mk ((nL BK134 hg (Z24))); have NB138_134 := Aside0.mk ((nG BK134 hg (Z24))); replace BK134 := Aside0.mk (kB BK134 (Z24) hb); clear hb hbox hg; have hnb7 := NB138_134.out; have hnc7 := NB134_138.out; obtain ⟨hcz8_0, hcz8_1⟩ := bc2 BK138.out; obtain ⟨hfz8_0, hfz8_1⟩ := bf2 BK138.out))
 go_loopg [5] k (fun kq v5 w' => ∃ (x5_1 : Int) (x135001_1 : ByteArray) (x139000_1 : List (S84)) (x139001_1 : ByteArray) (u139000 : Value), v5 = .int .i64 x5_1 ∧ Aside0 (spec_l07Parse.l0 kq a0 x5_1 x139000_1 x139001_1 = some (r1, r2, r3)) ∧ Aside0 (kq ≤ k) ∧ Aside0 (Kd.R k84 84 w' w.heap.size (fun _ => True) u139000 x139000_1) ∧ Aside0 (w'.heap[gb134]? = some (.cells #[(.slice none 0 0), .string x135001_1] 60 (0, 0))) ∧ Aside0 (w'.heap[gb138]? = some (.cells #[u139000, .string x139001_1] 60 (0, 0))) ∧ Aside0 (Below w.heap.size w w'))
 case atStart => exact ⟨(0), ((⟨#[]⟩ : ByteArray)), (y135), ((⟨#[]⟩ : ByteArray)), (.slice Ao5 y135.length co5), (Z2), H', ⟨Nat.le_refl _⟩, ⟨by (with_reducible repeat (first | apply Kd.R_alloc | apply Kd.R_drewN | apply Kd.R_drew)); exact Kd.R_mono (Kd.R_far (p := ⟨gb138, 1, none⟩) (Kd.R_far (p := ⟨gb138, 0, none⟩) (Kd.R_types HO137.out BK138.out (Z63)) (fun _ hk => hk.2) (.slice Ao5 y135.length co5)) (fun _ hk => hk.2) (.string (⟨#[]⟩ : ByteArray))) (fun _ hk => trivial)⟩, ⟨by (with_reducible repeat (first | refine blk_drewN ?_ _ | refine blk_drew ?_ | refine blk_alloc ?_ _)); refine blk_far ?_ NB134_138.out _; (with_reducible repeat (first | refine blk_drewN ?_ _ | refine blk_drew ?_ | refine blk_alloc ?_ _)); refine blk_far ?_ NB134_138.out _; (with_reducible repeat (first | refine blk_drewN ?_ _ | refine blk_drew ?_ | refine blk_alloc ?_ _)); exact BK134.out⟩, ⟨by (with_reducible repeat (first | refine blk_drewN ?_ _ | refine blk_drew ?_ | refine blk_alloc ?_ _)); refine blk_put (cs := #[.slice Ao5 y135.length co5, .string (⟨#[]⟩ : ByteArray)]) ?_ 1 _ rfl; (with_reducible repeat (first | refine blk_drewN ?_ _ | refine blk_drew ?_ | refine blk_alloc ?_ _)); refine blk_put (cs := #[.slice none 0 0, .string (⟨#[]⟩ : ByteArray)]) ?_ 0 _ rfl; (with_reducible repeat (first | refine blk_drewN ?_ _ | refine blk_drew ?_ | refine blk_alloc ?_ _)); exact BK138.out⟩, ⟨Z16⟩⟩
 case round =>
  clear H'
  (try clear hcz8_0); (try clear hcz8_1); (try clear hfz8_0); (try clear hfz8_1)
  obtain ⟨x5_1, x135001_1, x139000_1, x139001_1, u139000, rfl, HA, HK1, HO_139000, BK134, BK138, HB⟩ := hrel
  cases gk with
  | zero => exact absurd HA.out (by simp [spec_l07Parse.l0])
  | succ k1 =>
   have H := HA.out
   clear HA
   simp only [spec_l07Parse.l0] at H
   have HC9 := Aside0.mk H
   clear H
   go_upto_region 3 with (fail)
   go_cut [24] (fun v24 wc => ∃ (kq : Nat) (x24_8 : Bool), v24 = .bool x24_8 ∧ Aside0 (spec_l07Parse.j1 kq a0 x5_1 x24_8 x139000_1 x139001_1 = some (r1, r2, r3)) ∧ Aside0 (kq ≤ k1) ∧ Aside0 (Kd.R k84 84 wc w.heap.size (fun _ => True) u139000 x139000_1) ∧ Aside0 (wc.heap[gb134]? = some (.cells #[(.slice none 0 0), .string x135001_1] 60 (0, 0))) ∧ Aside0 (wc.heap[gb138]? = some (.cells #[u139000, .string x139001_1] 60 (0, 0))) ∧ Aside0 (Below w.heap.size w wc))
   case first =>
    have H := HC9.out
    clear HC9
    by_cases c10 : (wrap64 (x5_1 + 2)) ≤ (a0.size : Int)
    ·rw [if_pos c10] at H
     have c10b0 := decide_eq_true c10
     clear c10
     (first | rw [c10b0] | rw [c10b1] | (simp only [i64_w, i32_w]; rw [c10b0]) | skip)
     obtain ⟨c11, H⟩ := ifS H
     have c11b0 := eq_true c11
     have c11b1 : decide (0 ≤ x5_1) = true := decide_eq_true c11
     clear c11
     obtain ⟨c12, H⟩ := ifS H
     have c12b0 := eq_true c12
     have c12b1 : decide (x5_1 ≤ (wrap64 (x5_1 + 2))) = true := decide_eq_true c12
     have c13b0 := eq_true (of_decide_eq_true (Z4) : (wrap64 (x5_1 + 2)) ≤ (a0.size : Int))
     have H' := Aside0.mk H
     clear H
     go_wp2
     go_meet
     case rel => exact ⟨_, (((a0.extract (x5_1 : Int).toNat ((wrap64 (x5_1 + 2)) : Int).toNat).toList == ([13, 10] : List UInt8))), (Z2), H', ⟨Z47⟩, ⟨Z34⟩, ⟨Z24⟩, ⟨Z31⟩, ⟨Z16⟩⟩
    ·rw [if_neg c10] at H
     have c10b0 := decide_eq_false c10
     clear c10
     (first | rw [c10b0] | rw [c10b1] | (simp only [i64_w, i32_w]; rw [c10b0]) | skip)
     have H' := Aside0.mk H
     clear H
     go_wp2
     go_meet
     case rel => exact ⟨_, (false), (Z2), H', ⟨Z47⟩, ⟨Z34⟩, ⟨Z24⟩, ⟨Z31⟩, ⟨Z16⟩⟩
   case rest =>
    clear HC9
    (try clear hcz8_0); (try clear hcz8_1); (try clear hfz8_0); (try clear hfz8_1)
    obtain ⟨kq, x24_8, rfl, HA, HJ8, HO_139000, BK134, BK138, HB⟩ := hcut
    cases kq with
    | zero => exact absurd HA.out (by simp [spec_l07Parse.j1])
    | succ kj8 =>
     have H := HA.out
     clear HA
     simp only [spec_l07Parse.j1] at H
     by_cases c14 : x24_8 = true
     ·subst c14
      replace H := ifT H
      obtain ⟨ji15, hji15⟩ : ∃ j_ : Int, (wrap64 (x5_1 + 2)) = j_ := ⟨_, rfl⟩
      replace H : (if 0 ≤ (ji15) then (if (ji15) ≤ (a0.size : Int) then (some (x139000_1, a0.extract ((ji15) : Int).toNat a0.size, true)) else (none)) else (none)) = some (r1, r2, r3) := by first | (rw [hji15] at H; exact H) | (simp only [hji15] at H ⊢; exact H)
      have hji15w : (IntKind.i64.wrap (x5_1 + 2)) = ji15 := (i64_w _).trans hji15
      obtain ⟨c16, H⟩ := ifS H
      have c16b0 := eq_true c16
      have c16b1 : decide (0 ≤ (ji15)) = true := decide_eq_true c16
      clear c16
      obtain ⟨c17, H⟩ := ifS H
      have c17b0 := eq_true c17
      have c17b1 : decide ((ji15) ≤ (a0.size : Int)) = true := decide_eq_true c17
      clear c17
      simp only [Option.some.injEq, Prod.mk.injEq] at H
      obtain ⟨rfl, rfl, rfl⟩ := H
      have hnb18 := NB138_134.out
      have hnc18 := NB134_138.out
      obtain ⟨hcz19_0, hcz19_1⟩ := bc2 BK138.out
      obtain ⟨hfz19_0, hfz19_1⟩ := bf2 BK138.out
      obtain ⟨Ao20, co20, eo20⟩ := Kd.R_slice HO_139000.out
      subst eo20
      obtain ⟨hcz21_0, hcz21_1⟩ := bc2 BK134.out
      obtain ⟨hfz21_0, hfz21_1⟩ := bf2 BK134.out
      go_wp2
      refine bodyPost_ret (results_ct rfl _ _ gb134 60 #[.slice Ao20 x139000_1.length co20, .string (a0.extract ((ji15) : Int).toNat a0.size)] (0, 0) _ rfl (by (with_reducible repeat (first | refine blk_drewN ?_ _ | refine blk_drew ?_ | refine blk_alloc ?_ _)); refine blk_put (cs := #[.slice Ao20 x139000_1.length co20, .string x135001_1]) ?_ 1 _ rfl; (with_reducible repeat (first | refine blk_drewN ?_ _ | refine blk_drew ?_ | refine blk_alloc ?_ _)); refine blk_put (cs := #[.slice none 0 0, .string x135001_1]) ?_ 0 _ rfl; (with_reducible repeat (first | refine blk_drewN ?_ _ | refine blk_drew ?_ | refine blk_alloc ?_ _)); refine blk_far ?_ NB134_138.out _; (with_reducible repeat (first | refine blk_drewN ?_ _ | refine blk_drew ?_ | refine blk_alloc ?_ _)); exact BK134.out) Tryz.underlying60 rfl (Z20)) rfl ?_
      exact ⟨_, by first | rfl | (simp only [nil_beq, nil_bne]; rfl) | (simp [nil_beq, nil_bne]; done) | (simp [errW_none, errW_some] <;> rfl) | (simp only [← hji15]; first | rfl | (simp [errW_none, errW_some] <;> rfl)) | (simp [*, errW_none, errW_some] <;> rfl), by (with_reducible repeat (first | apply Kd.R_alloc | apply Kd.R_drewN | apply Kd.R_drew)); exact Kd.R_mono (Kd.R_far (p := ⟨gb134, 1, none⟩) (Kd.R_far (p := ⟨gb134, 0, none⟩) (Kd.R_far (p := ⟨gb138, 1, none⟩) (Kd.R_types (Kd.R_types HO_139000.out BK138.out (Z63)) BK134.out (Z63)) (fun _ hk => hk.1.2) (.string (a0.extract ((ji15) : Int).toNat a0.size))) (fun _ hk => hk.2) (.slice Ao20 x139000_1.length co20)) (fun _ hk => hk.2) (.string (a0.extract ((ji15) : Int).toNat a0.size))) (fun _ hk => trivial), Z16⟩
     ·replace c14 := Bool.eq_false_iff.mpr c14
      subst c14
      replace H := ifF H
      have HC22 := Aside0.mk H
      clear H
      go_upto_block 2 with (fail)
      go_cut [6] (fun v6 wc => ∃ (kq : Nat) (x6_21 : Int), v6 = .int .i64 x6_21 ∧ Aside0 (spec_l07Parse.j3 kq a0 x5_1 x6_21 x139000_1 x139001_1 = some (r1, r2, r3)) ∧ Aside0 (kq ≤ kj8) ∧ Aside0 (Kd.R k84 84 wc w.heap.size (fun _ => True) u139000 x139000_1) ∧ Aside0 (wc.heap[gb134]? = some (.cells #[(.slice none 0 0), .string x135001_1] 60 (0, 0))) ∧ Aside0 (wc.heap[gb138]? = some (.cells #[u139000, .string x139001_1] 60 (0, 0))) ∧ Aside0 (Below w.heap.size w wc))
      case first =>
       have H := HC22.out
       clear HC22
       have H' := Aside0.mk H
       clear H
       go_wp2
       go_loopg [6] kj8 (fun kq v6 w' => ∃ (x6_3 : Int), v6 = .int .i64 x6_3 ∧ Aside0 (spec_l07Parse.l1 kq a0 x5_1 x6_3 x139000_1 x139001_1 = some (r1, r2, r3)) ∧ Aside0 (kq ≤ kj8) ∧ Aside0 (Kd.R k84 84 w' w.heap.size (fun _ => True) u139000 x139000_1) ∧ Aside0 (w'.heap[gb134]? = some (.cells #[(.slice none 0 0), .string x135001_1] 60 (0, 0))) ∧ Aside0 (w'.heap[gb138]? = some (.cells #[u139000, .string x139001_1] 60 (0, 0))) ∧ Aside0 (Below w.heap.size w w'))
       case atStart => exact ⟨(x5_1), (Z2), H', ⟨Nat.le_refl _⟩, ⟨Z34⟩, ⟨Z24⟩, ⟨Z31⟩, ⟨Z16⟩⟩
       case round =>
        clear H'
        (try clear c14); (try clear hcz8_0); (try clear hcz8_1); (try clear hfz8_0); (try clear hfz8_1)
        obtain ⟨x6_3, rfl, HA, HK3, HO_139000, BK134, BK138, HB⟩ := hrel
        cases gk with
        | zero => exact absurd HA.out (by simp [spec_l07Parse.l1])
        | succ k3 =>
         have H := HA.out
         clear HA
         simp only [spec_l07Parse.l1] at H
         by_cases c23 : (wrap64 (x6_3 + 1)) < (a0.size : Int)
         ·rw [if_pos c23] at H
          have c23b0 := decide_eq_true c23
          clear c23
          (first | rw [c23b0] | rw [c23b1] | (simp only [i64_w, i32_w]; rw [c23b0]) | skip)
          obtain ⟨c24, H⟩ := ifS H
          have c24b0 := eq_true c24
          have c24b1 : decide (0 ≤ x6_3) = true := decide_eq_true c24
          clear c24
          obtain ⟨c25, H⟩ := ifS H
          have c25b0 := eq_true c25
          have c25b1 : decide (x6_3 ≤ (wrap64 (x6_3 + 2))) = true := decide_eq_true c25
          obtain ⟨c26, H⟩ := ifS H
          have c26b0 := eq_true c26
          have c26b1 : decide ((wrap64 (x6_3 + 2)) ≤ (a0.size : Int)) = true := decide_eq_true c26
          by_cases c27 : (a0.extract (x6_3 : Int).toNat ((wrap64 (x6_3 + 2)) : Int).toNat).toList = ([13, 10] : List UInt8)
          ·rw [if_pos c27] at H
           have c27b0 := beq_iff_eq.mpr c27
           have c27b1 := bne_eq_false_iff_eq.mpr c27
           clear c27
           by_cases c28 : (wrap64 (x6_3 + 2)) = (a0.size : Int)
           ·rw [if_pos c28] at H
            have c28b0 := beq_iff_eq.mpr c28
            have c28b1 := bne_eq_false_iff_eq.mpr c28
            clear c28
            have H' := Aside0.mk H
            clear H
            go_wp2
            go_meet
            case rel => exact ⟨_, (x6_3), (Z2), H', ⟨Z73⟩, ⟨Z34⟩, ⟨Z24⟩, ⟨Z31⟩, ⟨Z16⟩⟩
           ·rw [if_neg c28] at H
            have c28b0 := beq_eq_false_iff_ne.mpr c28
            have c28b1 := bne_iff_ne.mpr c28
            obtain ⟨ji29, hji29⟩ : ∃ j_ : Int, (wrap64 (x6_3 + 2)) = j_ := ⟨_, rfl⟩
            replace H : (if 0 ≤ (ji29) then (if (ji29) < (a0.size : Int) then (if (¬ (bt a0 (ji29)) = 32) then (spec_l07Parse.j3 k3 a0 x5_1 x6_3 x139000_1 x139001_1) else (spec_l07Parse.l1 k3 a0 x5_1 (wrap64 (x6_3 + 1)) x139000_1 x139001_1)) else (none)) else (none)) = some (r1, r2, r3) := by first | (rw [hji29] at H; exact H) | (simp only [hji29] at H ⊢; exact H)
            (try rw [hji29] at c25b0)
            (try rw [hji29] at c25b1)
            (try rw [hji29] at c25)
            (try rw [hji29] at c26b0)
            (try rw [hji29] at c26b1)
            (try rw [hji29] at c26)
            (try rw [hji29] at c27b0)
            (try rw [hji29] at c27b1)
            (try rw [hji29] at c28b0)
            (try rw [hji29] at c28b1)
            have hji29w : (IntKind.i64.wrap (x6_3 + 2)) = ji29 := (i64_w _).trans hji29
            obtain ⟨c30, H⟩ := ifS H
            have c30b0 := decide_eq_true c30
            clear c30
            obtain ⟨c31, H⟩ := ifS H
            have c31b0 := decide_eq_true c31
            clear c31
            by_cases c33 : (¬ (bt a0 (ji29)) = 32)
            ·rw [if_pos c33] at H
             have c33b0 : ((bt a0 (ji29)) == 32) = false := beq_eq_false_iff_ne.mpr c33
             have c33b1 : ((bt a0 (ji29)) != 32) = true := bne_iff_ne.mpr c33
             clear c33
             have H' := Aside0.mk H
             clear H
             have p32 : 0 ≤ ((ji29) : Int) := of_decide_eq_true (Z4)
             have q32 : (ji29) < (a0.size : Int) := of_decide_eq_true (Z4)
             have hx32 := bt_at a0 (ji29)
             replace p32 := eq_true p32
             replace q32 := eq_true q32
             go_wp2
             go_meet
             case rel => exact ⟨_, (x6_3), (Z2), H', ⟨Z73⟩, ⟨Z34⟩, ⟨Z24⟩, ⟨Z31⟩, ⟨Z16⟩⟩
            ·rw [if_neg c33] at H
             have c33b0 : ((bt a0 (ji29)) == 32) = true := beq_iff_eq.mpr (Classical.not_not.mp c33)
             have c33b1 : ((bt a0 (ji29)) != 32) = false := bne_eq_false_iff_eq.mpr (Classical.not_not.mp c33)
             have H' := Aside0.mk H
             clear H
             have p32 : 0 ≤ ((ji29) : Int) := of_decide_eq_true (Z4)
             have q32 : (ji29) < (a0.size : Int) := of_decide_eq_true (Z4)
             have hx32 := bt_at a0 (ji29)
             replace p32 := eq_true p32
             replace q32 := eq_true q32
             go_wp2
             go_roundg k3
             case measure => have := HK1.out; have := HJ8.out; have := HK3.out; omega
             case rel => exact ⟨(wrap64 (x6_3 + 1)), (Z2), H', ⟨by have := HK1.out; have := HJ8.out; have := HK3.out; omega⟩, ⟨Z34⟩, ⟨Z24⟩, ⟨Z31⟩, ⟨Z16⟩⟩
          ·rw [if_neg c27] at H
           have c27b0 := beq_eq_false_iff_ne.mpr c27
           have c27b1 := bne_iff_ne.mpr c27
           have H' := Aside0.mk H
           clear H
           go_wp2
           go_roundg k3
           case measure => have := HK1.out; have := HJ8.out; have := HK3.out; omega
           case rel => exact ⟨(wrap64 (x6_3 + 1)), (Z2), H', ⟨by have := HK1.out; have := HJ8.out; have := HK3.out; omega⟩, ⟨Z34⟩, ⟨Z24⟩, ⟨Z31⟩, ⟨Z16⟩⟩
         ·rw [if_neg c23] at H
          have c23b0 := decide_eq_false c23
          clear c23
          (first | rw [c23b0] | rw [c23b1] | (simp only [i64_w, i32_w]; rw [c23b0]) | skip)
          have H' := Aside0.mk H
          clear H
          go_wp2
          go_meet
          case rel => exact ⟨_, (x6_3), (Z2), H', ⟨Z73⟩, ⟨Z34⟩, ⟨Z24⟩, ⟨Z31⟩, ⟨Z16⟩⟩
      case rest =>
       clear HC22
       (try clear c14); (try clear hcz8_0); (try clear hcz8_1); (try clear hfz8_0); (try clear hfz8_1)
       obtain ⟨kq, x6_21, rfl, HA, HJ21, HO_139000, BK134, BK138, HB⟩ := hcut
       cases kq with
       | zero => exact absurd HA.out (by simp [spec_l07Parse.j3])
       | succ kj21 =>
        have H := HA.out
        clear HA
        simp only [spec_l07Parse.j3] at H
        by_cases c34 : (wrap64 (x6_21 + 2)) > (a0.size : Int)
        ·rw [if_pos c34] at H
         have c34b0 : decide ((a0.size : Int) < (wrap64 (x6_21 + 2))) = true := decide_eq_true c34
         clear c34
         simp only [Option.some.injEq, Prod.mk.injEq] at H
         obtain ⟨rfl, rfl, rfl⟩ := H
         have hnb35 := NB138_134.out
         have hnc35 := NB134_138.out
         obtain ⟨hcz36_0, hcz36_1⟩ := bc2 BK138.out
         obtain ⟨hfz36_0, hfz36_1⟩ := bf2 BK138.out
         obtain ⟨Ao37, co37, eo37⟩ := Kd.R_slice HO_139000.out
         subst eo37
         obtain ⟨hcz38_0, hcz38_1⟩ := bc2 BK134.out
         obtain ⟨hfz38_0, hfz38_1⟩ := bf2 BK134.out
         go_wp2
         refine bodyPost_ret (results_ct rfl _ _ gb134 60 #[.slice Ao37 x139000_1.length co37, .string x139001_1] (0, 0) _ rfl (by (with_reducible repeat (first | refine blk_drewN ?_ _ | refine blk_drew ?_ | refine blk_alloc ?_ _)); refine blk_put (cs := #[.slice Ao37 x139000_1.length co37, .string x135001_1]) ?_ 1 _ rfl; (with_reducible repeat (first | refine blk_drewN ?_ _ | refine blk_drew ?_ | refine blk_alloc ?_ _)); refine blk_put (cs := #[.slice none 0 0, .string x135001_1]) ?_ 0 _ rfl; (with_reducible repeat (first | refine blk_drewN ?_ _ | refine blk_drew ?_ | refine blk_alloc ?_ _)); exact BK134.out) Tryz.underlying60 rfl (Z20)) rfl ?_
         exact ⟨_, Z3, by (with_reducible repeat (first | apply Kd.R_alloc | apply Kd.R_drewN | apply Kd.R_drew)); exact Kd.R_mono (Kd.R_far (p := ⟨gb134, 1, none⟩) (Kd.R_far (p := ⟨gb134, 0, none⟩) (Kd.R_types HO_139000.out BK134.out (Z63)) (fun _ hk => hk.2) (.slice Ao37 x139000_1.length co37)) (fun _ hk => hk.2) (.string x139001_1)) (fun _ hk => trivial), Z16⟩
        ·rw [if_neg c34] at H
         have c34b0 : decide ((a0.size : Int) < (wrap64 (x6_21 + 2))) = false := decide_eq_false c34
         clear c34
         obtain ⟨c39, H⟩ := ifS H
         have c39b0 := eq_true c39
         have c39b1 : decide (0 ≤ x5_1) = true := decide_eq_true c39
         clear c39
         obtain ⟨c40, H⟩ := ifS H
         have c40b0 := eq_true c40
         have c40b1 : decide (x5_1 ≤ (wrap64 (x6_21 + 2))) = true := decide_eq_true c40
         obtain ⟨c41, H⟩ := ifS H
         have c41b0 := eq_true c41
         have c41b1 : decide ((wrap64 (x6_21 + 2)) ≤ (a0.size : Int)) = true := decide_eq_true c41
         obtain ⟨⟨t139, t140, t141⟩, A42, H⟩ := bindA H
         try dsimp only at H
         by_cases c43 : t141 = true
         ·subst c43
          replace H := ifT H
          by_cases c44 : (x139000_1.length : Int) = 40
          ·rw [if_pos c44] at H
           have c44b0 := beq_iff_eq.mpr c44
           have c44b1 := bne_eq_false_iff_eq.mpr c44
           clear c44
           simp only [Option.some.injEq, Prod.mk.injEq] at H
           obtain ⟨rfl, rfl, rfl⟩ := H
           go_wp2_with (first | ((with_reducible refine gate_callee (f := 52) rfl ?_); refine goesL_ (some 74) rfl rfl Tryz.func52 (Z20) rfl #[.string (a0.extract (x5_1 : Int).toNat ((wrap64 (x6_21 + 2)) : Int).toNat)] rfl (Z1) ?_; (with_reducible refine (spec_l03Unfold.calls kj21 (a0.extract (x5_1 : Int).toNat ((wrap64 (x6_21 + 2)) : Int).toNat) t139 t140 true _ A42.out).mono ?_); rintro e w45 ⟨rfl, hb⟩; refine ⟨_, rfl, ?_⟩; replace HO_139000 := Aside0.mk (Kd.R_below (Z34) hb); replace BK134 := Aside0.mk (kB BK134 (Z24) hb); replace BK138 := Aside0.mk (kB BK138 (Z31) hb); replace HB := Aside0.mk (below_step (Z16) hb); (try clear hb); have hnb46 := NB138_134.out; have hnc46 := NB134_138.out; obtain ⟨hcz47_0, hcz47_1⟩ := bc2 BK138.out; obtain ⟨hfz47_0, hfz47_1⟩ := bf2 BK138.out; obtain ⟨Ao48, co48, eo48⟩ := Kd.R_slice HO_139000.out; subst eo48; obtain ⟨hcz49_0, hcz49_1⟩ := bc2 BK134.out; obtain ⟨hfz49_0, hfz49_1⟩ := bf2 BK134.out))
           refine bodyPost_ret (results_ct rfl _ _ gb134 60 #[.slice Ao48 x139000_1.length co48, .string x139001_1] (0, 0) _ rfl (by (with_reducible repeat (first | refine blk_drewN ?_ _ | refine blk_drew ?_ | refine blk_alloc ?_ _)); refine blk_put (cs := #[.slice Ao48 x139000_1.length co48, .string x135001_1]) ?_ 1 _ rfl; (with_reducible repeat (first | refine blk_drewN ?_ _ | refine blk_drew ?_ | refine blk_alloc ?_ _)); refine blk_put (cs := #[.slice none 0 0, .string x135001_1]) ?_ 0 _ rfl; (with_reducible repeat (first | refine blk_drewN ?_ _ | refine blk_drew ?_ | refine blk_alloc ?_ _)); exact BK134.out) Tryz.underlying60 rfl (Z20)) rfl ?_
           exact ⟨_, Z3, by (with_reducible repeat (first | apply Kd.R_alloc | apply Kd.R_drewN | apply Kd.R_drew)); exact Kd.R_mono (Kd.R_far (p := ⟨gb134, 1, none⟩) (Kd.R_far (p := ⟨gb134, 0, none⟩) (Kd.R_types HO_139000.out BK134.out (Z63)) (fun _ hk => hk.2) (.slice Ao48 x139000_1.length co48)) (fun _ hk => hk.2) (.string x139001_1)) (fun _ hk => trivial), Z16⟩
          ·rw [if_neg c44] at H
           have c44b0 := beq_eq_false_iff_ne.mpr c44
           have c44b1 := bne_iff_ne.mpr c44
           obtain ⟨c50, H⟩ := ifS H
           have LMc50 := Aside0.mk c50
           clear c50
           obtain ⟨y142, hy142⟩ : ∃ y_ : List (S84), y_ = (x139000_1 ++ [(⟨t139, t140⟩ : S84)]) := ⟨_, rfl⟩
           replace H : (spec_l07Parse.l0 kj21 a0 (wrap64 (x6_21 + 2)) y142 x139001_1) = some (r1, r2, r3) := by first | (rw [hy142]; with_reducible exact H) | (have H2_ := (Option.bind_some _ _).symm.trans H; rw [hy142]; with_reducible exact H2_) | (have H2_ := (Option.bind_some _ _).symm.trans H; with_reducible exact H2_) | with_reducible exact H | (rw [hy142]; exact H) | exact H
           have Ny142 := Aside0.mk hy142
           clear hy142
           have H' := Aside0.mk H
           clear H
           go_wp2_with (first | ((with_reducible refine gate_callee (f := 52) rfl ?_); refine goesL_ (some 74) rfl rfl Tryz.func52 (Z20) rfl #[.string (a0.extract (x5_1 : Int).toNat ((wrap64 (x6_21 + 2)) : Int).toNat)] rfl (Z1) ?_; (with_reducible refine (spec_l03Unfold.calls kj21 (a0.extract (x5_1 : Int).toNat ((wrap64 (x6_21 + 2)) : Int).toNat) t139 t140 true _ A42.out).mono ?_); rintro e w51 ⟨rfl, hb⟩; refine ⟨_, rfl, ?_⟩; replace HO_139000 := Aside0.mk (Kd.R_below (Z34) hb); replace BK134 := Aside0.mk (kB BK134 (Z24) hb); replace BK138 := Aside0.mk (kB BK138 (Z31) hb); replace HB := Aside0.mk (below_step (Z16) hb); (try clear hb); have hnb52 := NB138_134.out; have hnc52 := NB134_138.out; obtain ⟨hcz53_0, hcz53_1⟩ := bc2 BK138.out; obtain ⟨hfz53_0, hfz53_1⟩ := bf2 BK138.out; obtain ⟨Ao54, co54, eo54⟩ := Kd.R_slice HO_139000.out; subst eo54) | ((with_reducible refine gate_builtin (b := .append) (xs := #[.tmp 88, .tmp 92]) rfl ?_); (try (refine gate_guard (by rfl) ?_; dsimp only)); at_builtin; refine Kd.R_append k84 (w0 := w) w.heap.size rfl (.tmp 88) (.tmp 92) 58 84 (.agg #[(.string ⟨#[]⟩), (.string ⟨#[]⟩)]) 32 rfl Tryz.underlying58 info84 rfl (Z63) (Z46) (.slice Ao54 x139000_1.length co54) x139000_1 (⟨t139, t140⟩ : S84) [.string t139, .string t140] (fun _ => True) (fun _ => False) rfl rfl ?aP (fun _ hk => hk.elim) ?aF ?aO ?aB ?aS ?aL ?_; (case aP => exact k84_mkM _ _ _ (⟨t139, t140⟩ : S84)); (case aB => exact (Z16)); (case aF => exact (fun _ _ => trivial)); (case aO => exact (Z34)); (case aS => exact (below_size (Z16))); (case aL => have := LMc50.out; omega); intro v143 w55 ho hb hg hat; rw [← Ny142.out] at ho; have n0_ := Aside0.mk (blk_grown (g := gb134) (o := .cells #[.slice none 0 0, .string x135001_1] 60 (0, 0)) (Z24) hg (Kd.R_ne HO_139000.out BK134.out (Z63))); have n1_ := Aside0.mk (blk_grown (g := gb138) (o := .cells #[.slice Ao54 x139000_1.length co54, .string x139001_1] 60 (0, 0)) (Z31) hg (Kd.R_ne HO_139000.out BK138.out (Z63))); have n2_ := Aside0.mk (hb); have n3_ := Aside0.mk (ho); clear BK134; clear BK138; clear HB; clear HO_139000; have BK134 := n0_; have BK138 := n1_; have HB := n2_; have HO144 := n3_; clear n0_ n1_ n2_ n3_; clear ho hb hg hat; obtain ⟨Ao56, co56, eo56⟩ := Kd.R_slice HO144.out; subst eo56; obtain ⟨hcz57_0, hcz57_1⟩ := bc2 BK138.out; obtain ⟨hfz57_0, hfz57_1⟩ := bf2 BK138.out))
           go_roundg kj21
           case measure => have := HK1.out; have := HJ8.out; have := HJ21.out; omega
           case rel => exact ⟨(wrap64 (x6_21 + 2)), (x135001_1), (y142), (x139001_1), (.slice Ao56 y142.length co56), (Z2), H', ⟨by have := HK1.out; have := HJ8.out; have := HJ21.out; omega⟩, ⟨by (with_reducible repeat (first | apply Kd.R_alloc | apply Kd.R_drewN | apply Kd.R_drew)); exact Kd.R_mono (Kd.R_far (p := ⟨gb138, 0, none⟩) (Kd.R_types HO144.out BK138.out (Z63)) (fun _ hk => hk.2) (.slice Ao56 y142.length co56)) (fun _ hk => trivial)⟩, ⟨by (with_reducible repeat (first | refine blk_drewN ?_ _ | refine blk_drew ?_ | refine blk_alloc ?_ _)); refine blk_far ?_ NB134_138.out _; (with_reducible repeat (first | refine blk_drewN ?_ _ | refine blk_drew ?_ | refine blk_alloc ?_ _)); exact BK134.out⟩, ⟨by (with_reducible repeat (first | refine blk_drewN ?_ _ | refine blk_drew ?_ | refine blk_alloc ?_ _)); refine blk_put (cs := #[.slice Ao54 x139000_1.length co54, .string x139001_1]) ?_ 0 _ rfl; (with_reducible repeat (first | refine blk_drewN ?_ _ | refine blk_drew ?_ | refine blk_alloc ?_ _)); exact BK138.out⟩, ⟨Z16⟩⟩
         ·replace c43 := Bool.eq_false_iff.mpr c43
          subst c43
          replace H := ifF H
          simp only [Option.some.injEq, Prod.mk.injEq] at H
          obtain ⟨rfl, rfl, rfl⟩ := H
          go_wp2_with (first | ((with_reducible refine gate_callee (f := 52) rfl ?_); refine goesL_ (some 74) rfl rfl Tryz.func52 (Z20) rfl #[.string (a0.extract (x5_1 : Int).toNat ((wrap64 (x6_21 + 2)) : Int).toNat)] rfl (Z1) ?_; (with_reducible refine (spec_l03Unfold.calls kj21 (a0.extract (x5_1 : Int).toNat ((wrap64 (x6_21 + 2)) : Int).toNat) t139 t140 false _ A42.out).mono ?_); rintro e w58 ⟨rfl, hb⟩; refine ⟨_, rfl, ?_⟩; replace HO_139000 := Aside0.mk (Kd.R_below (Z34) hb); replace BK134 := Aside0.mk (kB BK134 (Z24) hb); replace BK138 := Aside0.mk (kB BK138 (Z31) hb); replace HB := Aside0.mk (below_step (Z16) hb); (try clear hb); have hnb59 := NB138_134.out; have hnc59 := NB134_138.out; obtain ⟨hcz60_0, hcz60_1⟩ := bc2 BK138.out; obtain ⟨hfz60_0, hfz60_1⟩ := bf2 BK138.out; obtain ⟨Ao61, co61, eo61⟩ := Kd.R_slice HO_139000.out; subst eo61; obtain ⟨hcz62_0, hcz62_1⟩ := bc2 BK134.out; obtain ⟨hfz62_0, hfz62_1⟩ := bf2 BK134.out))
          refine bodyPost_ret (results_ct rfl _ _ gb134 60 #[.slice Ao61 x139000_1.length co61, .string x139001_1] (0, 0) _ rfl (by (with_reducible repeat (first | refine blk_drewN ?_ _ | refine blk_drew ?_ | refine blk_alloc ?_ _)); refine blk_put (cs := #[.slice Ao61 x139000_1.length co61, .string x135001_1]) ?_ 1 _ rfl; (with_reducible repeat (first | refine blk_drewN ?_ _ | refine blk_drew ?_ | refine blk_alloc ?_ _)); refine blk_put (cs := #[.slice none 0 0, .string x135001_1]) ?_ 0 _ rfl; (with_reducible repeat (first | refine blk_drewN ?_ _ | refine blk_drew ?_ | refine blk_alloc ?_ _)); exact BK134.out) Tryz.underlying60 rfl (Z20)) rfl ?_
          exact ⟨_, Z3, by (with_reducible repeat (first | apply Kd.R_alloc | apply Kd.R_drewN | apply Kd.R_drew)); exact Kd.R_mono (Kd.R_far (p := ⟨gb134, 1, none⟩) (Kd.R_far (p := ⟨gb134, 0, none⟩) (Kd.R_types HO_139000.out BK134.out (Z63)) (fun _ hk => hk.2) (.slice Ao61 x139000_1.length co61)) (fun _ hk => hk.2) (.string x139001_1)) (fun _ hk => trivial), Z16⟩
attribute [local go_sem] max2_int min2_int max_two min_two max_three min_three max_four min_four
set_option linter.unusedVariables false
set_option linter.unusedSimpArgs false

/-! ### spec_MailOK: function 43 -/
mutual
def spec_MailOK.l0 : Nat → ByteArray → Int → Int → Option (Bool)
 | 0, _, _, _ => none
 | k + 1, x0, x3, x4 => if x4 < (x0.size : Int) then (if 0 ≤ x4 then (if (bt x0 x4) = 13 then (if (wrap64 (x4 + 1)) < (x0.size : Int) then (if 0 ≤ (wrap64 (x4 + 1)) then (spec_MailOK.j1 k x0 x3 x4 (bt x0 x4) ((bt x0 (wrap64 (x4 + 1))) == 10)) else (none)) else (spec_MailOK.j1 k x0 x3 x4 (bt x0 x4) false)) else (spec_MailOK.j1 k x0 x3 x4 (bt x0 x4) false)) else (none)) else (some (x3 == 0))
def spec_MailOK.j1 : Nat → ByteArray → Int → Int → Int → Bool → Option (Bool)
 | 0, _, _, _, _, _ => none
 | k + 1, x0, x3, x4, x5, x33 => if x33 = true then (spec_MailOK.l0 k x0 0 (wrap64 ((wrap64 (x4 + 1)) + 1))) else (if x5 = 13 then (some false) else (if x5 = 10 then (some false) else (if x5 = 0 then (some false) else (if x5 > 127 then (some false) else (if (wrap64 (x3 + 1)) > 998 then (some false) else (spec_MailOK.l0 k x0 (wrap64 (x3 + 1)) (wrap64 (x4 + 1))))))))
end
def spec_MailOK.f (k : Nat) (a0 : ByteArray) : Option (Bool) := if (a0.size : Int) > 65536 then (some false) else (spec_MailOK.l0 k a0 0 0)
theorem spec_MailOK.mono_l : ∀ k, (∀ y0 y1 y2, LeO (spec_MailOK.l0 k y0 y1 y2) (spec_MailOK.l0 (k + 1) y0 y1 y2)) ∧ (∀ y0 y1 y2 y3 y4, LeO (spec_MailOK.j1 k y0 y1 y2 y3 y4) (spec_MailOK.j1 (k + 1) y0 y1 y2 y3 y4))
 | 0 => ⟨fun _ _ _ r h => by simp [spec_MailOK.l0] at h, fun _ _ _ _ _ r h => by simp [spec_MailOK.j1] at h⟩
 | k + 1 => by
  obtain ⟨ih0, ih1⟩ := spec_MailOK.mono_l k
  refine ⟨?_, ?_⟩
  ·intro y0 y1 y2
   unfold spec_MailOK.l0
   exact tM
  ·intro y0 y1 y2 y3 y4
   unfold spec_MailOK.j1
   exact tM
theorem spec_MailOK.mono : ∀ a0 k, LeO (spec_MailOK.f k a0) (spec_MailOK.f (k + 1) a0) := by
 intro a0 k
 obtain ⟨ih0, ih1⟩ := spec_MailOK.mono_l k
 unfold spec_MailOK.f
 exact tM
set_option maxHeartbeats 40000000 in
set_option maxRecDepth 100000 in
theorem spec_MailOK.calls (k : Nat) (a0 : ByteArray) (r : Bool) (w : World) (h : spec_MailOK.f k a0 = some r) :
  Calls Tryz.prog 43 #[.string a0] w fun e w' => e = .returned (.bool r) ∧ Drawn0 w w' := by
 have H : (if (a0.size : Int) > 65536 then (some false) else (spec_MailOK.l0 k a0 0 0)) = some r := h
 clear h
 by_cases c2 : (a0.size : Int) > 65536
 ·rw [if_pos c2] at H
  have c2b0 : decide (65536 < (a0.size : Int)) = true := decide_eq_true c2
  have c2b1 : decide (65536 < a0.size) = true := decide_eq_true (Z46)
  clear c2
  obtain rfl := Option.some.inj H
  go_enter Tryz.func43, Tryz.ntmps43
  go_wp2
  go_ret
  exact ⟨Z2, Z11⟩
 ·rw [if_neg c2] at H
  have c2b0 : decide (65536 < (a0.size : Int)) = false := decide_eq_false c2
  have c2b1 : decide (65536 < a0.size) = false := decide_eq_false (Z46)
  clear c2
  have H' := Aside0.mk H
  clear H
  go_enter Tryz.func43, Tryz.ntmps43
  go_wp2
  go_loopg [3, 4] k (fun kq v3 v4 w' => ∃ (x3_1 : Int) (x4_1 : Int), v3 = .int .i64 x3_1 ∧ v4 = .int .i64 x4_1 ∧ Aside0 (spec_MailOK.l0 kq a0 x3_1 x4_1 = some r) ∧ Aside0 (kq ≤ k) ∧ Drawn0 w w')
  case atStart => exact ⟨(0), (0), (Z2), (Z2), H', ⟨Nat.le_refl _⟩, Z11⟩
  case round =>
   clear H'
   (try clear c2); (try clear c2b0); (try clear c2b1)
   obtain ⟨x3_1, x4_1, rfl, rfl, HA, HK1, ⟨m1, rfl⟩⟩ := hrel
   cases gk with
   | zero => exact absurd HA.out (by simp [spec_MailOK.l0])
   | succ k1 =>
    have H := HA.out
    clear HA
    simp only [spec_MailOK.l0] at H
    by_cases c3 : x4_1 < (a0.size : Int)
    ·rw [if_pos c3] at H
     have c3b0 := decide_eq_true c3
     clear c3
     obtain ⟨c4, H⟩ := ifS H
     have c4b0 := decide_eq_true c4
     clear c4
     have HC6 := Aside0.mk H
     clear H
     have p5 : 0 ≤ (x4_1 : Int) := of_decide_eq_true (Z4)
     have q5 : x4_1 < (a0.size : Int) := of_decide_eq_true (Z4)
     have hx5 := bt_at a0 x4_1
     replace p5 := eq_true p5
     replace q5 := eq_true q5
     go_upto_region 8 with (fail)
     go_cut [33] (fun v33 wc => ∃ (kq : Nat) (x33_5 : Bool), v33 = .bool x33_5 ∧ Aside0 (spec_MailOK.j1 kq a0 x3_1 x4_1 (bt a0 x4_1) x33_5 = some r) ∧ Aside0 (kq ≤ k1) ∧ Drawn0 w wc)
     case first =>
      have H := HC6.out
      clear HC6
      by_cases c7 : (bt a0 x4_1) = 13
      ·rw [if_pos c7] at H
       have c7b0 := beq_iff_eq.mpr c7
       have c7b1 := bne_eq_false_iff_eq.mpr c7
       clear c7
       (first | rw [c7b0] | rw [c7b1] | (simp only [i64_w, i32_w]; rw [c7b0]) | skip)
       by_cases c8 : (wrap64 (x4_1 + 1)) < (a0.size : Int)
       ·rw [if_pos c8] at H
        have c8b0 := decide_eq_true c8
        clear c8
        obtain ⟨ji9, hji9⟩ : ∃ j_ : Int, (wrap64 (x4_1 + 1)) = j_ := ⟨_, rfl⟩
        replace H : (if 0 ≤ (ji9) then (spec_MailOK.j1 k1 a0 x3_1 x4_1 (bt a0 x4_1) ((bt a0 (ji9)) == 10)) else (none)) = some r := by first | (rw [hji9] at H; exact H) | (simp only [hji9] at H ⊢; exact H)
        (try rw [hji9] at c8b0)
        have hji9w : (IntKind.i64.wrap (x4_1 + 1)) = ji9 := (i64_w _).trans hji9
        obtain ⟨c10, H⟩ := ifS H
        have c10b0 := decide_eq_true c10
        clear c10
        have H' := Aside0.mk H
        clear H
        have p11 : 0 ≤ ((ji9) : Int) := of_decide_eq_true (Z4)
        have q11 : (ji9) < (a0.size : Int) := of_decide_eq_true (Z4)
        have hx11 := bt_at a0 (ji9)
        replace p11 := eq_true p11
        replace q11 := eq_true q11
        go_wp2
        go_meet
        case rel => exact ⟨_, (((bt a0 (ji9)) == 10)), (by first | rfl | (simp; done) | (simp only [← hji9] <;> (first | rfl | simp)) | (simp [*]; done)), H', ⟨Z47⟩, Z11⟩
       ·rw [if_neg c8] at H
        have c8b0 := decide_eq_false c8
        clear c8
        have H' := Aside0.mk H
        clear H
        go_wp2
        go_meet
        case rel => exact ⟨_, (false), (Z2), H', ⟨Z47⟩, Z11⟩
      ·rw [if_neg c7] at H
       have c7b0 := beq_eq_false_iff_ne.mpr c7
       have c7b1 := bne_iff_ne.mpr c7
       (first | rw [c7b0] | rw [c7b1] | (simp only [i64_w, i32_w]; rw [c7b0]) | skip)
       have H' := Aside0.mk H
       clear H
       go_wp2
       go_meet
       case rel => exact ⟨_, (false), (Z2), H', ⟨Z47⟩, Z11⟩
     case rest =>
      clear HC6
      (try clear c2); (try clear c2b0); (try clear c2b1); (try clear c3); (try clear c3b0); (try clear c4); (try clear c4b0); (try clear p5); (try clear q5); (try clear hx5); (try clear p5); (try clear q5)
      obtain ⟨kq, x33_5, rfl, HA, HJ5, ⟨mc5, rfl⟩⟩ := hcut
      cases kq with
      | zero => exact absurd HA.out (by simp [spec_MailOK.j1])
      | succ kj5 =>
       have H := HA.out
       clear HA
       simp only [spec_MailOK.j1] at H
       by_cases c12 : x33_5 = true
       ·subst c12
        replace H := ifT H
        have H' := Aside0.mk H
        clear H
        go_wp2
        go_roundg kj5
        case measure => have := HK1.out; have := HJ5.out; omega
        case rel => exact ⟨(0), (wrap64 ((wrap64 (x4_1 + 1)) + 1)), (Z2), (Z2), H', ⟨by have := HK1.out; have := HJ5.out; omega⟩, Z11⟩
       ·replace c12 := Bool.eq_false_iff.mpr c12
        subst c12
        replace H := ifF H
        by_cases c13 : (bt a0 x4_1) = 13
        ·rw [if_pos c13] at H
         have c13b0 := beq_iff_eq.mpr c13
         have c13b1 := bne_eq_false_iff_eq.mpr c13
         clear c13
         obtain rfl := Option.some.inj H
         go_wp2
         go_ret
         exact ⟨Z2, Z11⟩
        ·rw [if_neg c13] at H
         have c13b0 := beq_eq_false_iff_ne.mpr c13
         have c13b1 := bne_iff_ne.mpr c13
         by_cases c14 : (bt a0 x4_1) = 10
         ·rw [if_pos c14] at H
          have c14b0 := beq_iff_eq.mpr c14
          have c14b1 := bne_eq_false_iff_eq.mpr c14
          clear c14
          obtain rfl := Option.some.inj H
          go_wp2
          go_ret
          exact ⟨Z2, Z11⟩
         ·rw [if_neg c14] at H
          have c14b0 := beq_eq_false_iff_ne.mpr c14
          have c14b1 := bne_iff_ne.mpr c14
          by_cases c15 : (bt a0 x4_1) = 0
          ·rw [if_pos c15] at H
           have c15b0 := beq_iff_eq.mpr c15
           have c15b1 := bne_eq_false_iff_eq.mpr c15
           clear c15
           obtain rfl := Option.some.inj H
           go_wp2
           go_ret
           exact ⟨Z2, Z11⟩
          ·rw [if_neg c15] at H
           have c15b0 := beq_eq_false_iff_ne.mpr c15
           have c15b1 := bne_iff_ne.mpr c15
           by_cases c16 : (bt a0 x4_1) > 127
           ·rw [if_pos c16] at H
            have c16b0 : decide (127 < (bt a0 x4_1)) = true := decide_eq_true c16
            clear c16
            obtain rfl := Option.some.inj H
            go_wp2
            go_ret
            exact ⟨Z2, Z11⟩
           ·rw [if_neg c16] at H
            have c16b0 : decide (127 < (bt a0 x4_1)) = false := decide_eq_false c16
            clear c16
            by_cases c17 : (wrap64 (x3_1 + 1)) > 998
            ·rw [if_pos c17] at H
             have c17b0 : decide (998 < (wrap64 (x3_1 + 1))) = true := decide_eq_true c17
             clear c17
             obtain rfl := Option.some.inj H
             go_wp2
             go_ret
             exact ⟨Z2, Z11⟩
            ·rw [if_neg c17] at H
             have c17b0 : decide (998 < (wrap64 (x3_1 + 1))) = false := decide_eq_false c17
             clear c17
             have H' := Aside0.mk H
             clear H
             go_wp2
             go_roundg kj5
             case measure => have := HK1.out; have := HJ5.out; omega
             case rel => exact ⟨(wrap64 (x3_1 + 1)), (wrap64 (x4_1 + 1)), (Z2), (Z2), H', ⟨by have := HK1.out; have := HJ5.out; omega⟩, Z11⟩
    ·rw [if_neg c3] at H
     have c3b0 := decide_eq_false c3
     clear c3
     obtain rfl := Option.some.inj H
     go_wp2
     go_ret
     exact ⟨Z2, Z11⟩

/-! ### spec_l07Whole: function 31 -/
def spec_l07Whole.f (k : Nat) (a0 : ByteArray) : Option ((List (S84)) × ByteArray × Bool) := (spec_l07Parse.f k a0).bind fun bt146 => (if bt146.2.2 = true then ((spec_MailOK.f k a0).bind fun t152 => (if t152 = true then (some (bt146.1, bt146.2.1, true)) else (some (([] : List (S84)), (⟨#[]⟩ : ByteArray), false)))) else (some (([] : List (S84)), (⟨#[]⟩ : ByteArray), false)))
theorem spec_l07Whole.mono : ∀ a0 k, LeO (spec_l07Whole.f k a0) (spec_l07Whole.f (k + 1) a0) := by
 intro a0 k
 unfold spec_l07Whole.f
 have m0 := @spec_MailOK.mono
 have m1 := @spec_l07Parse.mono
 exact tM
set_option maxHeartbeats 40000000 in
set_option maxRecDepth 100000 in
theorem spec_l07Whole.calls (k : Nat) (a0 : ByteArray) (r1 : List (S84)) (r2 : ByteArray) (r3 : Bool) (w : World) (h : spec_l07Whole.f k a0 = some (r1, r2, r3)) :
  Calls Tryz.prog 31 #[.string a0] w fun e w' => ∃ v0_ : Value, e = .returned (.tuple #[.agg #[v0_, .string r2], .bool r3]) ∧ Kd.R k84 84 w' w.heap.size (fun _ => True) v0_ r1 ∧ Below w.heap.size w w' := by
 have hu60 := Tryz.underlying60
 have HB := Aside0.mk (Below.refl w.heap.size w)
 have H : ((spec_l07Parse.f k a0).bind fun bt146 => (if bt146.2.2 = true then ((spec_MailOK.f k a0).bind fun t152 => (if t152 = true then (some (bt146.1, bt146.2.1, true)) else (some (([] : List (S84)), (⟨#[]⟩ : ByteArray), false)))) else (some (([] : List (S84)), (⟨#[]⟩ : ByteArray), false)))) = some (r1, r2, r3) := h
 clear h
 obtain ⟨⟨t146, t149, t150⟩, A2, H⟩ := bindA H
 try dsimp only at H
 by_cases c3 : t150 = true
 ·subst c3
  replace H := ifT H
  obtain ⟨t152, A4, H⟩ := bindA H
  try dsimp only at H
  by_cases c5 : t152 = true
  ·subst c5
   replace H := ifT H
   simp only [Option.some.injEq, Prod.mk.injEq] at H
   obtain ⟨rfl, rfl, rfl⟩ := H
   go_enter Tryz.func31, Tryz.ntmps31
   go_wp2_with (first | ((with_reducible refine gate_dst (N := 2) rfl ?_); refine bxE 2 #[.slice none 0 0, .string (⟨#[]⟩ : ByteArray)] 60 ?_; intro gb145 hg w6 hbox hb; have BK145 := Aside0.mk (hbox); have GW145 := Aside0.mk ((szE w hg (Z0))); have GE145 := Aside0.mk ((szE w hg (Z0))); replace HB := Aside0.mk (below_step (Z0) hb); clear hb hbox hg) | ((with_reducible refine gate_callee (f := 42) rfl ?_); refine goesL_ (some 8) rfl rfl Tryz.func42 (Z20) rfl #[.string a0] rfl (Z1) ?_; (with_reducible refine (spec_l07Parse.calls k a0 t146 t149 true _ A2.out).mono ?_); rintro e w7 ⟨v147, rfl, ho0, hb⟩; refine ⟨_, rfl, ?_⟩; have HO148 := Aside0.mk (Kd.R_lower ho0 (below_size (Z21))); replace BK145 := Aside0.mk (kB BK145 (Z32) hb); replace HB := Aside0.mk (below_step (Z21) hb); (try clear hb); (try clear ho0)) | ((with_reducible refine gate_dst (N := 4) rfl ?_); refine bxE 4 #[.slice none 0 0, .string (⟨#[]⟩ : ByteArray)] 60 ?_; intro gb151 hg w8 hbox hb; replace HO148 := Aside0.mk (Kd.R_below (Z68) hb); have BK151 := Aside0.mk (hbox); have GW151 := Aside0.mk ((szE w hg (Z21))); have GE151 := Aside0.mk ((szE w hg (Z21))); replace HB := Aside0.mk (below_step (Z21) hb); have NB145_151 := Aside0.mk ((nL BK145 hg (Z32))); have NB151_145 := Aside0.mk ((nG BK145 hg (Z32))); replace BK145 := Aside0.mk (kB BK145 (Z32) hb); clear hb hbox hg; obtain ⟨Ao9, co9, eo9⟩ := Kd.R_slice HO148.out; subst eo9; have hnb10 := NB151_145.out; have hnc10 := NB145_151.out; obtain ⟨hcz11_0, hcz11_1⟩ := bc2 BK151.out; obtain ⟨hfz11_0, hfz11_1⟩ := bf2 BK151.out) | (go_at_call 43; (with_reducible refine (spec_MailOK.calls k a0 true _ A4.out).mono ?_); rintro e w' ⟨rfl, ⟨nd, rfl⟩⟩; obtain ⟨hcz12_0, hcz12_1⟩ := bc2 BK145.out; obtain ⟨hfz12_0, hfz12_1⟩ := bf2 BK145.out))
   refine bodyPost_ret (results_ct rfl _ _ gb145 60 #[.slice Ao9 t146.length co9, .string t149] (0, 0) _ rfl (by (with_reducible repeat (first | refine blk_drewN ?_ _ | refine blk_drew ?_ | refine blk_alloc ?_ _)); refine blk_put (cs := #[.slice Ao9 t146.length co9, .string (⟨#[]⟩ : ByteArray)]) ?_ 1 _ rfl; (with_reducible repeat (first | refine blk_drewN ?_ _ | refine blk_drew ?_ | refine blk_alloc ?_ _)); refine blk_put (cs := #[.slice none 0 0, .string (⟨#[]⟩ : ByteArray)]) ?_ 0 _ rfl; (with_reducible repeat (first | refine blk_drewN ?_ _ | refine blk_drew ?_ | refine blk_alloc ?_ _)); refine blk_far ?_ NB145_151.out _; (with_reducible repeat (first | refine blk_drewN ?_ _ | refine blk_drew ?_ | refine blk_alloc ?_ _)); refine blk_far ?_ NB145_151.out _; (with_reducible repeat (first | refine blk_drewN ?_ _ | refine blk_drew ?_ | refine blk_alloc ?_ _)); exact BK145.out) Tryz.underlying60 rfl (Z20)) rfl ?_
   exact ⟨_, Z3, by (with_reducible repeat (first | apply Kd.R_alloc | apply Kd.R_drewN | apply Kd.R_drew)); exact Kd.R_mono (Kd.R_far (p := ⟨gb145, 1, none⟩) (Kd.R_far (p := ⟨gb145, 0, none⟩) (Kd.R_far (p := ⟨gb151, 1, none⟩) (Kd.R_far (p := ⟨gb151, 0, none⟩) (Kd.R_types (Kd.R_types HO148.out BK151.out (Z63)) BK145.out (Z63)) (fun _ hk => hk.1.2) (.slice Ao9 t146.length co9)) (fun _ hk => hk.1.2) (.string t149)) (fun _ hk => hk.2) (.slice Ao9 t146.length co9)) (fun _ hk => hk.2) (.string t149)) (fun _ hk => trivial), Z48⟩
  ·replace c5 := Bool.eq_false_iff.mpr c5
   subst c5
   replace H := ifF H
   simp only [Option.some.injEq, Prod.mk.injEq] at H
   obtain ⟨rfl, rfl, rfl⟩ := H
   go_enter Tryz.func31, Tryz.ntmps31
   go_wp2_with (first | ((with_reducible refine gate_dst (N := 2) rfl ?_); refine bxE 2 #[.slice none 0 0, .string (⟨#[]⟩ : ByteArray)] 60 ?_; intro gb145 hg w13 hbox hb; have BK145 := Aside0.mk (hbox); have GW145 := Aside0.mk ((szE w hg (Z0))); have GE145 := Aside0.mk ((szE w hg (Z0))); replace HB := Aside0.mk (below_step (Z0) hb); clear hb hbox hg) | ((with_reducible refine gate_callee (f := 42) rfl ?_); refine goesL_ (some 8) rfl rfl Tryz.func42 (Z20) rfl #[.string a0] rfl (Z1) ?_; (with_reducible refine (spec_l07Parse.calls k a0 t146 t149 true _ A2.out).mono ?_); rintro e w14 ⟨v147, rfl, ho0, hb⟩; refine ⟨_, rfl, ?_⟩; have HO148 := Aside0.mk (Kd.R_lower ho0 (below_size (Z21))); replace BK145 := Aside0.mk (kB BK145 (Z32) hb); replace HB := Aside0.mk (below_step (Z21) hb); (try clear hb); (try clear ho0)) | ((with_reducible refine gate_dst (N := 4) rfl ?_); refine bxE 4 #[.slice none 0 0, .string (⟨#[]⟩ : ByteArray)] 60 ?_; intro gb151 hg w15 hbox hb; replace HO148 := Aside0.mk (Kd.R_below (Z68) hb); have BK151 := Aside0.mk (hbox); have GW151 := Aside0.mk ((szE w hg (Z21))); have GE151 := Aside0.mk ((szE w hg (Z21))); replace HB := Aside0.mk (below_step (Z21) hb); have NB145_151 := Aside0.mk ((nL BK145 hg (Z32))); have NB151_145 := Aside0.mk ((nG BK145 hg (Z32))); replace BK145 := Aside0.mk (kB BK145 (Z32) hb); clear hb hbox hg; obtain ⟨Ao16, co16, eo16⟩ := Kd.R_slice HO148.out; subst eo16; have hnb17 := NB151_145.out; have hnc17 := NB145_151.out; obtain ⟨hcz18_0, hcz18_1⟩ := bc2 BK151.out; obtain ⟨hfz18_0, hfz18_1⟩ := bf2 BK151.out) | (go_at_call 43; (with_reducible refine (spec_MailOK.calls k a0 false _ A4.out).mono ?_); rintro e w' ⟨rfl, ⟨nd, rfl⟩⟩; obtain ⟨hcz19_0, hcz19_1⟩ := bc2 BK145.out; obtain ⟨hfz19_0, hfz19_1⟩ := bf2 BK145.out))
   refine bodyPost_ret (results_ct rfl _ _ gb145 60 #[.slice none 0 0, .string (⟨#[]⟩ : ByteArray)] (0, 0) _ rfl (Z29) Tryz.underlying60 rfl (Z20)) rfl ?_
   exact ⟨_, Z3, Z35, Z48⟩
 ·replace c3 := Bool.eq_false_iff.mpr c3
  subst c3
  replace H := ifF H
  simp only [Option.some.injEq, Prod.mk.injEq] at H
  obtain ⟨rfl, rfl, rfl⟩ := H
  go_enter Tryz.func31, Tryz.ntmps31
  go_wp2_with (first | ((with_reducible refine gate_dst (N := 2) rfl ?_); refine bxE 2 #[.slice none 0 0, .string (⟨#[]⟩ : ByteArray)] 60 ?_; intro gb145 hg w20 hbox hb; have BK145 := Aside0.mk (hbox); have GW145 := Aside0.mk ((szE w hg (Z0))); have GE145 := Aside0.mk ((szE w hg (Z0))); replace HB := Aside0.mk (below_step (Z0) hb); clear hb hbox hg) | ((with_reducible refine gate_callee (f := 42) rfl ?_); refine goesL_ (some 8) rfl rfl Tryz.func42 (Z20) rfl #[.string a0] rfl (Z1) ?_; (with_reducible refine (spec_l07Parse.calls k a0 t146 t149 false _ A2.out).mono ?_); rintro e w21 ⟨v147, rfl, ho0, hb⟩; refine ⟨_, rfl, ?_⟩; have HO148 := Aside0.mk (Kd.R_lower ho0 (below_size (Z21))); replace BK145 := Aside0.mk (kB BK145 (Z32) hb); replace HB := Aside0.mk (below_step (Z21) hb); (try clear hb); (try clear ho0)) | ((with_reducible refine gate_dst (N := 4) rfl ?_); refine bxE 4 #[.slice none 0 0, .string (⟨#[]⟩ : ByteArray)] 60 ?_; intro gb151 hg w22 hbox hb; replace HO148 := Aside0.mk (Kd.R_below (Z68) hb); have BK151 := Aside0.mk (hbox); have GW151 := Aside0.mk ((szE w hg (Z21))); have GE151 := Aside0.mk ((szE w hg (Z21))); replace HB := Aside0.mk (below_step (Z21) hb); have NB145_151 := Aside0.mk ((nL BK145 hg (Z32))); have NB151_145 := Aside0.mk ((nG BK145 hg (Z32))); replace BK145 := Aside0.mk (kB BK145 (Z32) hb); clear hb hbox hg; obtain ⟨Ao23, co23, eo23⟩ := Kd.R_slice HO148.out; subst eo23; have hnb24 := NB151_145.out; have hnc24 := NB145_151.out; obtain ⟨hcz25_0, hcz25_1⟩ := bc2 BK151.out; obtain ⟨hfz25_0, hfz25_1⟩ := bf2 BK151.out; obtain ⟨hcz26_0, hcz26_1⟩ := bc2 BK145.out; obtain ⟨hfz26_0, hfz26_1⟩ := bf2 BK145.out))
  refine bodyPost_ret (results_ct rfl _ _ gb145 60 #[.slice none 0 0, .string (⟨#[]⟩ : ByteArray)] (0, 0) _ rfl (Z29) Tryz.underlying60 rfl (Z20)) rfl ?_
  exact ⟨_, Z3, Z35, Z48⟩

/-! ### spec_l07Part: function 20 -/
def spec_l07Part.f (k : Nat) (a0 : ByteArray) (a1 : ByteArray) : Option (ByteArray × Bool) := (spec_l07Whole.f k a0).bind fun bt153 => (if bt153.2.2 = true then (if a1.toList = ([] : List UInt8) then (some (a0, true)) else (if a1.toList = ([72, 69, 65, 68, 69, 82] : List UInt8) then (if 0 ≤ (wrap64 ((a0.size : Int) - (bt153.2.1.size : Int))) then (if (wrap64 ((a0.size : Int) - (bt153.2.1.size : Int))) ≤ (a0.size : Int) then (some (a0.extract 0 ((wrap64 ((a0.size : Int) - (bt153.2.1.size : Int))) : Int).toNat, true)) else (none)) else (none)) else (if a1.toList = ([84, 69, 88, 84] : List UInt8) then (some (bt153.2.1, true)) else (some ((⟨#[]⟩ : ByteArray), false))))) else (some ((⟨#[]⟩ : ByteArray), false)))
theorem spec_l07Part.mono : ∀ a0 a1 k, LeO (spec_l07Part.f k a0 a1) (spec_l07Part.f (k + 1) a0 a1) := by
 intro a0 a1 k
 unfold spec_l07Part.f
 have m0 := @spec_l07Whole.mono
 exact tM
set_option maxHeartbeats 40000000 in
set_option maxRecDepth 100000 in
theorem spec_l07Part.calls (k : Nat) (a0 : ByteArray) (a1 : ByteArray) (r1 : ByteArray) (r2 : Bool) (w : World) (h : spec_l07Part.f k a0 a1 = some (r1, r2)) :
  Calls Tryz.prog 20 #[.string a0, .string a1] w fun e w' => e = .returned (.tuple #[.string r1, .bool r2]) ∧ Below w.heap.size w w' := by
 have hu60 := Tryz.underlying60
 have HB := Aside0.mk (Below.refl w.heap.size w)
 have H : ((spec_l07Whole.f k a0).bind fun bt153 => (if bt153.2.2 = true then (if a1.toList = ([] : List UInt8) then (some (a0, true)) else (if a1.toList = ([72, 69, 65, 68, 69, 82] : List UInt8) then (if 0 ≤ (wrap64 ((a0.size : Int) - (bt153.2.1.size : Int))) then (if (wrap64 ((a0.size : Int) - (bt153.2.1.size : Int))) ≤ (a0.size : Int) then (some (a0.extract 0 ((wrap64 ((a0.size : Int) - (bt153.2.1.size : Int))) : Int).toNat, true)) else (none)) else (none)) else (if a1.toList = ([84, 69, 88, 84] : List UInt8) then (some (bt153.2.1, true)) else (some ((⟨#[]⟩ : ByteArray), false))))) else (some ((⟨#[]⟩ : ByteArray), false)))) = some (r1, r2) := h
 clear h
 obtain ⟨⟨t153, t156, t157⟩, A3, H⟩ := bindA H
 try dsimp only at H
 by_cases c4 : t157 = true
 ·subst c4
  replace H := ifT H
  by_cases c5 : a1.toList = ([] : List UInt8)
  ·rw [if_pos c5] at H
   have c5b0 := beq_iff_eq.mpr c5
   have c5b1 := bne_eq_false_iff_eq.mpr c5
   clear c5
   simp only [Option.some.injEq, Prod.mk.injEq] at H
   obtain ⟨rfl, rfl⟩ := H
   go_enter Tryz.func20, Tryz.ntmps20
   go_wp2_with (first | ((with_reducible refine gate_callee (f := 31) rfl ?_); refine goesL_ (some 10) rfl rfl Tryz.func31 (Z20) rfl #[.string a0] rfl (Z1) ?_; (with_reducible refine (spec_l07Whole.calls k a0 t153 t156 true _ A3.out).mono ?_); rintro e w6 ⟨v154, rfl, ho0, hb⟩; refine ⟨_, rfl, ?_⟩; have HO155 := Aside0.mk (Kd.R_lower ho0 (below_size (Z0))); replace HB := Aside0.mk (below_step (Z0) hb); (try clear hb); (try clear ho0)) | ((with_reducible refine gate_dst (N := 6) rfl ?_); refine bxE 6 #[.slice none 0 0, .string (⟨#[]⟩ : ByteArray)] 60 ?_; intro gb158 hg w7 hbox hb; replace HO155 := Aside0.mk (Kd.R_below (Z52) hb); have BK158 := Aside0.mk (hbox); have GW158 := Aside0.mk ((szE w hg (Z0))); have GE158 := Aside0.mk ((szE w hg (Z0))); replace HB := Aside0.mk (below_step (Z0) hb); clear hb hbox hg; obtain ⟨Ao8, co8, eo8⟩ := Kd.R_slice HO155.out; subst eo8; obtain ⟨hcz9_0, hcz9_1⟩ := bc2 BK158.out; obtain ⟨hfz9_0, hfz9_1⟩ := bf2 BK158.out))
   go_ret2
   exact ⟨Z3, Z42⟩
  ·rw [if_neg c5] at H
   have c5b0 := beq_eq_false_iff_ne.mpr c5
   have c5b1 := bne_iff_ne.mpr c5
   by_cases c10 : a1.toList = ([72, 69, 65, 68, 69, 82] : List UInt8)
   ·rw [if_pos c10] at H
    have c10b0 := beq_iff_eq.mpr c10
    have c10b1 := bne_eq_false_iff_eq.mpr c10
    clear c10
    obtain ⟨ji11, hji11⟩ : ∃ j_ : Int, (wrap64 ((a0.size : Int) - (t156.size : Int))) = j_ := ⟨_, rfl⟩
    replace H : (if 0 ≤ (ji11) then (if (ji11) ≤ (a0.size : Int) then (some (a0.extract 0 ((ji11) : Int).toNat, true)) else (none)) else (none)) = some (r1, r2) := by first | (rw [hji11] at H; exact H) | (simp only [hji11] at H ⊢; exact H)
    (try rw [hji11] at A3)
    have hji11w : (IntKind.i64.wrap ((a0.size : Int) - (t156.size : Int))) = ji11 := (i64_w _).trans hji11
    obtain ⟨c12, H⟩ := ifS H
    have c12b0 := eq_true c12
    have c12b1 : decide (0 ≤ (ji11)) = true := decide_eq_true c12
    clear c12
    obtain ⟨c13, H⟩ := ifS H
    have c13b0 := eq_true c13
    have c13b1 : decide ((ji11) ≤ (a0.size : Int)) = true := decide_eq_true c13
    clear c13
    simp only [Option.some.injEq, Prod.mk.injEq] at H
    obtain ⟨rfl, rfl⟩ := H
    go_enter Tryz.func20, Tryz.ntmps20
    go_wp2_with (first | ((with_reducible refine gate_callee (f := 31) rfl ?_); refine goesL_ (some 10) rfl rfl Tryz.func31 (Z20) rfl #[.string a0] rfl (Z1) ?_; (with_reducible refine (spec_l07Whole.calls k a0 t153 t156 true _ A3.out).mono ?_); rintro e w14 ⟨v154, rfl, ho0, hb⟩; refine ⟨_, rfl, ?_⟩; have HO155 := Aside0.mk (Kd.R_lower ho0 (below_size (Z0))); replace HB := Aside0.mk (below_step (Z0) hb); (try clear hb); (try clear ho0)) | ((with_reducible refine gate_dst (N := 6) rfl ?_); refine bxE 6 #[.slice none 0 0, .string (⟨#[]⟩ : ByteArray)] 60 ?_; intro gb158 hg w15 hbox hb; replace HO155 := Aside0.mk (Kd.R_below (Z52) hb); have BK158 := Aside0.mk (hbox); have GW158 := Aside0.mk ((szE w hg (Z0))); have GE158 := Aside0.mk ((szE w hg (Z0))); replace HB := Aside0.mk (below_step (Z0) hb); clear hb hbox hg; obtain ⟨Ao16, co16, eo16⟩ := Kd.R_slice HO155.out; subst eo16; obtain ⟨hcz17_0, hcz17_1⟩ := bc2 BK158.out; obtain ⟨hfz17_0, hfz17_1⟩ := bf2 BK158.out))
    go_ret2
    exact ⟨Z30, Z42⟩
   ·rw [if_neg c10] at H
    have c10b0 := beq_eq_false_iff_ne.mpr c10
    have c10b1 := bne_iff_ne.mpr c10
    by_cases c18 : a1.toList = ([84, 69, 88, 84] : List UInt8)
    ·rw [if_pos c18] at H
     have c18b0 := beq_iff_eq.mpr c18
     have c18b1 := bne_eq_false_iff_eq.mpr c18
     clear c18
     simp only [Option.some.injEq, Prod.mk.injEq] at H
     obtain ⟨rfl, rfl⟩ := H
     go_enter Tryz.func20, Tryz.ntmps20
     go_wp2_with (first | ((with_reducible refine gate_callee (f := 31) rfl ?_); refine goesL_ (some 10) rfl rfl Tryz.func31 (Z20) rfl #[.string a0] rfl (Z1) ?_; (with_reducible refine (spec_l07Whole.calls k a0 t153 t156 true _ A3.out).mono ?_); rintro e w19 ⟨v154, rfl, ho0, hb⟩; refine ⟨_, rfl, ?_⟩; have HO155 := Aside0.mk (Kd.R_lower ho0 (below_size (Z0))); replace HB := Aside0.mk (below_step (Z0) hb); (try clear hb); (try clear ho0)) | ((with_reducible refine gate_dst (N := 6) rfl ?_); refine bxE 6 #[.slice none 0 0, .string (⟨#[]⟩ : ByteArray)] 60 ?_; intro gb158 hg w20 hbox hb; replace HO155 := Aside0.mk (Kd.R_below (Z52) hb); have BK158 := Aside0.mk (hbox); have GW158 := Aside0.mk ((szE w hg (Z0))); have GE158 := Aside0.mk ((szE w hg (Z0))); replace HB := Aside0.mk (below_step (Z0) hb); clear hb hbox hg; obtain ⟨Ao21, co21, eo21⟩ := Kd.R_slice HO155.out; subst eo21; obtain ⟨hcz22_0, hcz22_1⟩ := bc2 BK158.out; obtain ⟨hfz22_0, hfz22_1⟩ := bf2 BK158.out))
     go_ret2
     exact ⟨Z3, Z42⟩
    ·rw [if_neg c18] at H
     have c18b0 := beq_eq_false_iff_ne.mpr c18
     have c18b1 := bne_iff_ne.mpr c18
     simp only [Option.some.injEq, Prod.mk.injEq] at H
     obtain ⟨rfl, rfl⟩ := H
     go_enter Tryz.func20, Tryz.ntmps20
     go_wp2_with (first | ((with_reducible refine gate_callee (f := 31) rfl ?_); refine goesL_ (some 10) rfl rfl Tryz.func31 (Z20) rfl #[.string a0] rfl (Z1) ?_; (with_reducible refine (spec_l07Whole.calls k a0 t153 t156 true _ A3.out).mono ?_); rintro e w23 ⟨v154, rfl, ho0, hb⟩; refine ⟨_, rfl, ?_⟩; have HO155 := Aside0.mk (Kd.R_lower ho0 (below_size (Z0))); replace HB := Aside0.mk (below_step (Z0) hb); (try clear hb); (try clear ho0)) | ((with_reducible refine gate_dst (N := 6) rfl ?_); refine bxE 6 #[.slice none 0 0, .string (⟨#[]⟩ : ByteArray)] 60 ?_; intro gb158 hg w24 hbox hb; replace HO155 := Aside0.mk (Kd.R_below (Z52) hb); have BK158 := Aside0.mk (hbox); have GW158 := Aside0.mk ((szE w hg (Z0))); have GE158 := Aside0.mk ((szE w hg (Z0))); replace HB := Aside0.mk (below_step (Z0) hb); clear hb hbox hg; obtain ⟨Ao25, co25, eo25⟩ := Kd.R_slice HO155.out; subst eo25; obtain ⟨hcz26_0, hcz26_1⟩ := bc2 BK158.out; obtain ⟨hfz26_0, hfz26_1⟩ := bf2 BK158.out))
     go_ret2
     exact ⟨Z3, Z42⟩
 ·replace c4 := Bool.eq_false_iff.mpr c4
  subst c4
  replace H := ifF H
  simp only [Option.some.injEq, Prod.mk.injEq] at H
  obtain ⟨rfl, rfl⟩ := H
  go_enter Tryz.func20, Tryz.ntmps20
  go_wp2_with (first | ((with_reducible refine gate_callee (f := 31) rfl ?_); refine goesL_ (some 10) rfl rfl Tryz.func31 (Z20) rfl #[.string a0] rfl (Z1) ?_; (with_reducible refine (spec_l07Whole.calls k a0 t153 t156 false _ A3.out).mono ?_); rintro e w27 ⟨v154, rfl, ho0, hb⟩; refine ⟨_, rfl, ?_⟩; have HO155 := Aside0.mk (Kd.R_lower ho0 (below_size (Z0))); replace HB := Aside0.mk (below_step (Z0) hb); (try clear hb); (try clear ho0)) | ((with_reducible refine gate_dst (N := 6) rfl ?_); refine bxE 6 #[.slice none 0 0, .string (⟨#[]⟩ : ByteArray)] 60 ?_; intro gb158 hg w28 hbox hb; replace HO155 := Aside0.mk (Kd.R_below (Z52) hb); have BK158 := Aside0.mk (hbox); have GW158 := Aside0.mk ((szE w hg (Z0))); have GE158 := Aside0.mk ((szE w hg (Z0))); replace HB := Aside0.mk (below_step (Z0) hb); clear hb hbox hg; obtain ⟨Ao29, co29, eo29⟩ := Kd.R_slice HO155.out; subst eo29; obtain ⟨hcz30_0, hcz30_1⟩ := bc2 BK158.out; obtain ⟨hfz30_0, hfz30_1⟩ := bf2 BK158.out))
  go_ret2
  exact ⟨Z3, Z42⟩

/-! ### spec_l00Join: function 21 -/
def spec_l00Join.l0 : Nat → List ByteArray → ByteArray → ByteArray → Int → Option (ByteArray)
 | 0, _, _, _, _ => none
 | k + 1, x0, x1, x5, x6 => if x6 < (x0.length : Int) then (if x6 > 0 then (if x5.size + x1.size ≤ 9223372036854775807 then (if 0 ≤ x6 then (if (x5 ++ x1).size + (rdOf ByteArray.empty x0 x6).size ≤ 9223372036854775807 then (spec_l00Join.l0 k x0 x1 ((x5 ++ x1) ++ (rdOf ByteArray.empty x0 x6)) (wrap64 (x6 + 1))) else (none)) else (none)) else (none)) else (if 0 ≤ x6 then (if x5.size + (rdOf ByteArray.empty x0 x6).size ≤ 9223372036854775807 then (spec_l00Join.l0 k x0 x1 (x5 ++ (rdOf ByteArray.empty x0 x6)) (wrap64 (x6 + 1))) else (none)) else (none))) else (some x5)
def spec_l00Join.f (k : Nat) (l0 : List ByteArray) (a1 : ByteArray) : Option (ByteArray) := spec_l00Join.l0 k l0 a1 (⟨#[]⟩ : ByteArray) 0
theorem spec_l00Join.mono_l : ∀ k, (∀ y0 y1 y2 y3, LeO (spec_l00Join.l0 k y0 y1 y2 y3) (spec_l00Join.l0 (k + 1) y0 y1 y2 y3))
 | 0 => fun _ _ _ _ r h => by simp [spec_l00Join.l0] at h
 | k + 1 => by
  have ih0 := spec_l00Join.mono_l k
  ·intro y0 y1 y2 y3
   unfold spec_l00Join.l0
   exact tM
theorem spec_l00Join.mono : ∀ a0 a1 k, LeO (spec_l00Join.f k a0 a1) (spec_l00Join.f (k + 1) a0 a1) := by
 intro a0 a1 k
 have ih0 := spec_l00Join.mono_l k
 unfold spec_l00Join.f
 exact tM
set_option maxHeartbeats 40000000 in
set_option maxRecDepth 100000 in
theorem spec_l00Join.calls (k : Nat) (A0 : Option Addr) (c0 : Nat) (l0 : List ByteArray) (a1 : ByteArray) (r : ByteArray) (w : World) (hr0 : Kd.C Kd.string w A0 l0.length l0) (hc0 : l0.length ≤ c0) (h : spec_l00Join.f k l0 a1 = some r) :
  Calls Tryz.prog 21 #[.slice A0 l0.length c0, .string a1] w fun e w' => e = .returned (.string r) ∧ Drawn0 w w' := by
 have HR0 := Aside0.mk hr0
 have HC0 := Aside0.mk hc0
 clear hr0 hc0
 have H : (spec_l00Join.l0 k l0 a1 (⟨#[]⟩ : ByteArray) 0) = some r := h
 clear h
 have H' := Aside0.mk H
 clear H
 go_enter Tryz.func21, Tryz.ntmps21
 go_wp2
 go_loopg [5, 6] k (fun kq v5 v6 w' => ∃ (x5_1 : ByteArray) (x6_1 : Int), v5 = .string x5_1 ∧ v6 = .int .i64 x6_1 ∧ Aside0 (spec_l00Join.l0 kq l0 a1 x5_1 x6_1 = some r) ∧ Aside0 (kq ≤ k) ∧ Drawn0 w w')
 case atStart => exact ⟨((⟨#[]⟩ : ByteArray)), (0), (Z2), (Z2), H', ⟨Nat.le_refl _⟩, Z11⟩
 case round =>
  clear H'
  obtain ⟨x5_1, x6_1, rfl, rfl, HA, HK1, ⟨m1, rfl⟩⟩ := hrel
  cases gk with
  | zero => exact absurd HA.out (by simp [spec_l00Join.l0])
  | succ k1 =>
   have H := HA.out
   clear HA
   simp only [spec_l00Join.l0] at H
   by_cases c3 : x6_1 < (l0.length : Int)
   ·rw [if_pos c3] at H
    have c3b0 := decide_eq_true c3
    clear c3
    by_cases c4 : x6_1 > 0
    ·rw [if_pos c4] at H
     have c4b0 : decide (0 < x6_1) = true := decide_eq_true c4
     clear c4
     obtain ⟨c5, H⟩ := ifS H
     have c5b0 := eq_true c5
     have c5b1 : decide (x5_1.size + a1.size ≤ 9223372036854775807) = true := decide_eq_true c5
     try have c5b2 : (9223372036854775807 < x5_1.size + a1.size) = False := eq_false (Nat.not_lt.2 c5)
     obtain ⟨c6, H⟩ := ifS H
     have c6b0 := decide_eq_true c6
     clear c6
     obtain ⟨c7, H⟩ := ifS H
     have c7b0 := eq_true c7
     have c7b1 : decide ((x5_1 ++ a1).size + (rdOf ByteArray.empty l0 x6_1).size ≤ 9223372036854775807) = true := decide_eq_true c7
     try have c7b2 : (9223372036854775807 < (x5_1 ++ a1).size + (rdOf ByteArray.empty l0 x6_1).size) = False := eq_false (Nat.not_lt.2 c7); try (have c7b3 := c7b2; simp only [ByteArray.size_append, ] at c7b3)
     have H' := Aside0.mk H
     clear H
     have p159 : 0 ≤ (x6_1 : Int) := of_decide_eq_true (Z4)
     have q159 : x6_1 < (l0.length : Int) := of_decide_eq_true (Z4)
     obtain ⟨ad159, e159, hx159_0⟩ := Kd.at_string HR0.out x6_1 p159 q159
     cases e159
     replace p159 := eq_true p159
     replace q159 := eq_true q159
     go_wp2
     go_roundg k1
     case measure => have := HK1.out; omega
     case rel => exact ⟨((x5_1 ++ a1) ++ (rdOf ByteArray.empty l0 x6_1)), (wrap64 (x6_1 + 1)), (Z2), (Z2), H', ⟨Z59⟩, Z11⟩
    ·rw [if_neg c4] at H
     have c4b0 : decide (0 < x6_1) = false := decide_eq_false c4
     clear c4
     obtain ⟨c8, H⟩ := ifS H
     have c8b0 := decide_eq_true c8
     clear c8
     obtain ⟨c9, H⟩ := ifS H
     have c9b0 := eq_true c9
     have c9b1 : decide (x5_1.size + (rdOf ByteArray.empty l0 x6_1).size ≤ 9223372036854775807) = true := decide_eq_true c9
     try have c9b2 : (9223372036854775807 < x5_1.size + (rdOf ByteArray.empty l0 x6_1).size) = False := eq_false (Nat.not_lt.2 c9)
     have H' := Aside0.mk H
     clear H
     have p160 : 0 ≤ (x6_1 : Int) := of_decide_eq_true (Z4)
     have q160 : x6_1 < (l0.length : Int) := of_decide_eq_true (Z4)
     obtain ⟨ad160, e160, hx160_0⟩ := Kd.at_string HR0.out x6_1 p160 q160
     cases e160
     replace p160 := eq_true p160
     replace q160 := eq_true q160
     go_wp2
     go_roundg k1
     case measure => have := HK1.out; omega
     case rel => exact ⟨(x5_1 ++ (rdOf ByteArray.empty l0 x6_1)), (wrap64 (x6_1 + 1)), (Z2), (Z2), H', ⟨Z59⟩, Z11⟩
   ·rw [if_neg c3] at H
    have c3b0 := decide_eq_false c3
    clear c3
    obtain rfl := Option.some.inj H
    go_wp2
    go_ret
    exact ⟨Z2, Z11⟩
end Go.Proofs.YtcmnndnigjkldaaGreatDoor.PFnExactFetchText
