/- Contracts of functions that a statement reaches (wip/x/xprint.py, short.py, compact.py). -/
import Derived.Test.YtbikfhccfenkdaaPFnExactEngineOKx0
import Derived.Test.YtbikfhccfenkdaaPFnExactEngineOKx2
import Derived.Test.YtbikfhccfenkdaaPFnExactEngineOKx3
namespace Go.Proofs.Ytbikfhccfenkdaa.PFnExactEngineOK
open Go.RowKit Go.Proofs.YtbikfhccfenkdaaW.PrintWords Go.Proofs.YtbikfhccfenkdaaW.PrintLast Go.Proofs.YtbikfhccfenkdaaW.PrintMore Go.Proofs.Ytbikfhccfenkdaa.Mac
attribute [local go_sem] max2_int min2_int max_two min_two max_three min_three max_four min_four
set_option linter.unusedVariables false
set_option linter.unusedSimpArgs false

/-! ### spec_BoxOK: function 27 -/
mutual
def spec_BoxOK.j0 : Nat → Bool → ByteArray → Int → Int → List (S71) → List ByteArray → Option (Bool)
 | 0, _, _, _, _, _, _ => none
 | k + 1, x42, x123000, x123001, x123002, x123003, x123004 => if x42 = true then (some false) else (spec_BoxOK.l0 k 0 x123000 x123001 x123002 x123003 x123004)
def spec_BoxOK.l0 : Nat → Int → ByteArray → Int → Int → List (S71) → List ByteArray → Option (Bool)
 | 0, _, _, _, _, _, _ => none
 | k + 1, x3, x123000, x123001, x123002, x123003, x123004 => if x3 < (x123003.length : Int) then (if 0 ≤ x3 then ((spec_l01In.f ((rd_T71 x123003 x3).f0) 1 (wrap64 (x123002 - 1))).bind fun t128 => (if t128 = true then (if x3 > 0 then (if 0 ≤ (wrap64 (x3 - 1)) then (if (wrap64 (x3 - 1)) < (x123003.length : Int) then (if ((rd_T71 x123003 (wrap64 (x3 - 1))).f0) ≥ ((rd_T71 x123003 x3).f0) then (some false) else ((spec_l01In.f ((rd_T71 x123003 x3).f1) 0 31).bind fun t130 => (if t130 = true then (if (((rd_T71 x123003 x3).f2).size : Int) > 4000 then (some false) else (spec_BoxOK.l0 k (wrap64 (x3 + 1)) x123000 x123001 x123002 x123003 x123004)) else (some false)))) else (none)) else (none)) else ((spec_l01In.f ((rd_T71 x123003 x3).f1) 0 31).bind fun t131 => (if t131 = true then (if (((rd_T71 x123003 x3).f2).size : Int) > 4000 then (some false) else (spec_BoxOK.l0 k (wrap64 (x3 + 1)) x123000 x123001 x123002 x123003 x123004)) else (some false)))) else (some false))) else (none)) else (spec_BoxOK.l1 k 0 x123000 x123001 x123002 x123003 x123004)
def spec_BoxOK.l1 : Nat → Int → ByteArray → Int → Int → List (S71) → List ByteArray → Option (Bool)
 | 0, _, _, _, _, _, _ => none
 | k + 1, x5, x123000, x123001, x123002, x123003, x123004 => if x5 < (x123004.length : Int) then (if 0 ≤ x5 then ((spec_l01In.f ((rdOf ByteArray.empty x123004 x5).size : Int) 1 200).bind fun t133 => (if t133 = true then (if x5 ≤ (x123004.length : Int) then ((spec_l06Has.f k (x123004.take (x5 : Int).toNat) (rdOf ByteArray.empty x123004 x5)).bind fun t136 => (if t136 = true then (some false) else (spec_BoxOK.l1 k (wrap64 (x5 + 1)) x123000 x123001 x123002 x123003 x123004))) else (none)) else (some false))) else (none)) else (some true)
end
def spec_BoxOK.f (k : Nat) (a0_0 : ByteArray) (a0_1 : Int) (a0_2 : Int) (l0_3 : List (S71)) (l0_4 : List ByteArray) : Option (Bool) := (spec_NameOK.f k a0_0).bind fun t123 => (if t123 = true then ((spec_l01In.f a0_1 1 1000000).bind fun t124 => (if t124 = true then ((spec_l01In.f a0_2 1 1001).bind fun t125 => (if t125 = true then (if (l0_3.length : Int) > 30 then (spec_BoxOK.j0 k true a0_0 a0_1 a0_2 l0_3 l0_4) else (if (l0_4.length : Int) > 60 then (spec_BoxOK.j0 k true a0_0 a0_1 a0_2 l0_3 l0_4) else (spec_BoxOK.j0 k ((l0_4.length : Int) != (wrap64 (a0_2 - 1))) a0_0 a0_1 a0_2 l0_3 l0_4))) else (spec_BoxOK.j0 k true a0_0 a0_1 a0_2 l0_3 l0_4))) else (spec_BoxOK.j0 k true a0_0 a0_1 a0_2 l0_3 l0_4))) else (spec_BoxOK.j0 k true a0_0 a0_1 a0_2 l0_3 l0_4))
theorem spec_BoxOK.mono_l : ∀ k, (∀ y0 y1 y2 y3 y4 y5, LeO (spec_BoxOK.j0 k y0 y1 y2 y3 y4 y5) (spec_BoxOK.j0 (k + 1) y0 y1 y2 y3 y4 y5)) ∧ (∀ y0 y1 y2 y3 y4 y5, LeO (spec_BoxOK.l0 k y0 y1 y2 y3 y4 y5) (spec_BoxOK.l0 (k + 1) y0 y1 y2 y3 y4 y5)) ∧ (∀ y0 y1 y2 y3 y4 y5, LeO (spec_BoxOK.l1 k y0 y1 y2 y3 y4 y5) (spec_BoxOK.l1 (k + 1) y0 y1 y2 y3 y4 y5))
 | 0 => ⟨fun _ _ _ _ _ _ r h => by simp [spec_BoxOK.j0] at h, fun _ _ _ _ _ _ r h => by simp [spec_BoxOK.l0] at h, fun _ _ _ _ _ _ r h => by simp [spec_BoxOK.l1] at h⟩
 | k + 1 => by
  obtain ⟨ih0, ih1, ih2⟩ := spec_BoxOK.mono_l k
  refine ⟨?_, ?_, ?_⟩
  ·intro y0 y1 y2 y3 y4 y5
   unfold spec_BoxOK.j0
   have m0 := @spec_NameOK.mono
   have m1 := @spec_l06Has.mono
   exact tM
  ·intro y0 y1 y2 y3 y4 y5
   unfold spec_BoxOK.l0
   have m0 := @spec_NameOK.mono
   have m1 := @spec_l06Has.mono
   exact tM
  ·intro y0 y1 y2 y3 y4 y5
   unfold spec_BoxOK.l1
   have m0 := @spec_NameOK.mono
   have m1 := @spec_l06Has.mono
   exact tM
theorem spec_BoxOK.mono : ∀ a0 a1 a2 a3 a4 k, LeO (spec_BoxOK.f k a0 a1 a2 a3 a4) (spec_BoxOK.f (k + 1) a0 a1 a2 a3 a4) := by
 intro a0 a1 a2 a3 a4 k
 obtain ⟨ih0, ih1, ih2⟩ := spec_BoxOK.mono_l k
 unfold spec_BoxOK.f
 have m0 := @spec_NameOK.mono
 have m1 := @spec_l06Has.mono
 exact tM
def spec_BoxOK.T7 : Bool × List (List Nat × List Nat) := (true, [([], []), ([0], [0]), ([], []), ([2], [2]), ([3], [3]), ([1, 4], [1, 4]), ([5], [5]), ([6, 5], [6]), ([7], [7]), ([8, 7], [7, 8]), ([9, 7, 7], [7, 9]), ([10], [10]), ([11, 10], [10, 11]), ([10], [10]), ([13, 10], [10, 13]), ([12, 14, 10], [10, 12, 14]), ([15, 10], [10, 15]), ([16, 10], [10, 16]), ([10], [10]), ([18, 10], [10, 18]), ([17, 19, 10], [10, 17, 19]), ([10, 20, 7], [7, 10, 20]), ([7, 21], [7, 21]), ([22, 10], [22]), ([23], [23]), ([24, 23], [23, 24]), ([25, 23, 23], [23, 25]), ([26, 23], [23, 26]), ([23, 27], [23, 27]), ([28, 26], [28]), ([29], [29]), ([30, 29], [29, 30]), ([31, 29], [29, 31]), ([32, 29], [29, 32]), ([29, 33], [29, 33])])
def spec_BoxOK.B7 : List Nat := [0, 1, 0, 4, 12, 31, 63, 127, 255, 511, 1023, 2047, 4095, 2047, 10239, 32767, 65535, 131071, 2047, 264191, 1048575, 2097151, 4194303, 8388607, 16777215, 33554431, 67108863, 134217727, 268435455, 536870911, 1073741823, 2147483647, 4294967295, 8589934591, 17179869183]
theorem spec_BoxOK.tab7 : rtab .any (opsOf Try.f27 7) = spec_BoxOK.T7 := by kernel_rfl
theorem spec_BoxOK.bits7 : waitsOk spec_BoxOK.T7.2 spec_BoxOK.B7 = true := by kernel_rfl
def spec_BoxOK.T12 : Bool × List (List Nat × List Nat) := (true, [([], []), ([0], [0]), ([], []), ([1, 2], [1, 2]), ([3], [3]), ([4], [4]), ([5], [5]), ([6], [6]), ([7, 6], [7]), ([8], [8]), ([9, 8], [8, 9]), ([8], [8]), ([10, 11, 8], [8, 10, 11]), ([8], [8]), ([13, 8], [8, 13]), ([8], [8]), ([14, 15, 8], [8, 14, 15]), ([16, 8], [8, 16]), ([12, 17, 8, 8], [8, 12, 17]), ([8, 18], [8, 18])])
def spec_BoxOK.B12 : List Nat := [0, 1, 0, 7, 15, 31, 63, 127, 255, 511, 1023, 511, 4095, 511, 8703, 511, 57855, 123391, 262143, 524287]
theorem spec_BoxOK.tab12 : rtab .any (opsOf Try.f27 12) = spec_BoxOK.T12 := by kernel_rfl
theorem spec_BoxOK.bits12 : waitsOk spec_BoxOK.T12.2 spec_BoxOK.B12 = true := by kernel_rfl
set_option maxHeartbeats 40000000 in
set_option maxRecDepth 100000 in
theorem spec_BoxOK.calls (k : Nat) (a0_0 : ByteArray) (a0_1 : Int) (a0_2 : Int) (A0_3 : Option Addr) (c0_3 : Nat) (l0_3 : List (S71)) (A0_4 : Option Addr) (c0_4 : Nat) (l0_4 : List ByteArray) (r : Bool) (w : World) (hr0_3 : Kd.C k71 w A0_3 l0_3.length l0_3) (hc0_3 : l0_3.length ≤ c0_3) (hr0_4 : Kd.C Kd.string w A0_4 l0_4.length l0_4) (hc0_4 : l0_4.length ≤ c0_4) (h : spec_BoxOK.f k a0_0 a0_1 a0_2 l0_3 l0_4 = some r) :
  Calls Try.prog 27 #[.agg #[.string a0_0, .int .i64 a0_1, .int .i64 a0_2, .slice A0_3 l0_3.length c0_3, .slice A0_4 l0_4.length c0_4]] w fun e w' => e = .returned (.bool r) ∧ Below w.heap.size w w' := by
 have hu59 := Try.underlying59
 have hu71 := Try.underlying71
 have HR0_3 := Aside0.mk hr0_3
 have HC0_3 := Aside0.mk hc0_3
 clear hr0_3 hc0_3
 have HR0_4 := Aside0.mk hr0_4
 have HC0_4 := Aside0.mk hc0_4
 clear hr0_4 hc0_4
 have HB := Aside0.mk (Below.refl w.heap.size w)
 have H : ((spec_NameOK.f k a0_0).bind fun t123 => (if t123 = true then ((spec_l01In.f a0_1 1 1000000).bind fun t124 => (if t124 = true then ((spec_l01In.f a0_2 1 1001).bind fun t125 => (if t125 = true then (if (l0_3.length : Int) > 30 then (spec_BoxOK.j0 k true a0_0 a0_1 a0_2 l0_3 l0_4) else (if (l0_4.length : Int) > 60 then (spec_BoxOK.j0 k true a0_0 a0_1 a0_2 l0_3 l0_4) else (spec_BoxOK.j0 k ((l0_4.length : Int) != (wrap64 (a0_2 - 1))) a0_0 a0_1 a0_2 l0_3 l0_4))) else (spec_BoxOK.j0 k true a0_0 a0_1 a0_2 l0_3 l0_4))) else (spec_BoxOK.j0 k true a0_0 a0_1 a0_2 l0_3 l0_4))) else (spec_BoxOK.j0 k true a0_0 a0_1 a0_2 l0_3 l0_4))) = some r := h
 clear h
 have HC2 := Aside0.mk H
 clear H
 go_enter Try.func27, Try.ntmps27
 go_upto_region 1 with (first | ((with_reducible refine gate_dst (N := 1) rfl ?_); (try (refine gate_guard (Z102) ?_; dsimp only)); refine bxE 1 #[.string a0_0, .int .i64 a0_1, .int .i64 a0_2, .slice A0_3 l0_3.length c0_3, .slice A0_4 l0_4.length c0_4] 59 ?_; intro gb122 hg w3 hbox hb; have BK122 := Aside0.mk (hbox); have GW122 := Aside0.mk ((szE w hg (Z0))); have GE122 := Aside0.mk ((szE w hg (Z0))); replace HB := Aside0.mk (below_step (Z0) hb); clear hb hbox hg))
 (try simp only [Act.put, List.setIfInBounds_toArray, List.set_cons_zero, List.set_cons_succ])
 go_cut [42] (fun v42 wc => ∃ (kq : Nat) (x42_1 : Bool), v42 = .bool x42_1 ∧ Aside0 (spec_BoxOK.j0 kq x42_1 a0_0 a0_1 a0_2 l0_3 l0_4 = some r) ∧ Aside0 (kq ≤ k) ∧ Aside0 (wc.heap[gb122]? = some (.cells #[.string a0_0, .int .i64 a0_1, .int .i64 a0_2, (.slice A0_3 l0_3.length c0_3), (.slice A0_4 l0_4.length c0_4)] 59 (0, 0))) ∧ Aside0 (Below w.heap.size w wc))
 case first =>
  have H := HC2.out
  clear HC2
  obtain ⟨t123, A4, H⟩ := bindA H
  try dsimp only at H
  by_cases c5 : t123 = true
  ·subst c5
   replace H := ifT H
   obtain ⟨t124, A6, H⟩ := bindA H
   try dsimp only at H
   by_cases c7 : t124 = true
   ·subst c7
    replace H := ifT H
    obtain ⟨t125, A8, H⟩ := bindA H
    try dsimp only at H
    by_cases c9 : t125 = true
    ·subst c9
     replace H := ifT H
     by_cases c10 : (l0_3.length : Int) > 30
     ·rw [if_pos c10] at H
      have c10b0 : decide (30 < (l0_3.length : Int)) = true := decide_eq_true c10
      have c10b1 : decide (30 < l0_3.length) = true := decide_eq_true (Z43)
      clear c10
      (first | rw [c10b0] | rw [c10b1] | (simp only [i64_w, i32_w]; rw [c10b0]) | skip)
      have H' := Aside0.mk H
      clear H
      obtain ⟨hcz11_0, hcz11_1, hcz11_2, hcz11_3, hcz11_4⟩ := bc5 BK122.out
      obtain ⟨hfz11_0, hfz11_1, hfz11_2, hfz11_3, hfz11_4⟩ := bf5 BK122.out
      go_wp2_with (first | ((with_reducible refine gate_callee (f := 49) rfl ?_); refine goesL_ (some 8) rfl rfl Try.func49 (Z24) rfl #[.string a0_0] rfl (Z1) ?_; (with_reducible refine (spec_NameOK.calls k a0_0 true _ A4.out).mono ?_); rintro e w' ⟨rfl, ⟨nd, rfl⟩⟩; refine ⟨_, rfl, ?_⟩) | (go_at_call 26; (with_reducible refine (spec_l01In.calls a0_1 1 1000000 true _ A6.out).mono ?_); rintro e w' ⟨rfl, ⟨nd, rfl⟩⟩) | (go_at_call 26; (with_reducible refine (spec_l01In.calls a0_2 1 1001 true _ A8.out).mono ?_); rintro e w' ⟨rfl, ⟨nd, rfl⟩⟩))
      go_meet
      case rel => exact ⟨_, (true), (Z3), H', ⟨Z74⟩, ⟨Z19⟩, ⟨Z8⟩⟩
     ·rw [if_neg c10] at H
      have c10b0 : decide (30 < (l0_3.length : Int)) = false := decide_eq_false c10
      have c10b1 : decide (30 < l0_3.length) = false := decide_eq_false (Z43)
      clear c10
      (first | rw [c10b0] | rw [c10b1] | (simp only [i64_w, i32_w]; rw [c10b0]) | skip)
      by_cases c12 : (l0_4.length : Int) > 60
      ·rw [if_pos c12] at H
       have c12b0 : decide (60 < (l0_4.length : Int)) = true := decide_eq_true c12
       have c12b1 : decide (60 < l0_4.length) = true := decide_eq_true (Z43)
       clear c12
       have H' := Aside0.mk H
       clear H
       obtain ⟨hcz13_0, hcz13_1, hcz13_2, hcz13_3, hcz13_4⟩ := bc5 BK122.out
       obtain ⟨hfz13_0, hfz13_1, hfz13_2, hfz13_3, hfz13_4⟩ := bf5 BK122.out
       go_wp2_with (first | ((with_reducible refine gate_callee (f := 49) rfl ?_); refine goesL_ (some 8) rfl rfl Try.func49 (Z24) rfl #[.string a0_0] rfl (Z1) ?_; (with_reducible refine (spec_NameOK.calls k a0_0 true _ A4.out).mono ?_); rintro e w' ⟨rfl, ⟨nd, rfl⟩⟩; refine ⟨_, rfl, ?_⟩) | (go_at_call 26; (with_reducible refine (spec_l01In.calls a0_1 1 1000000 true _ A6.out).mono ?_); rintro e w' ⟨rfl, ⟨nd, rfl⟩⟩) | (go_at_call 26; (with_reducible refine (spec_l01In.calls a0_2 1 1001 true _ A8.out).mono ?_); rintro e w' ⟨rfl, ⟨nd, rfl⟩⟩))
       go_meet
       case rel => exact ⟨_, (true), (Z3), H', ⟨Z74⟩, ⟨Z19⟩, ⟨Z8⟩⟩
      ·rw [if_neg c12] at H
       have c12b0 : decide (60 < (l0_4.length : Int)) = false := decide_eq_false c12
       have c12b1 : decide (60 < l0_4.length) = false := decide_eq_false (Z43)
       clear c12
       have H' := Aside0.mk H
       clear H
       obtain ⟨hcz14_0, hcz14_1, hcz14_2, hcz14_3, hcz14_4⟩ := bc5 BK122.out
       obtain ⟨hfz14_0, hfz14_1, hfz14_2, hfz14_3, hfz14_4⟩ := bf5 BK122.out
       go_wp2_with (first | ((with_reducible refine gate_callee (f := 49) rfl ?_); refine goesL_ (some 8) rfl rfl Try.func49 (Z24) rfl #[.string a0_0] rfl (Z1) ?_; (with_reducible refine (spec_NameOK.calls k a0_0 true _ A4.out).mono ?_); rintro e w' ⟨rfl, ⟨nd, rfl⟩⟩; refine ⟨_, rfl, ?_⟩) | (go_at_call 26; (with_reducible refine (spec_l01In.calls a0_1 1 1000000 true _ A6.out).mono ?_); rintro e w' ⟨rfl, ⟨nd, rfl⟩⟩) | (go_at_call 26; (with_reducible refine (spec_l01In.calls a0_2 1 1001 true _ A8.out).mono ?_); rintro e w' ⟨rfl, ⟨nd, rfl⟩⟩))
       go_meet
       case rel => exact ⟨_, (((l0_4.length : Int) != (wrap64 (a0_2 - 1)))), (Z3), H', ⟨Z74⟩, ⟨Z19⟩, ⟨Z8⟩⟩
    ·replace c9 := Bool.eq_false_iff.mpr c9
     subst c9
     replace H := ifF H
     have H' := Aside0.mk H
     clear H
     obtain ⟨hcz15_0, hcz15_1, hcz15_2, hcz15_3, hcz15_4⟩ := bc5 BK122.out
     obtain ⟨hfz15_0, hfz15_1, hfz15_2, hfz15_3, hfz15_4⟩ := bf5 BK122.out
     go_wp2_with (first | ((with_reducible refine gate_callee (f := 49) rfl ?_); refine goesL_ (some 8) rfl rfl Try.func49 (Z24) rfl #[.string a0_0] rfl (Z1) ?_; (with_reducible refine (spec_NameOK.calls k a0_0 true _ A4.out).mono ?_); rintro e w' ⟨rfl, ⟨nd, rfl⟩⟩; refine ⟨_, rfl, ?_⟩) | (go_at_call 26; (with_reducible refine (spec_l01In.calls a0_1 1 1000000 true _ A6.out).mono ?_); rintro e w' ⟨rfl, ⟨nd, rfl⟩⟩) | (go_at_call 26; (with_reducible refine (spec_l01In.calls a0_2 1 1001 false _ A8.out).mono ?_); rintro e w' ⟨rfl, ⟨nd, rfl⟩⟩))
     go_meet
     case rel => exact ⟨_, (true), (Z3), H', ⟨Z74⟩, ⟨Z19⟩, ⟨Z8⟩⟩
   ·replace c7 := Bool.eq_false_iff.mpr c7
    subst c7
    replace H := ifF H
    have H' := Aside0.mk H
    clear H
    obtain ⟨hcz16_0, hcz16_1, hcz16_2, hcz16_3, hcz16_4⟩ := bc5 BK122.out
    obtain ⟨hfz16_0, hfz16_1, hfz16_2, hfz16_3, hfz16_4⟩ := bf5 BK122.out
    go_wp2_with (first | ((with_reducible refine gate_callee (f := 49) rfl ?_); refine goesL_ (some 8) rfl rfl Try.func49 (Z24) rfl #[.string a0_0] rfl (Z1) ?_; (with_reducible refine (spec_NameOK.calls k a0_0 true _ A4.out).mono ?_); rintro e w' ⟨rfl, ⟨nd, rfl⟩⟩; refine ⟨_, rfl, ?_⟩) | (go_at_call 26; (with_reducible refine (spec_l01In.calls a0_1 1 1000000 false _ A6.out).mono ?_); rintro e w' ⟨rfl, ⟨nd, rfl⟩⟩))
    go_meet
    case rel => exact ⟨_, (true), (Z3), H', ⟨Z74⟩, ⟨Z19⟩, ⟨Z8⟩⟩
  ·replace c5 := Bool.eq_false_iff.mpr c5
   subst c5
   replace H := ifF H
   have H' := Aside0.mk H
   clear H
   obtain ⟨hcz17_0, hcz17_1, hcz17_2, hcz17_3, hcz17_4⟩ := bc5 BK122.out
   obtain ⟨hfz17_0, hfz17_1, hfz17_2, hfz17_3, hfz17_4⟩ := bf5 BK122.out
   go_wp2_with (first | ((with_reducible refine gate_callee (f := 49) rfl ?_); refine goesL_ (some 8) rfl rfl Try.func49 (Z24) rfl #[.string a0_0] rfl (Z1) ?_; (with_reducible refine (spec_NameOK.calls k a0_0 false _ A4.out).mono ?_); rintro e w' ⟨rfl, ⟨nd, rfl⟩⟩; refine ⟨_, rfl, ?_⟩))
   go_meet
   case rel => exact ⟨_, (true), (Z3), H', ⟨Z74⟩, ⟨Z19⟩, ⟨Z8⟩⟩
 case rest =>
  clear HC2
  obtain ⟨kq, x42_1, rfl, HA, HJ1, BK122, HB⟩ := hcut
  cases kq with
  | zero => exact absurd HA.out (by simp [spec_BoxOK.j0])
  | succ kj1 =>
   have H := HA.out
   clear HA
   simp only [spec_BoxOK.j0] at H
   by_cases c18 : x42_1 = true
   ·subst c18
    replace H := ifT H
    obtain rfl := Option.some.inj H
    go_wp2
    go_ret
    exact ⟨Z2, Z8⟩
   ·replace c18 := Bool.eq_false_iff.mpr c18
    subst c18
    replace H := ifF H
    have H' := Aside0.mk H
    clear H
    go_wp2
    go_loopg [3] kj1 (fun kq v3 w' => ∃ (x3_2 : Int), v3 = .int .i64 x3_2 ∧ Aside0 (spec_BoxOK.l0 kq x3_2 a0_0 a0_1 a0_2 l0_3 l0_4 = some r) ∧ Aside0 (kq ≤ kj1) ∧ Aside0 (w'.heap[gb122]? = some (.cells #[.string a0_0, .int .i64 a0_1, .int .i64 a0_2, (.slice A0_3 l0_3.length c0_3), (.slice A0_4 l0_4.length c0_4)] 59 (0, 0))) ∧ Aside0 (Below w.heap.size w w'))
    case atStart => exact ⟨(0), (Z3), H', ⟨Nat.le_refl _⟩, ⟨Z19⟩, ⟨Z8⟩⟩
    case round =>
     clear H'
     (try clear c18)
     obtain ⟨x3_2, rfl, HA, HK2, BK122, HB⟩ := hrel
     cases gk with
     | zero => exact absurd HA.out (by simp [spec_BoxOK.l0])
     | succ k2 =>
      have H := HA.out
      clear HA
      simp only [spec_BoxOK.l0] at H
      by_cases c19 : x3_2 < (l0_3.length : Int)
      ·rw [if_pos c19] at H
       have c19b0 := decide_eq_true c19
       clear c19
       obtain ⟨c20, H⟩ := ifS H
       have c20b0 : decide (0 ≤ x3_2) = true := decide_eq_true c20
       clear c20
       obtain ⟨t128, A21, H⟩ := bindA H
       try dsimp only at H
       by_cases c22 : t128 = true
       ·subst c22
        replace H := ifT H
        by_cases c23 : x3_2 > 0
        ·rw [if_pos c23] at H
         have c23b0 : decide (0 < x3_2) = true := decide_eq_true c23
         clear c23
         obtain ⟨ji24, hji24⟩ : ∃ j_ : Int, (wrap64 (x3_2 - 1)) = j_ := ⟨_, rfl⟩
         replace H : (if 0 ≤ (ji24) then (if (ji24) < (l0_3.length : Int) then (if ((rd_T71 l0_3 (ji24)).f0) ≥ ((rd_T71 l0_3 x3_2).f0) then (some false) else ((spec_l01In.f ((rd_T71 l0_3 x3_2).f1) 0 31).bind fun t130 => (if t130 = true then (if (((rd_T71 l0_3 x3_2).f2).size : Int) > 4000 then (some false) else (spec_BoxOK.l0 k2 (wrap64 (x3_2 + 1)) a0_0 a0_1 a0_2 l0_3 l0_4)) else (some false)))) else (none)) else (none)) = some r := by first | (rw [hji24] at H; exact H) | (simp only [hji24] at H ⊢; exact H)
         (try rw [hji24] at A21)
         have hji24w : (IntKind.i64.wrap (x3_2 - 1)) = ji24 := (i64_w _).trans hji24
         obtain ⟨c25, H⟩ := ifS H
         have c25b0 : decide (0 ≤ (ji24)) = true := decide_eq_true c25
         clear c25
         obtain ⟨c26, H⟩ := ifS H
         have c26b0 : decide ((ji24) < (l0_3.length : Int)) = true := decide_eq_true c26
         clear c26
         by_cases c27 : ((rd_T71 l0_3 (ji24)).f0) ≥ ((rd_T71 l0_3 x3_2).f0)
         ·rw [if_pos c27] at H
          have c27b0 : decide (((rd_T71 l0_3 x3_2).f0) ≤ ((rd_T71 l0_3 (ji24)).f0)) = true := decide_eq_true c27
          clear c27
          obtain rfl := Option.some.inj H
          obtain ⟨hcz28_0, hcz28_1, hcz28_2, hcz28_3, hcz28_4⟩ := bc5 BK122.out
          obtain ⟨hfz28_0, hfz28_1, hfz28_2, hfz28_3, hfz28_4⟩ := bf5 BK122.out
          have p126 : 0 ≤ (x3_2 : Int) := of_decide_eq_true (Z4)
          have q126 : x3_2 < (l0_3.length : Int) := of_decide_eq_true (Z4)
          obtain ⟨ad126, e126, hx126_0, hx126_1, hx126_2⟩ := at_T71 HR0_3.out x3_2 p126 q126
          cases e126
          replace hx126_0 := cB HB.out hx126_0
          replace hx126_1 := cB HB.out hx126_1
          replace hx126_2 := cB HB.out hx126_2
          replace p126 := eq_true p126
          replace q126 := eq_true q126
          try go_wp2_with (first | ((with_reducible refine gate_dst (N := 4) rfl ?_); (try (refine gate_guard (Z102) ?_; dsimp only)); refine bxE 4 #[.int .i64 0, .int .i64 0, .string (⟨#[]⟩ : ByteArray)] 71 ?_; intro gb127 hg w29 hbox hb; have BK127 := Aside0.mk (hbox); have GW127 := Aside0.mk ((szE w hg (Z8))); have GE127 := Aside0.mk ((szE w hg (Z8))); replace HB := Aside0.mk (below_step (Z8) hb); have NB122_127 := Aside0.mk ((nL BK122 hg (Z19))); have NB127_122 := Aside0.mk ((nG BK122 hg (Z19))); replace BK122 := Aside0.mk (kB BK122 (Z19) hb); clear hb hbox hg; have hnb30 := NB127_122.out; have hnc30 := NB122_127.out; obtain ⟨hcz31_0, hcz31_1, hcz31_2⟩ := bc3 BK127.out; obtain ⟨hfz31_0, hfz31_1, hfz31_2⟩ := bf3 BK127.out))
          have n0_ : Aside0 ((((w29.setCell ⟨gb127, 0, none⟩ (.int .i64 ((rd_T71 l0_3 x3_2).f0))).setCell ⟨gb127, 1, none⟩ (.int .i64 ((rd_T71 l0_3 x3_2).f1))).setCell ⟨gb127, 2, none⟩ (.string ((rd_T71 l0_3 x3_2).f2))).heap[gb122]? = some (.cells #[.string a0_0, .int .i64 a0_1, .int .i64 a0_2, .slice (some ad126) l0_3.length c0_3, .slice A0_4 l0_4.length c0_4] 59 (0, 0))) := ⟨Z18⟩
          have n1_ : Aside0 ((((w29.setCell ⟨gb127, 0, none⟩ (.int .i64 ((rd_T71 l0_3 x3_2).f0))).setCell ⟨gb127, 1, none⟩ (.int .i64 ((rd_T71 l0_3 x3_2).f1))).setCell ⟨gb127, 2, none⟩ (.string ((rd_T71 l0_3 x3_2).f2))).heap[gb127]? = some (.cells #[.int .i64 ((rd_T71 l0_3 x3_2).f0), .int .i64 ((rd_T71 l0_3 x3_2).f1), .string ((rd_T71 l0_3 x3_2).f2)] 71 (0, 0))) := ⟨Z9⟩
          have n2_ : Aside0 (Below w.heap.size w (((w29.setCell ⟨gb127, 0, none⟩ (.int .i64 ((rd_T71 l0_3 x3_2).f0))).setCell ⟨gb127, 1, none⟩ (.int .i64 ((rd_T71 l0_3 x3_2).f1))).setCell ⟨gb127, 2, none⟩ (.string ((rd_T71 l0_3 x3_2).f2)))) := ⟨Z26⟩
          (try clear BK122); (try clear BK127); (try clear HB)
          generalize (((w29.setCell ⟨gb127, 0, none⟩ (.int .i64 ((rd_T71 l0_3 x3_2).f0))).setCell ⟨gb127, 1, none⟩ (.int .i64 ((rd_T71 l0_3 x3_2).f1))).setCell ⟨gb127, 2, none⟩ (.string ((rd_T71 l0_3 x3_2).f2))) = w32 at n0_ n1_ n2_ ⊢
          have BK122 := n0_
          have BK127 := n1_
          have HB := n2_
          clear n0_ n1_ n2_
          replace BK122 := Aside0.mk (blk_drew BK122.out)
          replace BK127 := Aside0.mk (blk_drew BK127.out)
          replace HB := Aside0.mk (below_drew1 HB.out)
          have p129 : 0 ≤ ((ji24) : Int) := of_decide_eq_true (Z4)
          have q129 : (ji24) < (l0_3.length : Int) := of_decide_eq_true (Z4)
          obtain ⟨ad129, e129, hx129_0, hx129_1, hx129_2⟩ := at_T71 HR0_3.out (ji24) p129 q129
          have hw129_2 := hx129_2
          have hw129_1 := hx129_1
          have hw129_0 := hx129_0
          obtain rfl : ad126 = ad129 := (by injection e129)
          replace hx129_0 := cB HB.out hx129_0
          replace hx129_1 := cB HB.out hx129_1
          replace hx129_2 := cB HB.out hx129_2
          replace p129 := eq_true p129
          replace q129 := eq_true q129
          refine start_ (n := 35) (S := fun w' => w'.cell? ⟨gb127, 0, none⟩ = some (.int .i64 ((rd_T71 l0_3 x3_2).f0)) ∧ w'.cell? ⟨gb127, 1, none⟩ = some (.int .i64 ((rd_T71 l0_3 x3_2).f1)) ∧ w'.cell? ⟨gb127, 2, none⟩ = some (.string ((rd_T71 l0_3 x3_2).f2)) ∧ w'.cell? ⟨gb122, 0, none⟩ = some (.string a0_0) ∧ w'.cell? ⟨gb122, 1, none⟩ = some (.int .i64 a0_1) ∧ w'.cell? ⟨gb122, 2, none⟩ = some (.int .i64 a0_2) ∧ w'.cell? ⟨gb122, 3, none⟩ = some (.slice (some ad126) l0_3.length c0_3) ∧ w'.cell? ⟨gb122, 4, none⟩ = some (.slice A0_4 l0_4.length c0_4) ∧ w'.cell? (ad126.add (((ji24)).toNat * 3)) = some (.int .i64 ((rd_T71 l0_3 (ji24)).f0)) ∧ w'.cell? ⟨(ad126.add (((ji24)).toNat * 3)).block, (ad126.add (((ji24)).toNat * 3)).off + 1, none⟩ = some (.int .i64 ((rd_T71 l0_3 (ji24)).f1)) ∧ w'.cell? ⟨(ad126.add (((ji24)).toNat * 3)).block, (ad126.add (((ji24)).toNat * 3)).off + 2, none⟩ = some (.string ((rd_T71 l0_3 (ji24)).f2))) (ds := []) #[false, false, false, false, false, false, false, false, false, false, false, false, false, false, false, false, false, false, false, false, false, false, false, false, false, false, false, false, false, false, false, false, false, false, false] (Z24) rfl rfl (bk3 BK127.out (bk5 BK122.out (⟨(cB HB.out hw129_0 :), ⟨(cB HB.out hw129_1 :), (cB HB.out hw129_2 :)⟩⟩))) (fun hHeld => ?_); refine with_tabW spec_BoxOK.tab7 spec_BoxOK.bits7 (fun HT_ HW_ => ?_)
          generalize w32.drew = w33 at BK122 BK127 HB hx129_0 hx129_1 hx129_2 hHeld ⊢
          refine pA 0 55 ?_
          refine pA 2 57 ?_
          refine tA 1 56 ?_
          refine tA 3 58 ?_
          refine pA 4 59 ?_
          refine oA 5 60 (fun K hK => ?_)
          refine goes_ Try.func26 (Z24) rfl #[.int .i64 ((rd_T71 l0_3 x3_2).f0), .int .i64 1, .int .i64 (wrap64 (a0_2 - 1))] (Z102) rfl rfl (Z1) ?_
          with_reducible refine (spec_l01In.calls ((rd_T71 l0_3 x3_2).f0) 1 (wrap64 (a0_2 - 1)) true _ A21.out).mono ?_
          rintro e w' ⟨rfl, ⟨nd, rfl⟩⟩
          refine ⟨_, rfl, ?_⟩
          refine hK.out _ _ (bk3 BK127.out (bk5 BK122.out (⟨(cB HB.out hw129_0 :), ⟨(cB HB.out hw129_1 :), (cB HB.out hw129_2 :)⟩⟩))) (fun hHeld => ?_)
          clear hK K
          refine nB 60 ?_
          refine pA 6 61 ?_
          refine pA 7 62 ?_
          refine pA 8 63 ?_
          refine pA 9 64 ?_
          refine pA 10 65 ?_
          refine pA 11 66 ?_
          refine pA 13 68 ?_
          refine pA 14 69 ?_
          refine pA 18 73 ?_
          refine tA 12 67 ?_
          refine pA 15 70 ?_
          refine pA 16 71 ?_
          refine tA 17 72 ?_
          refine tA 19 74 ?_
          refine pA 20 75 ?_
          refine pA 21 76 ?_
          refine pA 22 77 ?_
          refine pA 23 78 ?_
          refine pU 24 79 ?_
          refine pU 25 80 ?_
          refine pU 26 81 ?_
          refine pU 27 82 ?_
          refine pA 28 83 ?_
          refine pA 29 84 ?_
          refine pU 30 85 ?_
          refine pU 31 86 ?_
          refine pU 32 87 ?_
          refine pU 33 88 ?_
          refine pA 34 89 ?_
          refine done_ (done_of HT_.out (Z24)) ?_
          try go_wp2
          go_ret
          exact ⟨Z84, Z26⟩
         ·rw [if_neg c27] at H
          have c27b0 : decide (((rd_T71 l0_3 x3_2).f0) ≤ ((rd_T71 l0_3 (ji24)).f0)) = false := decide_eq_false c27
          clear c27
          obtain ⟨t130, A34, H⟩ := bindA H
          try dsimp only at H
          by_cases c35 : t130 = true
          ·subst c35
           replace H := ifT H
           by_cases c36 : (((rd_T71 l0_3 x3_2).f2).size : Int) > 4000
           ·rw [if_pos c36] at H
            have c36b0 : decide (4000 < (((rd_T71 l0_3 x3_2).f2).size : Int)) = true := decide_eq_true c36
            have c36b1 : decide (4000 < ((rd_T71 l0_3 x3_2).f2).size) = true := decide_eq_true (Z43)
            clear c36
            obtain rfl := Option.some.inj H
            obtain ⟨hcz37_0, hcz37_1, hcz37_2, hcz37_3, hcz37_4⟩ := bc5 BK122.out
            obtain ⟨hfz37_0, hfz37_1, hfz37_2, hfz37_3, hfz37_4⟩ := bf5 BK122.out
            have p126 : 0 ≤ (x3_2 : Int) := of_decide_eq_true (Z4)
            have q126 : x3_2 < (l0_3.length : Int) := of_decide_eq_true (Z4)
            obtain ⟨ad126, e126, hx126_0, hx126_1, hx126_2⟩ := at_T71 HR0_3.out x3_2 p126 q126
            cases e126
            replace hx126_0 := cB HB.out hx126_0
            replace hx126_1 := cB HB.out hx126_1
            replace hx126_2 := cB HB.out hx126_2
            replace p126 := eq_true p126
            replace q126 := eq_true q126
            try go_wp2_with (first | ((with_reducible refine gate_dst (N := 4) rfl ?_); (try (refine gate_guard (Z102) ?_; dsimp only)); refine bxE 4 #[.int .i64 0, .int .i64 0, .string (⟨#[]⟩ : ByteArray)] 71 ?_; intro gb127 hg w38 hbox hb; have BK127 := Aside0.mk (hbox); have GW127 := Aside0.mk ((szE w hg (Z8))); have GE127 := Aside0.mk ((szE w hg (Z8))); replace HB := Aside0.mk (below_step (Z8) hb); have NB122_127 := Aside0.mk ((nL BK122 hg (Z19))); have NB127_122 := Aside0.mk ((nG BK122 hg (Z19))); replace BK122 := Aside0.mk (kB BK122 (Z19) hb); clear hb hbox hg; have hnb39 := NB127_122.out; have hnc39 := NB122_127.out; obtain ⟨hcz40_0, hcz40_1, hcz40_2⟩ := bc3 BK127.out; obtain ⟨hfz40_0, hfz40_1, hfz40_2⟩ := bf3 BK127.out))
            have n0_ : Aside0 ((((w38.setCell ⟨gb127, 0, none⟩ (.int .i64 ((rd_T71 l0_3 x3_2).f0))).setCell ⟨gb127, 1, none⟩ (.int .i64 ((rd_T71 l0_3 x3_2).f1))).setCell ⟨gb127, 2, none⟩ (.string ((rd_T71 l0_3 x3_2).f2))).heap[gb122]? = some (.cells #[.string a0_0, .int .i64 a0_1, .int .i64 a0_2, .slice (some ad126) l0_3.length c0_3, .slice A0_4 l0_4.length c0_4] 59 (0, 0))) := ⟨Z18⟩
            have n1_ : Aside0 ((((w38.setCell ⟨gb127, 0, none⟩ (.int .i64 ((rd_T71 l0_3 x3_2).f0))).setCell ⟨gb127, 1, none⟩ (.int .i64 ((rd_T71 l0_3 x3_2).f1))).setCell ⟨gb127, 2, none⟩ (.string ((rd_T71 l0_3 x3_2).f2))).heap[gb127]? = some (.cells #[.int .i64 ((rd_T71 l0_3 x3_2).f0), .int .i64 ((rd_T71 l0_3 x3_2).f1), .string ((rd_T71 l0_3 x3_2).f2)] 71 (0, 0))) := ⟨Z9⟩
            have n2_ : Aside0 (Below w.heap.size w (((w38.setCell ⟨gb127, 0, none⟩ (.int .i64 ((rd_T71 l0_3 x3_2).f0))).setCell ⟨gb127, 1, none⟩ (.int .i64 ((rd_T71 l0_3 x3_2).f1))).setCell ⟨gb127, 2, none⟩ (.string ((rd_T71 l0_3 x3_2).f2)))) := ⟨Z26⟩
            (try clear BK122); (try clear BK127); (try clear HB)
            generalize (((w38.setCell ⟨gb127, 0, none⟩ (.int .i64 ((rd_T71 l0_3 x3_2).f0))).setCell ⟨gb127, 1, none⟩ (.int .i64 ((rd_T71 l0_3 x3_2).f1))).setCell ⟨gb127, 2, none⟩ (.string ((rd_T71 l0_3 x3_2).f2))) = w41 at n0_ n1_ n2_ ⊢
            have BK122 := n0_
            have BK127 := n1_
            have HB := n2_
            clear n0_ n1_ n2_
            replace BK122 := Aside0.mk (blk_drew BK122.out)
            replace BK127 := Aside0.mk (blk_drew BK127.out)
            replace HB := Aside0.mk (below_drew1 HB.out)
            have p129 : 0 ≤ ((ji24) : Int) := of_decide_eq_true (Z4)
            have q129 : (ji24) < (l0_3.length : Int) := of_decide_eq_true (Z4)
            obtain ⟨ad129, e129, hx129_0, hx129_1, hx129_2⟩ := at_T71 HR0_3.out (ji24) p129 q129
            have hw129_2 := hx129_2
            have hw129_1 := hx129_1
            have hw129_0 := hx129_0
            obtain rfl : ad126 = ad129 := (by injection e129)
            replace hx129_0 := cB HB.out hx129_0
            replace hx129_1 := cB HB.out hx129_1
            replace hx129_2 := cB HB.out hx129_2
            replace p129 := eq_true p129
            replace q129 := eq_true q129
            refine start_ (n := 35) (S := fun w' => w'.cell? ⟨gb127, 0, none⟩ = some (.int .i64 ((rd_T71 l0_3 x3_2).f0)) ∧ w'.cell? ⟨gb127, 1, none⟩ = some (.int .i64 ((rd_T71 l0_3 x3_2).f1)) ∧ w'.cell? ⟨gb127, 2, none⟩ = some (.string ((rd_T71 l0_3 x3_2).f2)) ∧ w'.cell? ⟨gb122, 0, none⟩ = some (.string a0_0) ∧ w'.cell? ⟨gb122, 1, none⟩ = some (.int .i64 a0_1) ∧ w'.cell? ⟨gb122, 2, none⟩ = some (.int .i64 a0_2) ∧ w'.cell? ⟨gb122, 3, none⟩ = some (.slice (some ad126) l0_3.length c0_3) ∧ w'.cell? ⟨gb122, 4, none⟩ = some (.slice A0_4 l0_4.length c0_4) ∧ w'.cell? (ad126.add (((ji24)).toNat * 3)) = some (.int .i64 ((rd_T71 l0_3 (ji24)).f0)) ∧ w'.cell? ⟨(ad126.add (((ji24)).toNat * 3)).block, (ad126.add (((ji24)).toNat * 3)).off + 1, none⟩ = some (.int .i64 ((rd_T71 l0_3 (ji24)).f1)) ∧ w'.cell? ⟨(ad126.add (((ji24)).toNat * 3)).block, (ad126.add (((ji24)).toNat * 3)).off + 2, none⟩ = some (.string ((rd_T71 l0_3 (ji24)).f2))) (ds := []) #[false, false, false, false, false, false, false, false, false, false, false, false, false, false, false, false, false, false, false, false, false, false, false, false, false, false, false, false, false, false, false, false, false, false, false] (Z24) rfl rfl (bk3 BK127.out (bk5 BK122.out (⟨(cB HB.out hw129_0 :), ⟨(cB HB.out hw129_1 :), (cB HB.out hw129_2 :)⟩⟩))) (fun hHeld => ?_); refine with_tabW spec_BoxOK.tab7 spec_BoxOK.bits7 (fun HT_ HW_ => ?_)
            generalize w41.drew = w42 at BK122 BK127 HB hx129_0 hx129_1 hx129_2 hHeld ⊢
            refine pA 0 55 ?_
            refine pA 2 57 ?_
            refine tA 1 56 ?_
            refine tA 3 58 ?_
            refine pA 4 59 ?_
            refine oA 5 60 (fun K hK => ?_)
            refine goes_ Try.func26 (Z24) rfl #[.int .i64 ((rd_T71 l0_3 x3_2).f0), .int .i64 1, .int .i64 (wrap64 (a0_2 - 1))] (Z102) rfl rfl (Z1) ?_
            with_reducible refine (spec_l01In.calls ((rd_T71 l0_3 x3_2).f0) 1 (wrap64 (a0_2 - 1)) true _ A21.out).mono ?_
            rintro e w' ⟨rfl, ⟨nd, rfl⟩⟩
            refine ⟨_, rfl, ?_⟩
            refine hK.out _ _ (bk3 BK127.out (bk5 BK122.out (⟨(cB HB.out hw129_0 :), ⟨(cB HB.out hw129_1 :), (cB HB.out hw129_2 :)⟩⟩))) (fun hHeld => ?_)
            clear hK K
            refine nB 60 ?_
            refine pA 6 61 ?_
            refine pA 7 62 ?_
            refine pA 8 63 ?_
            refine pA 9 64 ?_
            refine pA 10 65 ?_
            refine pA 11 66 ?_
            refine pA 13 68 ?_
            refine pA 14 69 ?_
            refine pA 18 73 ?_
            refine tA 12 67 ?_
            refine pA 15 70 ?_
            refine pA 16 71 ?_
            refine tA 17 72 ?_
            refine tA 19 74 ?_
            refine pA 20 75 ?_
            refine pA 21 76 ?_
            refine pA 22 77 ?_
            refine pA 23 78 ?_
            refine pA 24 79 ?_
            refine tA 25 80 ?_
            refine oA 26 81 (fun K hK => ?_)
            refine goes_ Try.func26 (Z24) rfl #[.int .i64 ((rd_T71 l0_3 x3_2).f1), .int .i64 0, .int .i64 31] (Z102) rfl rfl (Z1) ?_
            with_reducible refine (spec_l01In.calls ((rd_T71 l0_3 x3_2).f1) 0 31 true _ A34.out).mono ?_
            rintro e w' ⟨rfl, ⟨nd, rfl⟩⟩
            refine ⟨_, rfl, ?_⟩
            refine hK.out _ _ (bk3 BK127.out (bk5 BK122.out (⟨(cB HB.out hw129_0 :), ⟨(cB HB.out hw129_1 :), (cB HB.out hw129_2 :)⟩⟩))) (fun hHeld => ?_)
            clear hK K
            refine nB 81 ?_
            refine pA 27 82 ?_
            refine pA 28 83 ?_
            refine pA 29 84 ?_
            refine pA 30 85 ?_
            refine tA 31 86 ?_
            refine pA 32 87 ?_
            refine pA 33 88 ?_
            refine pA 34 89 ?_
            refine done_ (done_of HT_.out (Z24)) ?_
            try go_wp2
            go_ret
            exact ⟨Z84, Z26⟩
           ·rw [if_neg c36] at H
            have c36b0 : decide (4000 < (((rd_T71 l0_3 x3_2).f2).size : Int)) = false := decide_eq_false c36
            have c36b1 : decide (4000 < ((rd_T71 l0_3 x3_2).f2).size) = false := decide_eq_false (Z43)
            clear c36
            have H' := Aside0.mk H
            clear H
            obtain ⟨hcz43_0, hcz43_1, hcz43_2, hcz43_3, hcz43_4⟩ := bc5 BK122.out
            obtain ⟨hfz43_0, hfz43_1, hfz43_2, hfz43_3, hfz43_4⟩ := bf5 BK122.out
            have p126 : 0 ≤ (x3_2 : Int) := of_decide_eq_true (Z4)
            have q126 : x3_2 < (l0_3.length : Int) := of_decide_eq_true (Z4)
            obtain ⟨ad126, e126, hx126_0, hx126_1, hx126_2⟩ := at_T71 HR0_3.out x3_2 p126 q126
            cases e126
            replace hx126_0 := cB HB.out hx126_0
            replace hx126_1 := cB HB.out hx126_1
            replace hx126_2 := cB HB.out hx126_2
            replace p126 := eq_true p126
            replace q126 := eq_true q126
            try go_wp2_with (first | ((with_reducible refine gate_dst (N := 4) rfl ?_); (try (refine gate_guard (Z102) ?_; dsimp only)); refine bxE 4 #[.int .i64 0, .int .i64 0, .string (⟨#[]⟩ : ByteArray)] 71 ?_; intro gb127 hg w44 hbox hb; have BK127 := Aside0.mk (hbox); have GW127 := Aside0.mk ((szE w hg (Z8))); have GE127 := Aside0.mk ((szE w hg (Z8))); replace HB := Aside0.mk (below_step (Z8) hb); have NB122_127 := Aside0.mk ((nL BK122 hg (Z19))); have NB127_122 := Aside0.mk ((nG BK122 hg (Z19))); replace BK122 := Aside0.mk (kB BK122 (Z19) hb); clear hb hbox hg; have hnb45 := NB127_122.out; have hnc45 := NB122_127.out; obtain ⟨hcz46_0, hcz46_1, hcz46_2⟩ := bc3 BK127.out; obtain ⟨hfz46_0, hfz46_1, hfz46_2⟩ := bf3 BK127.out))
            have n0_ : Aside0 ((((w44.setCell ⟨gb127, 0, none⟩ (.int .i64 ((rd_T71 l0_3 x3_2).f0))).setCell ⟨gb127, 1, none⟩ (.int .i64 ((rd_T71 l0_3 x3_2).f1))).setCell ⟨gb127, 2, none⟩ (.string ((rd_T71 l0_3 x3_2).f2))).heap[gb122]? = some (.cells #[.string a0_0, .int .i64 a0_1, .int .i64 a0_2, .slice (some ad126) l0_3.length c0_3, .slice A0_4 l0_4.length c0_4] 59 (0, 0))) := ⟨Z18⟩
            have n1_ : Aside0 ((((w44.setCell ⟨gb127, 0, none⟩ (.int .i64 ((rd_T71 l0_3 x3_2).f0))).setCell ⟨gb127, 1, none⟩ (.int .i64 ((rd_T71 l0_3 x3_2).f1))).setCell ⟨gb127, 2, none⟩ (.string ((rd_T71 l0_3 x3_2).f2))).heap[gb127]? = some (.cells #[.int .i64 ((rd_T71 l0_3 x3_2).f0), .int .i64 ((rd_T71 l0_3 x3_2).f1), .string ((rd_T71 l0_3 x3_2).f2)] 71 (0, 0))) := ⟨Z9⟩
            have n2_ : Aside0 (Below w.heap.size w (((w44.setCell ⟨gb127, 0, none⟩ (.int .i64 ((rd_T71 l0_3 x3_2).f0))).setCell ⟨gb127, 1, none⟩ (.int .i64 ((rd_T71 l0_3 x3_2).f1))).setCell ⟨gb127, 2, none⟩ (.string ((rd_T71 l0_3 x3_2).f2)))) := ⟨Z26⟩
            (try clear BK122); (try clear BK127); (try clear HB)
            generalize (((w44.setCell ⟨gb127, 0, none⟩ (.int .i64 ((rd_T71 l0_3 x3_2).f0))).setCell ⟨gb127, 1, none⟩ (.int .i64 ((rd_T71 l0_3 x3_2).f1))).setCell ⟨gb127, 2, none⟩ (.string ((rd_T71 l0_3 x3_2).f2))) = w47 at n0_ n1_ n2_ ⊢
            have BK122 := n0_
            have BK127 := n1_
            have HB := n2_
            clear n0_ n1_ n2_
            replace BK122 := Aside0.mk (blk_drew BK122.out)
            replace BK127 := Aside0.mk (blk_drew BK127.out)
            replace HB := Aside0.mk (below_drew1 HB.out)
            have p129 : 0 ≤ ((ji24) : Int) := of_decide_eq_true (Z4)
            have q129 : (ji24) < (l0_3.length : Int) := of_decide_eq_true (Z4)
            obtain ⟨ad129, e129, hx129_0, hx129_1, hx129_2⟩ := at_T71 HR0_3.out (ji24) p129 q129
            have hw129_2 := hx129_2
            have hw129_1 := hx129_1
            have hw129_0 := hx129_0
            obtain rfl : ad126 = ad129 := (by injection e129)
            replace hx129_0 := cB HB.out hx129_0
            replace hx129_1 := cB HB.out hx129_1
            replace hx129_2 := cB HB.out hx129_2
            replace p129 := eq_true p129
            replace q129 := eq_true q129
            refine start_ (n := 35) (S := fun w' => w'.cell? ⟨gb127, 0, none⟩ = some (.int .i64 ((rd_T71 l0_3 x3_2).f0)) ∧ w'.cell? ⟨gb127, 1, none⟩ = some (.int .i64 ((rd_T71 l0_3 x3_2).f1)) ∧ w'.cell? ⟨gb127, 2, none⟩ = some (.string ((rd_T71 l0_3 x3_2).f2)) ∧ w'.cell? ⟨gb122, 0, none⟩ = some (.string a0_0) ∧ w'.cell? ⟨gb122, 1, none⟩ = some (.int .i64 a0_1) ∧ w'.cell? ⟨gb122, 2, none⟩ = some (.int .i64 a0_2) ∧ w'.cell? ⟨gb122, 3, none⟩ = some (.slice (some ad126) l0_3.length c0_3) ∧ w'.cell? ⟨gb122, 4, none⟩ = some (.slice A0_4 l0_4.length c0_4) ∧ w'.cell? (ad126.add (((ji24)).toNat * 3)) = some (.int .i64 ((rd_T71 l0_3 (ji24)).f0)) ∧ w'.cell? ⟨(ad126.add (((ji24)).toNat * 3)).block, (ad126.add (((ji24)).toNat * 3)).off + 1, none⟩ = some (.int .i64 ((rd_T71 l0_3 (ji24)).f1)) ∧ w'.cell? ⟨(ad126.add (((ji24)).toNat * 3)).block, (ad126.add (((ji24)).toNat * 3)).off + 2, none⟩ = some (.string ((rd_T71 l0_3 (ji24)).f2))) (ds := []) #[false, false, false, false, false, false, false, false, false, false, false, false, false, false, false, false, false, false, false, false, false, false, false, false, false, false, false, false, false, false, false, false, false, false, false] (Z24) rfl rfl (bk3 BK127.out (bk5 BK122.out (⟨(cB HB.out hw129_0 :), ⟨(cB HB.out hw129_1 :), (cB HB.out hw129_2 :)⟩⟩))) (fun hHeld => ?_); refine with_tabW spec_BoxOK.tab7 spec_BoxOK.bits7 (fun HT_ HW_ => ?_)
            generalize w47.drew = w48 at BK122 BK127 HB hx129_0 hx129_1 hx129_2 hHeld ⊢
            refine pA 0 55 ?_
            refine pA 2 57 ?_
            refine tA 1 56 ?_
            refine tA 3 58 ?_
            refine pA 4 59 ?_
            refine oA 5 60 (fun K hK => ?_)
            refine goes_ Try.func26 (Z24) rfl #[.int .i64 ((rd_T71 l0_3 x3_2).f0), .int .i64 1, .int .i64 (wrap64 (a0_2 - 1))] (Z102) rfl rfl (Z1) ?_
            with_reducible refine (spec_l01In.calls ((rd_T71 l0_3 x3_2).f0) 1 (wrap64 (a0_2 - 1)) true _ A21.out).mono ?_
            rintro e w' ⟨rfl, ⟨nd, rfl⟩⟩
            refine ⟨_, rfl, ?_⟩
            refine hK.out _ _ (bk3 BK127.out (bk5 BK122.out (⟨(cB HB.out hw129_0 :), ⟨(cB HB.out hw129_1 :), (cB HB.out hw129_2 :)⟩⟩))) (fun hHeld => ?_)
            clear hK K
            refine nB 60 ?_
            refine pA 6 61 ?_
            refine pA 7 62 ?_
            refine pA 8 63 ?_
            refine pA 9 64 ?_
            refine pA 10 65 ?_
            refine pA 11 66 ?_
            refine pA 13 68 ?_
            refine pA 14 69 ?_
            refine pA 18 73 ?_
            refine tA 12 67 ?_
            refine pA 15 70 ?_
            refine pA 16 71 ?_
            refine tA 17 72 ?_
            refine tA 19 74 ?_
            refine pA 20 75 ?_
            refine pA 21 76 ?_
            refine pA 22 77 ?_
            refine pA 23 78 ?_
            refine pA 24 79 ?_
            refine tA 25 80 ?_
            refine oA 26 81 (fun K hK => ?_)
            refine goes_ Try.func26 (Z24) rfl #[.int .i64 ((rd_T71 l0_3 x3_2).f1), .int .i64 0, .int .i64 31] (Z102) rfl rfl (Z1) ?_
            with_reducible refine (spec_l01In.calls ((rd_T71 l0_3 x3_2).f1) 0 31 true _ A34.out).mono ?_
            rintro e w' ⟨rfl, ⟨nd, rfl⟩⟩
            refine ⟨_, rfl, ?_⟩
            refine hK.out _ _ (bk3 BK127.out (bk5 BK122.out (⟨(cB HB.out hw129_0 :), ⟨(cB HB.out hw129_1 :), (cB HB.out hw129_2 :)⟩⟩))) (fun hHeld => ?_)
            clear hK K
            refine nB 81 ?_
            refine pA 27 82 ?_
            refine pA 28 83 ?_
            refine pA 29 84 ?_
            refine pA 30 85 ?_
            refine tA 31 86 ?_
            refine pA 32 87 ?_
            refine pA 33 88 ?_
            refine pA 34 89 ?_
            refine done_ (done_of HT_.out (Z24)) ?_
            try go_wp2
            go_roundg k2
            case measure => have := HJ1.out; have := HK2.out; omega
            case rel => exact ⟨(wrap64 (x3_2 + 1)), (Z3), H', ⟨Z126⟩, ⟨Z19⟩, ⟨Z26⟩⟩
          ·replace c35 := Bool.eq_false_iff.mpr c35
           subst c35
           replace H := ifF H
           obtain rfl := Option.some.inj H
           obtain ⟨hcz49_0, hcz49_1, hcz49_2, hcz49_3, hcz49_4⟩ := bc5 BK122.out
           obtain ⟨hfz49_0, hfz49_1, hfz49_2, hfz49_3, hfz49_4⟩ := bf5 BK122.out
           have p126 : 0 ≤ (x3_2 : Int) := of_decide_eq_true (Z4)
           have q126 : x3_2 < (l0_3.length : Int) := of_decide_eq_true (Z4)
           obtain ⟨ad126, e126, hx126_0, hx126_1, hx126_2⟩ := at_T71 HR0_3.out x3_2 p126 q126
           cases e126
           replace hx126_0 := cB HB.out hx126_0
           replace hx126_1 := cB HB.out hx126_1
           replace hx126_2 := cB HB.out hx126_2
           replace p126 := eq_true p126
           replace q126 := eq_true q126
           try go_wp2_with (first | ((with_reducible refine gate_dst (N := 4) rfl ?_); (try (refine gate_guard (Z102) ?_; dsimp only)); refine bxE 4 #[.int .i64 0, .int .i64 0, .string (⟨#[]⟩ : ByteArray)] 71 ?_; intro gb127 hg w50 hbox hb; have BK127 := Aside0.mk (hbox); have GW127 := Aside0.mk ((szE w hg (Z8))); have GE127 := Aside0.mk ((szE w hg (Z8))); replace HB := Aside0.mk (below_step (Z8) hb); have NB122_127 := Aside0.mk ((nL BK122 hg (Z19))); have NB127_122 := Aside0.mk ((nG BK122 hg (Z19))); replace BK122 := Aside0.mk (kB BK122 (Z19) hb); clear hb hbox hg; have hnb51 := NB127_122.out; have hnc51 := NB122_127.out; obtain ⟨hcz52_0, hcz52_1, hcz52_2⟩ := bc3 BK127.out; obtain ⟨hfz52_0, hfz52_1, hfz52_2⟩ := bf3 BK127.out))
           have n0_ : Aside0 ((((w50.setCell ⟨gb127, 0, none⟩ (.int .i64 ((rd_T71 l0_3 x3_2).f0))).setCell ⟨gb127, 1, none⟩ (.int .i64 ((rd_T71 l0_3 x3_2).f1))).setCell ⟨gb127, 2, none⟩ (.string ((rd_T71 l0_3 x3_2).f2))).heap[gb122]? = some (.cells #[.string a0_0, .int .i64 a0_1, .int .i64 a0_2, .slice (some ad126) l0_3.length c0_3, .slice A0_4 l0_4.length c0_4] 59 (0, 0))) := ⟨Z18⟩
           have n1_ : Aside0 ((((w50.setCell ⟨gb127, 0, none⟩ (.int .i64 ((rd_T71 l0_3 x3_2).f0))).setCell ⟨gb127, 1, none⟩ (.int .i64 ((rd_T71 l0_3 x3_2).f1))).setCell ⟨gb127, 2, none⟩ (.string ((rd_T71 l0_3 x3_2).f2))).heap[gb127]? = some (.cells #[.int .i64 ((rd_T71 l0_3 x3_2).f0), .int .i64 ((rd_T71 l0_3 x3_2).f1), .string ((rd_T71 l0_3 x3_2).f2)] 71 (0, 0))) := ⟨Z9⟩
           have n2_ : Aside0 (Below w.heap.size w (((w50.setCell ⟨gb127, 0, none⟩ (.int .i64 ((rd_T71 l0_3 x3_2).f0))).setCell ⟨gb127, 1, none⟩ (.int .i64 ((rd_T71 l0_3 x3_2).f1))).setCell ⟨gb127, 2, none⟩ (.string ((rd_T71 l0_3 x3_2).f2)))) := ⟨Z26⟩
           (try clear BK122); (try clear BK127); (try clear HB)
           generalize (((w50.setCell ⟨gb127, 0, none⟩ (.int .i64 ((rd_T71 l0_3 x3_2).f0))).setCell ⟨gb127, 1, none⟩ (.int .i64 ((rd_T71 l0_3 x3_2).f1))).setCell ⟨gb127, 2, none⟩ (.string ((rd_T71 l0_3 x3_2).f2))) = w53 at n0_ n1_ n2_ ⊢
           have BK122 := n0_
           have BK127 := n1_
           have HB := n2_
           clear n0_ n1_ n2_
           replace BK122 := Aside0.mk (blk_drew BK122.out)
           replace BK127 := Aside0.mk (blk_drew BK127.out)
           replace HB := Aside0.mk (below_drew1 HB.out)
           have p129 : 0 ≤ ((ji24) : Int) := of_decide_eq_true (Z4)
           have q129 : (ji24) < (l0_3.length : Int) := of_decide_eq_true (Z4)
           obtain ⟨ad129, e129, hx129_0, hx129_1, hx129_2⟩ := at_T71 HR0_3.out (ji24) p129 q129
           have hw129_2 := hx129_2
           have hw129_1 := hx129_1
           have hw129_0 := hx129_0
           obtain rfl : ad126 = ad129 := (by injection e129)
           replace hx129_0 := cB HB.out hx129_0
           replace hx129_1 := cB HB.out hx129_1
           replace hx129_2 := cB HB.out hx129_2
           replace p129 := eq_true p129
           replace q129 := eq_true q129
           refine start_ (n := 35) (S := fun w' => w'.cell? ⟨gb127, 0, none⟩ = some (.int .i64 ((rd_T71 l0_3 x3_2).f0)) ∧ w'.cell? ⟨gb127, 1, none⟩ = some (.int .i64 ((rd_T71 l0_3 x3_2).f1)) ∧ w'.cell? ⟨gb127, 2, none⟩ = some (.string ((rd_T71 l0_3 x3_2).f2)) ∧ w'.cell? ⟨gb122, 0, none⟩ = some (.string a0_0) ∧ w'.cell? ⟨gb122, 1, none⟩ = some (.int .i64 a0_1) ∧ w'.cell? ⟨gb122, 2, none⟩ = some (.int .i64 a0_2) ∧ w'.cell? ⟨gb122, 3, none⟩ = some (.slice (some ad126) l0_3.length c0_3) ∧ w'.cell? ⟨gb122, 4, none⟩ = some (.slice A0_4 l0_4.length c0_4) ∧ w'.cell? (ad126.add (((ji24)).toNat * 3)) = some (.int .i64 ((rd_T71 l0_3 (ji24)).f0)) ∧ w'.cell? ⟨(ad126.add (((ji24)).toNat * 3)).block, (ad126.add (((ji24)).toNat * 3)).off + 1, none⟩ = some (.int .i64 ((rd_T71 l0_3 (ji24)).f1)) ∧ w'.cell? ⟨(ad126.add (((ji24)).toNat * 3)).block, (ad126.add (((ji24)).toNat * 3)).off + 2, none⟩ = some (.string ((rd_T71 l0_3 (ji24)).f2))) (ds := []) #[false, false, false, false, false, false, false, false, false, false, false, false, false, false, false, false, false, false, false, false, false, false, false, false, false, false, false, false, false, false, false, false, false, false, false] (Z24) rfl rfl (bk3 BK127.out (bk5 BK122.out (⟨(cB HB.out hw129_0 :), ⟨(cB HB.out hw129_1 :), (cB HB.out hw129_2 :)⟩⟩))) (fun hHeld => ?_); refine with_tabW spec_BoxOK.tab7 spec_BoxOK.bits7 (fun HT_ HW_ => ?_)
           generalize w53.drew = w54 at BK122 BK127 HB hx129_0 hx129_1 hx129_2 hHeld ⊢
           refine pA 0 55 ?_
           refine pA 2 57 ?_
           refine tA 1 56 ?_
           refine tA 3 58 ?_
           refine pA 4 59 ?_
           refine oA 5 60 (fun K hK => ?_)
           refine goes_ Try.func26 (Z24) rfl #[.int .i64 ((rd_T71 l0_3 x3_2).f0), .int .i64 1, .int .i64 (wrap64 (a0_2 - 1))] (Z102) rfl rfl (Z1) ?_
           with_reducible refine (spec_l01In.calls ((rd_T71 l0_3 x3_2).f0) 1 (wrap64 (a0_2 - 1)) true _ A21.out).mono ?_
           rintro e w' ⟨rfl, ⟨nd, rfl⟩⟩
           refine ⟨_, rfl, ?_⟩
           refine hK.out _ _ (bk3 BK127.out (bk5 BK122.out (⟨(cB HB.out hw129_0 :), ⟨(cB HB.out hw129_1 :), (cB HB.out hw129_2 :)⟩⟩))) (fun hHeld => ?_)
           clear hK K
           refine nB 60 ?_
           refine pA 6 61 ?_
           refine pA 7 62 ?_
           refine pA 8 63 ?_
           refine pA 9 64 ?_
           refine pA 10 65 ?_
           refine pA 11 66 ?_
           refine pA 13 68 ?_
           refine pA 14 69 ?_
           refine pA 18 73 ?_
           refine tA 12 67 ?_
           refine pA 15 70 ?_
           refine pA 16 71 ?_
           refine tA 17 72 ?_
           refine tA 19 74 ?_
           refine pA 20 75 ?_
           refine pA 21 76 ?_
           refine pA 22 77 ?_
           refine pA 23 78 ?_
           refine pA 24 79 ?_
           refine tA 25 80 ?_
           refine oA 26 81 (fun K hK => ?_)
           refine goes_ Try.func26 (Z24) rfl #[.int .i64 ((rd_T71 l0_3 x3_2).f1), .int .i64 0, .int .i64 31] (Z102) rfl rfl (Z1) ?_
           with_reducible refine (spec_l01In.calls ((rd_T71 l0_3 x3_2).f1) 0 31 false _ A34.out).mono ?_
           rintro e w' ⟨rfl, ⟨nd, rfl⟩⟩
           refine ⟨_, rfl, ?_⟩
           refine hK.out _ _ (bk3 BK127.out (bk5 BK122.out (⟨(cB HB.out hw129_0 :), ⟨(cB HB.out hw129_1 :), (cB HB.out hw129_2 :)⟩⟩))) (fun hHeld => ?_)
           clear hK K
           refine nB 81 ?_
           refine pA 27 82 ?_
           refine pA 28 83 ?_
           refine pA 29 84 ?_
           refine pU 30 85 ?_
           refine pU 31 86 ?_
           refine pU 32 87 ?_
           refine pU 33 88 ?_
           refine pA 34 89 ?_
           refine done_ (done_of HT_.out (Z24)) ?_
           try go_wp2
           go_ret
           exact ⟨Z84, Z26⟩
        ·rw [if_neg c23] at H
         have c23b0 : decide (0 < x3_2) = false := decide_eq_false c23
         clear c23
         obtain ⟨t131, A55, H⟩ := bindA H
         try dsimp only at H
         by_cases c56 : t131 = true
         ·subst c56
          replace H := ifT H
          by_cases c57 : (((rd_T71 l0_3 x3_2).f2).size : Int) > 4000
          ·rw [if_pos c57] at H
           have c57b0 : decide (4000 < (((rd_T71 l0_3 x3_2).f2).size : Int)) = true := decide_eq_true c57
           have c57b1 : decide (4000 < ((rd_T71 l0_3 x3_2).f2).size) = true := decide_eq_true (Z43)
           clear c57
           obtain rfl := Option.some.inj H
           obtain ⟨hcz58_0, hcz58_1, hcz58_2, hcz58_3, hcz58_4⟩ := bc5 BK122.out
           obtain ⟨hfz58_0, hfz58_1, hfz58_2, hfz58_3, hfz58_4⟩ := bf5 BK122.out
           have p126 : 0 ≤ (x3_2 : Int) := of_decide_eq_true (Z4)
           have q126 : x3_2 < (l0_3.length : Int) := of_decide_eq_true (Z4)
           obtain ⟨ad126, e126, hx126_0, hx126_1, hx126_2⟩ := at_T71 HR0_3.out x3_2 p126 q126
           cases e126
           replace hx126_0 := cB HB.out hx126_0
           replace hx126_1 := cB HB.out hx126_1
           replace hx126_2 := cB HB.out hx126_2
           replace p126 := eq_true p126
           replace q126 := eq_true q126
           try go_wp2_with (first | ((with_reducible refine gate_dst (N := 4) rfl ?_); (try (refine gate_guard (Z102) ?_; dsimp only)); refine bxE 4 #[.int .i64 0, .int .i64 0, .string (⟨#[]⟩ : ByteArray)] 71 ?_; intro gb127 hg w59 hbox hb; have BK127 := Aside0.mk (hbox); have GW127 := Aside0.mk ((szE w hg (Z8))); have GE127 := Aside0.mk ((szE w hg (Z8))); replace HB := Aside0.mk (below_step (Z8) hb); have NB122_127 := Aside0.mk ((nL BK122 hg (Z19))); have NB127_122 := Aside0.mk ((nG BK122 hg (Z19))); replace BK122 := Aside0.mk (kB BK122 (Z19) hb); clear hb hbox hg; have hnb60 := NB127_122.out; have hnc60 := NB122_127.out; obtain ⟨hcz61_0, hcz61_1, hcz61_2⟩ := bc3 BK127.out; obtain ⟨hfz61_0, hfz61_1, hfz61_2⟩ := bf3 BK127.out))
           have n0_ : Aside0 ((((w59.setCell ⟨gb127, 0, none⟩ (.int .i64 ((rd_T71 l0_3 x3_2).f0))).setCell ⟨gb127, 1, none⟩ (.int .i64 ((rd_T71 l0_3 x3_2).f1))).setCell ⟨gb127, 2, none⟩ (.string ((rd_T71 l0_3 x3_2).f2))).heap[gb122]? = some (.cells #[.string a0_0, .int .i64 a0_1, .int .i64 a0_2, .slice (some ad126) l0_3.length c0_3, .slice A0_4 l0_4.length c0_4] 59 (0, 0))) := ⟨Z18⟩
           have n1_ : Aside0 ((((w59.setCell ⟨gb127, 0, none⟩ (.int .i64 ((rd_T71 l0_3 x3_2).f0))).setCell ⟨gb127, 1, none⟩ (.int .i64 ((rd_T71 l0_3 x3_2).f1))).setCell ⟨gb127, 2, none⟩ (.string ((rd_T71 l0_3 x3_2).f2))).heap[gb127]? = some (.cells #[.int .i64 ((rd_T71 l0_3 x3_2).f0), .int .i64 ((rd_T71 l0_3 x3_2).f1), .string ((rd_T71 l0_3 x3_2).f2)] 71 (0, 0))) := ⟨Z9⟩
           have n2_ : Aside0 (Below w.heap.size w (((w59.setCell ⟨gb127, 0, none⟩ (.int .i64 ((rd_T71 l0_3 x3_2).f0))).setCell ⟨gb127, 1, none⟩ (.int .i64 ((rd_T71 l0_3 x3_2).f1))).setCell ⟨gb127, 2, none⟩ (.string ((rd_T71 l0_3 x3_2).f2)))) := ⟨Z26⟩
           (try clear BK122); (try clear BK127); (try clear HB)
           generalize (((w59.setCell ⟨gb127, 0, none⟩ (.int .i64 ((rd_T71 l0_3 x3_2).f0))).setCell ⟨gb127, 1, none⟩ (.int .i64 ((rd_T71 l0_3 x3_2).f1))).setCell ⟨gb127, 2, none⟩ (.string ((rd_T71 l0_3 x3_2).f2))) = w62 at n0_ n1_ n2_ ⊢
           have BK122 := n0_
           have BK127 := n1_
           have HB := n2_
           clear n0_ n1_ n2_
           replace BK122 := Aside0.mk (blk_drew BK122.out)
           replace BK127 := Aside0.mk (blk_drew BK127.out)
           replace HB := Aside0.mk (below_drew1 HB.out)
           refine start_ (n := 35) (S := fun w' => w'.cell? ⟨gb127, 0, none⟩ = some (.int .i64 ((rd_T71 l0_3 x3_2).f0)) ∧ w'.cell? ⟨gb127, 1, none⟩ = some (.int .i64 ((rd_T71 l0_3 x3_2).f1)) ∧ w'.cell? ⟨gb127, 2, none⟩ = some (.string ((rd_T71 l0_3 x3_2).f2)) ∧ w'.cell? ⟨gb122, 0, none⟩ = some (.string a0_0) ∧ w'.cell? ⟨gb122, 1, none⟩ = some (.int .i64 a0_1) ∧ w'.cell? ⟨gb122, 2, none⟩ = some (.int .i64 a0_2) ∧ w'.cell? ⟨gb122, 3, none⟩ = some (.slice (some ad126) l0_3.length c0_3) ∧ w'.cell? ⟨gb122, 4, none⟩ = some (.slice A0_4 l0_4.length c0_4)) (ds := []) #[false, false, false, false, false, false, false, false, false, false, false, false, false, false, false, false, false, false, false, false, false, false, false, false, false, false, false, false, false, false, false, false, false, false, false] (Z24) rfl rfl (bk3 BK127.out (bc5 BK122.out)) (fun hHeld => ?_); refine with_tabW spec_BoxOK.tab7 spec_BoxOK.bits7 (fun HT_ HW_ => ?_)
           generalize w62.drew = w63 at BK122 BK127 HB hHeld ⊢
           refine pA 0 55 ?_
           refine pA 2 57 ?_
           refine tA 1 56 ?_
           refine tA 3 58 ?_
           refine pA 4 59 ?_
           refine oA 5 60 (fun K hK => ?_)
           refine goes_ Try.func26 (Z24) rfl #[.int .i64 ((rd_T71 l0_3 x3_2).f0), .int .i64 1, .int .i64 (wrap64 (a0_2 - 1))] (Z102) rfl rfl (Z1) ?_
           with_reducible refine (spec_l01In.calls ((rd_T71 l0_3 x3_2).f0) 1 (wrap64 (a0_2 - 1)) true _ A21.out).mono ?_
           rintro e w' ⟨rfl, ⟨nd, rfl⟩⟩
           refine ⟨_, rfl, ?_⟩
           refine hK.out _ _ (bk3 BK127.out (bc5 BK122.out)) (fun hHeld => ?_)
           clear hK K
           refine nB 60 ?_
           refine pA 6 61 ?_
           refine pA 7 62 ?_
           refine pA 8 63 ?_
           refine pA 9 64 ?_
           refine pA 10 65 ?_
           refine pU 11 66 ?_
           refine pU 12 67 ?_
           refine pU 13 68 ?_
           refine pU 14 69 ?_
           refine pU 15 70 ?_
           refine pU 16 71 ?_
           refine pU 17 72 ?_
           refine pU 18 73 ?_
           refine pU 19 74 ?_
           refine pU 20 75 ?_
           refine pA 21 76 ?_
           refine pA 22 77 ?_
           refine pA 23 78 ?_
           refine pA 24 79 ?_
           refine tA 25 80 ?_
           refine oA 26 81 (fun K hK => ?_)
           refine goes_ Try.func26 (Z24) rfl #[.int .i64 ((rd_T71 l0_3 x3_2).f1), .int .i64 0, .int .i64 31] (Z102) rfl rfl (Z1) ?_
           with_reducible refine (spec_l01In.calls ((rd_T71 l0_3 x3_2).f1) 0 31 true _ A55.out).mono ?_
           rintro e w' ⟨rfl, ⟨nd, rfl⟩⟩
           refine ⟨_, rfl, ?_⟩
           refine hK.out _ _ (bk3 BK127.out (bc5 BK122.out)) (fun hHeld => ?_)
           clear hK K
           refine nB 81 ?_
           refine pA 27 82 ?_
           refine pA 28 83 ?_
           refine pA 29 84 ?_
           refine pA 30 85 ?_
           refine tA 31 86 ?_
           refine pA 32 87 ?_
           refine pA 33 88 ?_
           refine pA 34 89 ?_
           refine done_ (done_of HT_.out (Z24)) ?_
           try go_wp2
           go_ret
           exact ⟨Z2, Z26⟩
          ·rw [if_neg c57] at H
           have c57b0 : decide (4000 < (((rd_T71 l0_3 x3_2).f2).size : Int)) = false := decide_eq_false c57
           have c57b1 : decide (4000 < ((rd_T71 l0_3 x3_2).f2).size) = false := decide_eq_false (Z43)
           clear c57
           have H' := Aside0.mk H
           clear H
           obtain ⟨hcz64_0, hcz64_1, hcz64_2, hcz64_3, hcz64_4⟩ := bc5 BK122.out
           obtain ⟨hfz64_0, hfz64_1, hfz64_2, hfz64_3, hfz64_4⟩ := bf5 BK122.out
           have p126 : 0 ≤ (x3_2 : Int) := of_decide_eq_true (Z4)
           have q126 : x3_2 < (l0_3.length : Int) := of_decide_eq_true (Z4)
           obtain ⟨ad126, e126, hx126_0, hx126_1, hx126_2⟩ := at_T71 HR0_3.out x3_2 p126 q126
           cases e126
           replace hx126_0 := cB HB.out hx126_0
           replace hx126_1 := cB HB.out hx126_1
           replace hx126_2 := cB HB.out hx126_2
           replace p126 := eq_true p126
           replace q126 := eq_true q126
           try go_wp2_with (first | ((with_reducible refine gate_dst (N := 4) rfl ?_); (try (refine gate_guard (Z102) ?_; dsimp only)); refine bxE 4 #[.int .i64 0, .int .i64 0, .string (⟨#[]⟩ : ByteArray)] 71 ?_; intro gb127 hg w65 hbox hb; have BK127 := Aside0.mk (hbox); have GW127 := Aside0.mk ((szE w hg (Z8))); have GE127 := Aside0.mk ((szE w hg (Z8))); replace HB := Aside0.mk (below_step (Z8) hb); have NB122_127 := Aside0.mk ((nL BK122 hg (Z19))); have NB127_122 := Aside0.mk ((nG BK122 hg (Z19))); replace BK122 := Aside0.mk (kB BK122 (Z19) hb); clear hb hbox hg; have hnb66 := NB127_122.out; have hnc66 := NB122_127.out; obtain ⟨hcz67_0, hcz67_1, hcz67_2⟩ := bc3 BK127.out; obtain ⟨hfz67_0, hfz67_1, hfz67_2⟩ := bf3 BK127.out))
           have n0_ : Aside0 ((((w65.setCell ⟨gb127, 0, none⟩ (.int .i64 ((rd_T71 l0_3 x3_2).f0))).setCell ⟨gb127, 1, none⟩ (.int .i64 ((rd_T71 l0_3 x3_2).f1))).setCell ⟨gb127, 2, none⟩ (.string ((rd_T71 l0_3 x3_2).f2))).heap[gb122]? = some (.cells #[.string a0_0, .int .i64 a0_1, .int .i64 a0_2, .slice (some ad126) l0_3.length c0_3, .slice A0_4 l0_4.length c0_4] 59 (0, 0))) := ⟨Z18⟩
           have n1_ : Aside0 ((((w65.setCell ⟨gb127, 0, none⟩ (.int .i64 ((rd_T71 l0_3 x3_2).f0))).setCell ⟨gb127, 1, none⟩ (.int .i64 ((rd_T71 l0_3 x3_2).f1))).setCell ⟨gb127, 2, none⟩ (.string ((rd_T71 l0_3 x3_2).f2))).heap[gb127]? = some (.cells #[.int .i64 ((rd_T71 l0_3 x3_2).f0), .int .i64 ((rd_T71 l0_3 x3_2).f1), .string ((rd_T71 l0_3 x3_2).f2)] 71 (0, 0))) := ⟨Z9⟩
           have n2_ : Aside0 (Below w.heap.size w (((w65.setCell ⟨gb127, 0, none⟩ (.int .i64 ((rd_T71 l0_3 x3_2).f0))).setCell ⟨gb127, 1, none⟩ (.int .i64 ((rd_T71 l0_3 x3_2).f1))).setCell ⟨gb127, 2, none⟩ (.string ((rd_T71 l0_3 x3_2).f2)))) := ⟨Z26⟩
           (try clear BK122); (try clear BK127); (try clear HB)
           generalize (((w65.setCell ⟨gb127, 0, none⟩ (.int .i64 ((rd_T71 l0_3 x3_2).f0))).setCell ⟨gb127, 1, none⟩ (.int .i64 ((rd_T71 l0_3 x3_2).f1))).setCell ⟨gb127, 2, none⟩ (.string ((rd_T71 l0_3 x3_2).f2))) = w68 at n0_ n1_ n2_ ⊢
           have BK122 := n0_
           have BK127 := n1_
           have HB := n2_
           clear n0_ n1_ n2_
           replace BK122 := Aside0.mk (blk_drew BK122.out)
           replace BK127 := Aside0.mk (blk_drew BK127.out)
           replace HB := Aside0.mk (below_drew1 HB.out)
           refine start_ (n := 35) (S := fun w' => w'.cell? ⟨gb127, 0, none⟩ = some (.int .i64 ((rd_T71 l0_3 x3_2).f0)) ∧ w'.cell? ⟨gb127, 1, none⟩ = some (.int .i64 ((rd_T71 l0_3 x3_2).f1)) ∧ w'.cell? ⟨gb127, 2, none⟩ = some (.string ((rd_T71 l0_3 x3_2).f2)) ∧ w'.cell? ⟨gb122, 0, none⟩ = some (.string a0_0) ∧ w'.cell? ⟨gb122, 1, none⟩ = some (.int .i64 a0_1) ∧ w'.cell? ⟨gb122, 2, none⟩ = some (.int .i64 a0_2) ∧ w'.cell? ⟨gb122, 3, none⟩ = some (.slice (some ad126) l0_3.length c0_3) ∧ w'.cell? ⟨gb122, 4, none⟩ = some (.slice A0_4 l0_4.length c0_4)) (ds := []) #[false, false, false, false, false, false, false, false, false, false, false, false, false, false, false, false, false, false, false, false, false, false, false, false, false, false, false, false, false, false, false, false, false, false, false] (Z24) rfl rfl (bk3 BK127.out (bc5 BK122.out)) (fun hHeld => ?_); refine with_tabW spec_BoxOK.tab7 spec_BoxOK.bits7 (fun HT_ HW_ => ?_)
           generalize w68.drew = w69 at BK122 BK127 HB hHeld ⊢
           refine pA 0 55 ?_
           refine pA 2 57 ?_
           refine tA 1 56 ?_
           refine tA 3 58 ?_
           refine pA 4 59 ?_
           refine oA 5 60 (fun K hK => ?_)
           refine goes_ Try.func26 (Z24) rfl #[.int .i64 ((rd_T71 l0_3 x3_2).f0), .int .i64 1, .int .i64 (wrap64 (a0_2 - 1))] (Z102) rfl rfl (Z1) ?_
           with_reducible refine (spec_l01In.calls ((rd_T71 l0_3 x3_2).f0) 1 (wrap64 (a0_2 - 1)) true _ A21.out).mono ?_
           rintro e w' ⟨rfl, ⟨nd, rfl⟩⟩
           refine ⟨_, rfl, ?_⟩
           refine hK.out _ _ (bk3 BK127.out (bc5 BK122.out)) (fun hHeld => ?_)
           clear hK K
           refine nB 60 ?_
           refine pA 6 61 ?_
           refine pA 7 62 ?_
           refine pA 8 63 ?_
           refine pA 9 64 ?_
           refine pA 10 65 ?_
           refine pU 11 66 ?_
           refine pU 12 67 ?_
           refine pU 13 68 ?_
           refine pU 14 69 ?_
           refine pU 15 70 ?_
           refine pU 16 71 ?_
           refine pU 17 72 ?_
           refine pU 18 73 ?_
           refine pU 19 74 ?_
           refine pU 20 75 ?_
           refine pA 21 76 ?_
           refine pA 22 77 ?_
           refine pA 23 78 ?_
           refine pA 24 79 ?_
           refine tA 25 80 ?_
           refine oA 26 81 (fun K hK => ?_)
           refine goes_ Try.func26 (Z24) rfl #[.int .i64 ((rd_T71 l0_3 x3_2).f1), .int .i64 0, .int .i64 31] (Z102) rfl rfl (Z1) ?_
           with_reducible refine (spec_l01In.calls ((rd_T71 l0_3 x3_2).f1) 0 31 true _ A55.out).mono ?_
           rintro e w' ⟨rfl, ⟨nd, rfl⟩⟩
           refine ⟨_, rfl, ?_⟩
           refine hK.out _ _ (bk3 BK127.out (bc5 BK122.out)) (fun hHeld => ?_)
           clear hK K
           refine nB 81 ?_
           refine pA 27 82 ?_
           refine pA 28 83 ?_
           refine pA 29 84 ?_
           refine pA 30 85 ?_
           refine tA 31 86 ?_
           refine pA 32 87 ?_
           refine pA 33 88 ?_
           refine pA 34 89 ?_
           refine done_ (done_of HT_.out (Z24)) ?_
           try go_wp2
           go_roundg k2
           case measure => have := HJ1.out; have := HK2.out; omega
           case rel => exact ⟨(wrap64 (x3_2 + 1)), (Z3), H', ⟨Z126⟩, ⟨Z19⟩, ⟨Z26⟩⟩
         ·replace c56 := Bool.eq_false_iff.mpr c56
          subst c56
          replace H := ifF H
          obtain rfl := Option.some.inj H
          obtain ⟨hcz70_0, hcz70_1, hcz70_2, hcz70_3, hcz70_4⟩ := bc5 BK122.out
          obtain ⟨hfz70_0, hfz70_1, hfz70_2, hfz70_3, hfz70_4⟩ := bf5 BK122.out
          have p126 : 0 ≤ (x3_2 : Int) := of_decide_eq_true (Z4)
          have q126 : x3_2 < (l0_3.length : Int) := of_decide_eq_true (Z4)
          obtain ⟨ad126, e126, hx126_0, hx126_1, hx126_2⟩ := at_T71 HR0_3.out x3_2 p126 q126
          cases e126
          replace hx126_0 := cB HB.out hx126_0
          replace hx126_1 := cB HB.out hx126_1
          replace hx126_2 := cB HB.out hx126_2
          replace p126 := eq_true p126
          replace q126 := eq_true q126
          try go_wp2_with (first | ((with_reducible refine gate_dst (N := 4) rfl ?_); (try (refine gate_guard (Z102) ?_; dsimp only)); refine bxE 4 #[.int .i64 0, .int .i64 0, .string (⟨#[]⟩ : ByteArray)] 71 ?_; intro gb127 hg w71 hbox hb; have BK127 := Aside0.mk (hbox); have GW127 := Aside0.mk ((szE w hg (Z8))); have GE127 := Aside0.mk ((szE w hg (Z8))); replace HB := Aside0.mk (below_step (Z8) hb); have NB122_127 := Aside0.mk ((nL BK122 hg (Z19))); have NB127_122 := Aside0.mk ((nG BK122 hg (Z19))); replace BK122 := Aside0.mk (kB BK122 (Z19) hb); clear hb hbox hg; have hnb72 := NB127_122.out; have hnc72 := NB122_127.out; obtain ⟨hcz73_0, hcz73_1, hcz73_2⟩ := bc3 BK127.out; obtain ⟨hfz73_0, hfz73_1, hfz73_2⟩ := bf3 BK127.out))
          have n0_ : Aside0 ((((w71.setCell ⟨gb127, 0, none⟩ (.int .i64 ((rd_T71 l0_3 x3_2).f0))).setCell ⟨gb127, 1, none⟩ (.int .i64 ((rd_T71 l0_3 x3_2).f1))).setCell ⟨gb127, 2, none⟩ (.string ((rd_T71 l0_3 x3_2).f2))).heap[gb122]? = some (.cells #[.string a0_0, .int .i64 a0_1, .int .i64 a0_2, .slice (some ad126) l0_3.length c0_3, .slice A0_4 l0_4.length c0_4] 59 (0, 0))) := ⟨Z18⟩
          have n1_ : Aside0 ((((w71.setCell ⟨gb127, 0, none⟩ (.int .i64 ((rd_T71 l0_3 x3_2).f0))).setCell ⟨gb127, 1, none⟩ (.int .i64 ((rd_T71 l0_3 x3_2).f1))).setCell ⟨gb127, 2, none⟩ (.string ((rd_T71 l0_3 x3_2).f2))).heap[gb127]? = some (.cells #[.int .i64 ((rd_T71 l0_3 x3_2).f0), .int .i64 ((rd_T71 l0_3 x3_2).f1), .string ((rd_T71 l0_3 x3_2).f2)] 71 (0, 0))) := ⟨Z9⟩
          have n2_ : Aside0 (Below w.heap.size w (((w71.setCell ⟨gb127, 0, none⟩ (.int .i64 ((rd_T71 l0_3 x3_2).f0))).setCell ⟨gb127, 1, none⟩ (.int .i64 ((rd_T71 l0_3 x3_2).f1))).setCell ⟨gb127, 2, none⟩ (.string ((rd_T71 l0_3 x3_2).f2)))) := ⟨Z26⟩
          (try clear BK122); (try clear BK127); (try clear HB)
          generalize (((w71.setCell ⟨gb127, 0, none⟩ (.int .i64 ((rd_T71 l0_3 x3_2).f0))).setCell ⟨gb127, 1, none⟩ (.int .i64 ((rd_T71 l0_3 x3_2).f1))).setCell ⟨gb127, 2, none⟩ (.string ((rd_T71 l0_3 x3_2).f2))) = w74 at n0_ n1_ n2_ ⊢
          have BK122 := n0_
          have BK127 := n1_
          have HB := n2_
          clear n0_ n1_ n2_
          replace BK122 := Aside0.mk (blk_drew BK122.out)
          replace BK127 := Aside0.mk (blk_drew BK127.out)
          replace HB := Aside0.mk (below_drew1 HB.out)
          refine start_ (n := 35) (S := fun w' => w'.cell? ⟨gb127, 0, none⟩ = some (.int .i64 ((rd_T71 l0_3 x3_2).f0)) ∧ w'.cell? ⟨gb127, 1, none⟩ = some (.int .i64 ((rd_T71 l0_3 x3_2).f1)) ∧ w'.cell? ⟨gb127, 2, none⟩ = some (.string ((rd_T71 l0_3 x3_2).f2)) ∧ w'.cell? ⟨gb122, 0, none⟩ = some (.string a0_0) ∧ w'.cell? ⟨gb122, 1, none⟩ = some (.int .i64 a0_1) ∧ w'.cell? ⟨gb122, 2, none⟩ = some (.int .i64 a0_2) ∧ w'.cell? ⟨gb122, 3, none⟩ = some (.slice (some ad126) l0_3.length c0_3) ∧ w'.cell? ⟨gb122, 4, none⟩ = some (.slice A0_4 l0_4.length c0_4)) (ds := []) #[false, false, false, false, false, false, false, false, false, false, false, false, false, false, false, false, false, false, false, false, false, false, false, false, false, false, false, false, false, false, false, false, false, false, false] (Z24) rfl rfl (bk3 BK127.out (bc5 BK122.out)) (fun hHeld => ?_); refine with_tabW spec_BoxOK.tab7 spec_BoxOK.bits7 (fun HT_ HW_ => ?_)
          generalize w74.drew = w75 at BK122 BK127 HB hHeld ⊢
          refine pA 0 55 ?_
          refine pA 2 57 ?_
          refine tA 1 56 ?_
          refine tA 3 58 ?_
          refine pA 4 59 ?_
          refine oA 5 60 (fun K hK => ?_)
          refine goes_ Try.func26 (Z24) rfl #[.int .i64 ((rd_T71 l0_3 x3_2).f0), .int .i64 1, .int .i64 (wrap64 (a0_2 - 1))] (Z102) rfl rfl (Z1) ?_
          with_reducible refine (spec_l01In.calls ((rd_T71 l0_3 x3_2).f0) 1 (wrap64 (a0_2 - 1)) true _ A21.out).mono ?_
          rintro e w' ⟨rfl, ⟨nd, rfl⟩⟩
          refine ⟨_, rfl, ?_⟩
          refine hK.out _ _ (bk3 BK127.out (bc5 BK122.out)) (fun hHeld => ?_)
          clear hK K
          refine nB 60 ?_
          refine pA 6 61 ?_
          refine pA 7 62 ?_
          refine pA 8 63 ?_
          refine pA 9 64 ?_
          refine pA 10 65 ?_
          refine pU 11 66 ?_
          refine pU 12 67 ?_
          refine pU 13 68 ?_
          refine pU 14 69 ?_
          refine pU 15 70 ?_
          refine pU 16 71 ?_
          refine pU 17 72 ?_
          refine pU 18 73 ?_
          refine pU 19 74 ?_
          refine pU 20 75 ?_
          refine pA 21 76 ?_
          refine pA 22 77 ?_
          refine pA 23 78 ?_
          refine pA 24 79 ?_
          refine tA 25 80 ?_
          refine oA 26 81 (fun K hK => ?_)
          refine goes_ Try.func26 (Z24) rfl #[.int .i64 ((rd_T71 l0_3 x3_2).f1), .int .i64 0, .int .i64 31] (Z102) rfl rfl (Z1) ?_
          with_reducible refine (spec_l01In.calls ((rd_T71 l0_3 x3_2).f1) 0 31 false _ A55.out).mono ?_
          rintro e w' ⟨rfl, ⟨nd, rfl⟩⟩
          refine ⟨_, rfl, ?_⟩
          refine hK.out _ _ (bk3 BK127.out (bc5 BK122.out)) (fun hHeld => ?_)
          clear hK K
          refine nB 81 ?_
          refine pA 27 82 ?_
          refine pA 28 83 ?_
          refine pA 29 84 ?_
          refine pU 30 85 ?_
          refine pU 31 86 ?_
          refine pU 32 87 ?_
          refine pU 33 88 ?_
          refine pA 34 89 ?_
          refine done_ (done_of HT_.out (Z24)) ?_
          try go_wp2
          go_ret
          exact ⟨Z2, Z26⟩
       ·replace c22 := Bool.eq_false_iff.mpr c22
        subst c22
        replace H := ifF H
        obtain rfl := Option.some.inj H
        obtain ⟨hcz76_0, hcz76_1, hcz76_2, hcz76_3, hcz76_4⟩ := bc5 BK122.out
        obtain ⟨hfz76_0, hfz76_1, hfz76_2, hfz76_3, hfz76_4⟩ := bf5 BK122.out
        have p126 : 0 ≤ (x3_2 : Int) := of_decide_eq_true (Z4)
        have q126 : x3_2 < (l0_3.length : Int) := of_decide_eq_true (Z4)
        obtain ⟨ad126, e126, hx126_0, hx126_1, hx126_2⟩ := at_T71 HR0_3.out x3_2 p126 q126
        cases e126
        replace hx126_0 := cB HB.out hx126_0
        replace hx126_1 := cB HB.out hx126_1
        replace hx126_2 := cB HB.out hx126_2
        replace p126 := eq_true p126
        replace q126 := eq_true q126
        try go_wp2_with (first | ((with_reducible refine gate_dst (N := 4) rfl ?_); (try (refine gate_guard (Z102) ?_; dsimp only)); refine bxE 4 #[.int .i64 0, .int .i64 0, .string (⟨#[]⟩ : ByteArray)] 71 ?_; intro gb127 hg w77 hbox hb; have BK127 := Aside0.mk (hbox); have GW127 := Aside0.mk ((szE w hg (Z8))); have GE127 := Aside0.mk ((szE w hg (Z8))); replace HB := Aside0.mk (below_step (Z8) hb); have NB122_127 := Aside0.mk ((nL BK122 hg (Z19))); have NB127_122 := Aside0.mk ((nG BK122 hg (Z19))); replace BK122 := Aside0.mk (kB BK122 (Z19) hb); clear hb hbox hg; have hnb78 := NB127_122.out; have hnc78 := NB122_127.out; obtain ⟨hcz79_0, hcz79_1, hcz79_2⟩ := bc3 BK127.out; obtain ⟨hfz79_0, hfz79_1, hfz79_2⟩ := bf3 BK127.out))
        have n0_ : Aside0 ((((w77.setCell ⟨gb127, 0, none⟩ (.int .i64 ((rd_T71 l0_3 x3_2).f0))).setCell ⟨gb127, 1, none⟩ (.int .i64 ((rd_T71 l0_3 x3_2).f1))).setCell ⟨gb127, 2, none⟩ (.string ((rd_T71 l0_3 x3_2).f2))).heap[gb122]? = some (.cells #[.string a0_0, .int .i64 a0_1, .int .i64 a0_2, .slice (some ad126) l0_3.length c0_3, .slice A0_4 l0_4.length c0_4] 59 (0, 0))) := ⟨Z18⟩
        have n1_ : Aside0 ((((w77.setCell ⟨gb127, 0, none⟩ (.int .i64 ((rd_T71 l0_3 x3_2).f0))).setCell ⟨gb127, 1, none⟩ (.int .i64 ((rd_T71 l0_3 x3_2).f1))).setCell ⟨gb127, 2, none⟩ (.string ((rd_T71 l0_3 x3_2).f2))).heap[gb127]? = some (.cells #[.int .i64 ((rd_T71 l0_3 x3_2).f0), .int .i64 ((rd_T71 l0_3 x3_2).f1), .string ((rd_T71 l0_3 x3_2).f2)] 71 (0, 0))) := ⟨Z9⟩
        have n2_ : Aside0 (Below w.heap.size w (((w77.setCell ⟨gb127, 0, none⟩ (.int .i64 ((rd_T71 l0_3 x3_2).f0))).setCell ⟨gb127, 1, none⟩ (.int .i64 ((rd_T71 l0_3 x3_2).f1))).setCell ⟨gb127, 2, none⟩ (.string ((rd_T71 l0_3 x3_2).f2)))) := ⟨Z26⟩
        (try clear BK122); (try clear BK127); (try clear HB)
        generalize (((w77.setCell ⟨gb127, 0, none⟩ (.int .i64 ((rd_T71 l0_3 x3_2).f0))).setCell ⟨gb127, 1, none⟩ (.int .i64 ((rd_T71 l0_3 x3_2).f1))).setCell ⟨gb127, 2, none⟩ (.string ((rd_T71 l0_3 x3_2).f2))) = w80 at n0_ n1_ n2_ ⊢
        have BK122 := n0_
        have BK127 := n1_
        have HB := n2_
        clear n0_ n1_ n2_
        replace BK122 := Aside0.mk (blk_drew BK122.out)
        replace BK127 := Aside0.mk (blk_drew BK127.out)
        replace HB := Aside0.mk (below_drew1 HB.out)
        refine start_ (n := 35) (S := fun w' => w'.cell? ⟨gb127, 0, none⟩ = some (.int .i64 ((rd_T71 l0_3 x3_2).f0)) ∧ w'.cell? ⟨gb127, 1, none⟩ = some (.int .i64 ((rd_T71 l0_3 x3_2).f1)) ∧ w'.cell? ⟨gb127, 2, none⟩ = some (.string ((rd_T71 l0_3 x3_2).f2)) ∧ w'.cell? ⟨gb122, 0, none⟩ = some (.string a0_0) ∧ w'.cell? ⟨gb122, 1, none⟩ = some (.int .i64 a0_1) ∧ w'.cell? ⟨gb122, 2, none⟩ = some (.int .i64 a0_2) ∧ w'.cell? ⟨gb122, 3, none⟩ = some (.slice (some ad126) l0_3.length c0_3) ∧ w'.cell? ⟨gb122, 4, none⟩ = some (.slice A0_4 l0_4.length c0_4)) (ds := []) #[false, false, false, false, false, false, false, false, false, false, false, false, false, false, false, false, false, false, false, false, false, false, false, false, false, false, false, false, false, false, false, false, false, false, false] (Z24) rfl rfl (bk3 BK127.out (bc5 BK122.out)) (fun hHeld => ?_); refine with_tabW spec_BoxOK.tab7 spec_BoxOK.bits7 (fun HT_ HW_ => ?_)
        generalize w80.drew = w81 at BK122 BK127 HB hHeld ⊢
        refine pA 0 55 ?_
        refine pA 2 57 ?_
        refine tA 1 56 ?_
        refine tA 3 58 ?_
        refine pA 4 59 ?_
        refine oA 5 60 (fun K hK => ?_)
        refine goes_ Try.func26 (Z24) rfl #[.int .i64 ((rd_T71 l0_3 x3_2).f0), .int .i64 1, .int .i64 (wrap64 (a0_2 - 1))] (Z102) rfl rfl (Z1) ?_
        with_reducible refine (spec_l01In.calls ((rd_T71 l0_3 x3_2).f0) 1 (wrap64 (a0_2 - 1)) false _ A21.out).mono ?_
        rintro e w' ⟨rfl, ⟨nd, rfl⟩⟩
        refine ⟨_, rfl, ?_⟩
        refine hK.out _ _ (bk3 BK127.out (bc5 BK122.out)) (fun hHeld => ?_)
        clear hK K
        refine nB 60 ?_
        refine pA 6 61 ?_
        refine pA 7 62 ?_
        refine pU 8 63 ?_
        refine pU 9 64 ?_
        refine pU 10 65 ?_
        refine pU 11 66 ?_
        refine pU 12 67 ?_
        refine pU 13 68 ?_
        refine pU 14 69 ?_
        refine pU 15 70 ?_
        refine pU 16 71 ?_
        refine pU 17 72 ?_
        refine pU 18 73 ?_
        refine pU 19 74 ?_
        refine pU 20 75 ?_
        refine pU 21 76 ?_
        refine pA 22 77 ?_
        refine pA 23 78 ?_
        refine pU 24 79 ?_
        refine pU 25 80 ?_
        refine pU 26 81 ?_
        refine pU 27 82 ?_
        refine pA 28 83 ?_
        refine pA 29 84 ?_
        refine pU 30 85 ?_
        refine pU 31 86 ?_
        refine pU 32 87 ?_
        refine pU 33 88 ?_
        refine pA 34 89 ?_
        refine done_ (done_of HT_.out (Z24)) ?_
        try go_wp2
        go_ret
        exact ⟨Z2, Z26⟩
      ·rw [if_neg c19] at H
       have c19b0 := decide_eq_false c19
       clear c19
       have H' := Aside0.mk H
       clear H
       obtain ⟨hcz82_0, hcz82_1, hcz82_2, hcz82_3, hcz82_4⟩ := bc5 BK122.out
       obtain ⟨hfz82_0, hfz82_1, hfz82_2, hfz82_3, hfz82_4⟩ := bf5 BK122.out
       go_wp2
       go_loopg [5] k2 (fun kq v5 w' => ∃ (x5_3 : Int), v5 = .int .i64 x5_3 ∧ Aside0 (spec_BoxOK.l1 kq x5_3 a0_0 a0_1 a0_2 l0_3 l0_4 = some r) ∧ Aside0 (kq ≤ k2) ∧ Aside0 (w'.heap[gb122]? = some (.cells #[.string a0_0, .int .i64 a0_1, .int .i64 a0_2, (.slice A0_3 l0_3.length c0_3), (.slice A0_4 l0_4.length c0_4)] 59 (0, 0))) ∧ Aside0 (Below w.heap.size w w'))
       case atStart => exact ⟨(0), (Z3), H', ⟨Nat.le_refl _⟩, ⟨Z19⟩, ⟨Z8⟩⟩
       case round =>
        clear H'
        (try clear c19); (try clear c19b0); (try clear hcz82_0); (try clear hcz82_1); (try clear hcz82_2); (try clear hcz82_3); (try clear hcz82_4); (try clear hfz82_0); (try clear hfz82_1); (try clear hfz82_2); (try clear hfz82_3); (try clear hfz82_4)
        obtain ⟨x5_3, rfl, HA, HK3, BK122, HB⟩ := hrel
        cases gk with
        | zero => exact absurd HA.out (by simp [spec_BoxOK.l1])
        | succ k3 =>
         have H := HA.out
         clear HA
         simp only [spec_BoxOK.l1] at H
         by_cases c83 : x5_3 < (l0_4.length : Int)
         ·rw [if_pos c83] at H
          have c83b0 := decide_eq_true c83
          clear c83
          obtain ⟨c84, H⟩ := ifS H
          have c84b0 : decide (0 ≤ x5_3) = true := decide_eq_true c84
          clear c84
          obtain ⟨t133, A85, H⟩ := bindA H
          try dsimp only at H
          by_cases c86 : t133 = true
          ·subst c86
           replace H := ifT H
           have c87b0 := eq_true (of_decide_eq_true (Z4) : 0 ≤ x5_3)
           obtain ⟨c88, H⟩ := ifS H
           have c88b0 := eq_true c88
           have c88b1 : decide (x5_3 ≤ (l0_4.length : Int)) = true := decide_eq_true c88
           clear c88
           obtain ⟨t136, A89, H⟩ := bindA H
           try dsimp only at H
           by_cases c90 : t136 = true
           ·subst c90
            replace H := ifT H
            obtain rfl := Option.some.inj H
            obtain ⟨hcz91_0, hcz91_1, hcz91_2, hcz91_3, hcz91_4⟩ := bc5 BK122.out
            obtain ⟨hfz91_0, hfz91_1, hfz91_2, hfz91_3, hfz91_4⟩ := bf5 BK122.out
            try go_wp2
            replace BK122 := Aside0.mk (blk_drew BK122.out)
            replace HB := Aside0.mk (below_drew1 HB.out)
            have p132 : 0 ≤ (x5_3 : Int) := of_decide_eq_true (Z4)
            have q132 : x5_3 < (l0_4.length : Int) := of_decide_eq_true (Z4)
            obtain ⟨ad132, e132, hx132_0⟩ := Kd.at_string HR0_4.out x5_3 p132 q132
            have hw132_0 := hx132_0
            cases e132
            replace hx132_0 := cB HB.out hx132_0
            replace p132 := eq_true p132
            replace q132 := eq_true q132
            have p135 : 0 ≤ (x5_3 : Int) := of_decide_eq_true (Z4)
            have q135 : x5_3 < (l0_4.length : Int) := of_decide_eq_true (Z4)
            obtain ⟨ad135, e135, hx135_0⟩ := Kd.at_string HR0_4.out x5_3 p135 q135
            have hw135_0 := hx135_0
            obtain rfl : ad132 = ad135 := (by injection e135)
            replace hx135_0 := cB HB.out hx135_0
            replace p135 := eq_true p135
            replace q135 := eq_true q135
            refine start_ (n := 20) (S := fun w' => w'.cell? ⟨gb122, 0, none⟩ = some (.string a0_0) ∧ w'.cell? ⟨gb122, 1, none⟩ = some (.int .i64 a0_1) ∧ w'.cell? ⟨gb122, 2, none⟩ = some (.int .i64 a0_2) ∧ w'.cell? ⟨gb122, 3, none⟩ = some (.slice A0_3 l0_3.length c0_3) ∧ w'.cell? ⟨gb122, 4, none⟩ = some (.slice (some ad132) l0_4.length c0_4) ∧ w'.cell? (ad132.add (x5_3).toNat) = some (.string (rdOf ByteArray.empty l0_4 x5_3)) ∧ w'.cell? (ad132.add (x5_3).toNat) = some (.string (rdOf ByteArray.empty l0_4 x5_3))) (ds := []) #[false, false, false, false, false, false, false, false, false, false, false, false, false, false, false, false, false, false, false, false] (Z24) rfl rfl (bk5 BK122.out (⟨(cB HB.out hw132_0 :), (cB HB.out hw135_0 :)⟩)) (fun hHeld => ?_); refine with_tabW spec_BoxOK.tab12 spec_BoxOK.bits12 (fun HT_ HW_ => ?_)
            generalize wr.drew = w92 at BK122 HB hx132_0 hx135_0 hHeld ⊢
            refine pA 0 97 ?_
            refine pA 2 99 ?_
            refine tA 1 98 ?_
            refine pA 3 100 ?_
            refine tA 4 101 ?_
            refine pA 5 102 ?_
            refine oA 6 103 (fun K hK => ?_)
            refine goes_ Try.func26 (Z24) rfl #[.int .i64 ((rdOf ByteArray.empty l0_4 x5_3).size : Int), .int .i64 1, .int .i64 200] (Z102) rfl rfl (Z1) ?_
            with_reducible refine (spec_l01In.calls ((rdOf ByteArray.empty l0_4 x5_3).size : Int) 1 200 true _ A85.out).mono ?_
            rintro e w' ⟨rfl, ⟨nd, rfl⟩⟩
            refine ⟨_, rfl, ?_⟩
            obtain ⟨i093, hi093, _, hsz93, _⟩ := info_parts info9
            obtain ⟨hcut93, hA93, hC93⟩ := print_take_of (P := Try.prog) Value.string (⟨#[]⟩ : ByteArray) 40 9 .i64 Try.underlying40 hi093 hsz93 (some ad132) c0_4 l0_4 x5_3 (of_decide_eq_true (Z4)) (of_decide_eq_true (Z4)) HC0_4.out
            have HR134 := Aside0.mk (Kd.C_of_reads (h1 := fun _ => rfl) (hA93 _ (Kd.reads_of_C HR0_4.out)))
            have HC134 := Aside0.mk hC93
            clear hA93 hC93 hi093 hsz93
            refine hK.out _ _ (bk5 BK122.out (⟨(cB HB.out hw132_0 :), (cB HB.out hw135_0 :)⟩)) (fun hHeld => ?_)
            clear hK K
            refine nB 103 ?_
            refine pA 7 104 ?_
            refine pA 8 105 ?_
            refine pA 9 106 ?_
            refine pA 11 108 ?_
            refine pA 13 110 ?_
            refine pA 15 112 ?_
            refine tA 10 107 ?_
            refine pA 12 109 ?_
            refine tA 14 111 ?_
            refine pA 16 113 ?_
            refine tA 17 114 ?_
            refine oA 18 115 (fun K hK => ?_)
            refine goes_ Try.func50 (Z24) rfl #[.slice (some ad132) (l0_4.take (x5_3 : Int).toNat).length c0_4, .string (rdOf ByteArray.empty l0_4 x5_3)] (Z102) rfl rfl (by (try simp only [List.map_toArray, List.map_cons, List.map_nil]); first | done | (rw [show (l0_4.take (x5_3 : Int).toNat).length = x5_3.toNat from (by rw [List.length_take]; have h_ : (x5_3 : Int) ≤ (l0_4.length : Int) := of_decide_eq_true (Z4); omega)] <;> rfl) | rfl | (simp only [List.length_drop, List.length_take]; rfl)) ?_
            with_reducible refine (spec_l06Has.calls k3 _ _ (l0_4.take (x5_3 : Int).toNat) (rdOf ByteArray.empty l0_4 x5_3) true _ ?side1 ?side2 A89.out).mono ?_
            (case side1 => repeat (first | exact (Kd.C_below HR134.out (Z8)) | (with_reducible refine Kd.C_alloc ?_ _) | (with_reducible refine Kd.C_drewN ?_ _) | (with_reducible refine Kd.C_drew ?_)))
            (case side2 => exact HC134.out)
            rintro e w' ⟨rfl, ⟨nd, rfl⟩⟩
            refine ⟨_, rfl, ?_⟩
            refine hK.out _ _ (bk5 BK122.out (⟨(cB HB.out hw132_0 :), (cB HB.out hw135_0 :)⟩)) (fun hHeld => ?_)
            clear hK K
            refine nB 115 ?_
            refine pA 19 116 ?_
            refine done_ (done_of HT_.out (Z24)) ?_
            try go_wp2
            go_ret
            exact ⟨Z2, Z8⟩
           ·replace c90 := Bool.eq_false_iff.mpr c90
            subst c90
            replace H := ifF H
            have H' := Aside0.mk H
            clear H
            obtain ⟨hcz94_0, hcz94_1, hcz94_2, hcz94_3, hcz94_4⟩ := bc5 BK122.out
            obtain ⟨hfz94_0, hfz94_1, hfz94_2, hfz94_3, hfz94_4⟩ := bf5 BK122.out
            try go_wp2
            replace BK122 := Aside0.mk (blk_drew BK122.out)
            replace HB := Aside0.mk (below_drew1 HB.out)
            have p132 : 0 ≤ (x5_3 : Int) := of_decide_eq_true (Z4)
            have q132 : x5_3 < (l0_4.length : Int) := of_decide_eq_true (Z4)
            obtain ⟨ad132, e132, hx132_0⟩ := Kd.at_string HR0_4.out x5_3 p132 q132
            have hw132_0 := hx132_0
            cases e132
            replace hx132_0 := cB HB.out hx132_0
            replace p132 := eq_true p132
            replace q132 := eq_true q132
            have p135 : 0 ≤ (x5_3 : Int) := of_decide_eq_true (Z4)
            have q135 : x5_3 < (l0_4.length : Int) := of_decide_eq_true (Z4)
            obtain ⟨ad135, e135, hx135_0⟩ := Kd.at_string HR0_4.out x5_3 p135 q135
            have hw135_0 := hx135_0
            obtain rfl : ad132 = ad135 := (by injection e135)
            replace hx135_0 := cB HB.out hx135_0
            replace p135 := eq_true p135
            replace q135 := eq_true q135
            refine start_ (n := 20) (S := fun w' => w'.cell? ⟨gb122, 0, none⟩ = some (.string a0_0) ∧ w'.cell? ⟨gb122, 1, none⟩ = some (.int .i64 a0_1) ∧ w'.cell? ⟨gb122, 2, none⟩ = some (.int .i64 a0_2) ∧ w'.cell? ⟨gb122, 3, none⟩ = some (.slice A0_3 l0_3.length c0_3) ∧ w'.cell? ⟨gb122, 4, none⟩ = some (.slice (some ad132) l0_4.length c0_4) ∧ w'.cell? (ad132.add (x5_3).toNat) = some (.string (rdOf ByteArray.empty l0_4 x5_3)) ∧ w'.cell? (ad132.add (x5_3).toNat) = some (.string (rdOf ByteArray.empty l0_4 x5_3))) (ds := []) #[false, false, false, false, false, false, false, false, false, false, false, false, false, false, false, false, false, false, false, false] (Z24) rfl rfl (bk5 BK122.out (⟨(cB HB.out hw132_0 :), (cB HB.out hw135_0 :)⟩)) (fun hHeld => ?_); refine with_tabW spec_BoxOK.tab12 spec_BoxOK.bits12 (fun HT_ HW_ => ?_)
            generalize wr.drew = w95 at BK122 HB hx132_0 hx135_0 hHeld ⊢
            refine pA 0 97 ?_
            refine pA 2 99 ?_
            refine tA 1 98 ?_
            refine pA 3 100 ?_
            refine tA 4 101 ?_
            refine pA 5 102 ?_
            refine oA 6 103 (fun K hK => ?_)
            refine goes_ Try.func26 (Z24) rfl #[.int .i64 ((rdOf ByteArray.empty l0_4 x5_3).size : Int), .int .i64 1, .int .i64 200] (Z102) rfl rfl (Z1) ?_
            with_reducible refine (spec_l01In.calls ((rdOf ByteArray.empty l0_4 x5_3).size : Int) 1 200 true _ A85.out).mono ?_
            rintro e w' ⟨rfl, ⟨nd, rfl⟩⟩
            refine ⟨_, rfl, ?_⟩
            obtain ⟨i096, hi096, _, hsz96, _⟩ := info_parts info9
            obtain ⟨hcut96, hA96, hC96⟩ := print_take_of (P := Try.prog) Value.string (⟨#[]⟩ : ByteArray) 40 9 .i64 Try.underlying40 hi096 hsz96 (some ad132) c0_4 l0_4 x5_3 (of_decide_eq_true (Z4)) (of_decide_eq_true (Z4)) HC0_4.out
            have HR134 := Aside0.mk (Kd.C_of_reads (h1 := fun _ => rfl) (hA96 _ (Kd.reads_of_C HR0_4.out)))
            have HC134 := Aside0.mk hC96
            clear hA96 hC96 hi096 hsz96
            refine hK.out _ _ (bk5 BK122.out (⟨(cB HB.out hw132_0 :), (cB HB.out hw135_0 :)⟩)) (fun hHeld => ?_)
            clear hK K
            refine nB 103 ?_
            refine pA 7 104 ?_
            refine pA 8 105 ?_
            refine pA 9 106 ?_
            refine pA 11 108 ?_
            refine pA 13 110 ?_
            refine pA 15 112 ?_
            refine tA 10 107 ?_
            refine pA 12 109 ?_
            refine tA 14 111 ?_
            refine pA 16 113 ?_
            refine tA 17 114 ?_
            refine oA 18 115 (fun K hK => ?_)
            refine goes_ Try.func50 (Z24) rfl #[.slice (some ad132) (l0_4.take (x5_3 : Int).toNat).length c0_4, .string (rdOf ByteArray.empty l0_4 x5_3)] (Z102) rfl rfl (by (try simp only [List.map_toArray, List.map_cons, List.map_nil]); first | done | (rw [show (l0_4.take (x5_3 : Int).toNat).length = x5_3.toNat from (by rw [List.length_take]; have h_ : (x5_3 : Int) ≤ (l0_4.length : Int) := of_decide_eq_true (Z4); omega)] <;> rfl) | rfl | (simp only [List.length_drop, List.length_take]; rfl)) ?_
            with_reducible refine (spec_l06Has.calls k3 _ _ (l0_4.take (x5_3 : Int).toNat) (rdOf ByteArray.empty l0_4 x5_3) false _ ?side1 ?side2 A89.out).mono ?_
            (case side1 => repeat (first | exact (Kd.C_below HR134.out (Z8)) | (with_reducible refine Kd.C_alloc ?_ _) | (with_reducible refine Kd.C_drewN ?_ _) | (with_reducible refine Kd.C_drew ?_)))
            (case side2 => exact HC134.out)
            rintro e w' ⟨rfl, ⟨nd, rfl⟩⟩
            refine ⟨_, rfl, ?_⟩
            refine hK.out _ _ (bk5 BK122.out (⟨(cB HB.out hw132_0 :), (cB HB.out hw135_0 :)⟩)) (fun hHeld => ?_)
            clear hK K
            refine nB 115 ?_
            refine pA 19 116 ?_
            refine done_ (done_of HT_.out (Z24)) ?_
            try go_wp2
            go_roundg k3
            case measure => have := HJ1.out; have := HK2.out; have := HK3.out; omega
            case rel => exact ⟨(wrap64 (x5_3 + 1)), (Z3), H', ⟨by have := HJ1.out; have := HK2.out; have := HK3.out; omega⟩, ⟨Z19⟩, ⟨Z8⟩⟩
          ·replace c86 := Bool.eq_false_iff.mpr c86
           subst c86
           replace H := ifF H
           obtain rfl := Option.some.inj H
           obtain ⟨hcz97_0, hcz97_1, hcz97_2, hcz97_3, hcz97_4⟩ := bc5 BK122.out
           obtain ⟨hfz97_0, hfz97_1, hfz97_2, hfz97_3, hfz97_4⟩ := bf5 BK122.out
           try go_wp2
           replace BK122 := Aside0.mk (blk_drew BK122.out)
           replace HB := Aside0.mk (below_drew1 HB.out)
           have p132 : 0 ≤ (x5_3 : Int) := of_decide_eq_true (Z4)
           have q132 : x5_3 < (l0_4.length : Int) := of_decide_eq_true (Z4)
           obtain ⟨ad132, e132, hx132_0⟩ := Kd.at_string HR0_4.out x5_3 p132 q132
           have hw132_0 := hx132_0
           cases e132
           replace hx132_0 := cB HB.out hx132_0
           replace p132 := eq_true p132
           replace q132 := eq_true q132
           refine start_ (n := 20) (S := fun w' => w'.cell? ⟨gb122, 0, none⟩ = some (.string a0_0) ∧ w'.cell? ⟨gb122, 1, none⟩ = some (.int .i64 a0_1) ∧ w'.cell? ⟨gb122, 2, none⟩ = some (.int .i64 a0_2) ∧ w'.cell? ⟨gb122, 3, none⟩ = some (.slice A0_3 l0_3.length c0_3) ∧ w'.cell? ⟨gb122, 4, none⟩ = some (.slice (some ad132) l0_4.length c0_4) ∧ w'.cell? (ad132.add (x5_3).toNat) = some (.string (rdOf ByteArray.empty l0_4 x5_3))) (ds := []) #[false, false, false, false, false, false, false, false, false, false, false, false, false, false, false, false, false, false, false, false] (Z24) rfl rfl (bk5 BK122.out ((cB HB.out hw132_0 :))) (fun hHeld => ?_); refine with_tabW spec_BoxOK.tab12 spec_BoxOK.bits12 (fun HT_ HW_ => ?_)
           generalize wr.drew = w98 at BK122 HB hx132_0 hHeld ⊢
           refine pA 0 97 ?_
           refine pA 2 99 ?_
           refine tA 1 98 ?_
           refine pA 3 100 ?_
           refine tA 4 101 ?_
           refine pA 5 102 ?_
           refine oA 6 103 (fun K hK => ?_)
           refine goes_ Try.func26 (Z24) rfl #[.int .i64 ((rdOf ByteArray.empty l0_4 x5_3).size : Int), .int .i64 1, .int .i64 200] (Z102) rfl rfl (Z1) ?_
           with_reducible refine (spec_l01In.calls ((rdOf ByteArray.empty l0_4 x5_3).size : Int) 1 200 false _ A85.out).mono ?_
           rintro e w' ⟨rfl, ⟨nd, rfl⟩⟩
           refine ⟨_, rfl, ?_⟩
           refine hK.out _ _ (bk5 BK122.out ((cB HB.out hw132_0 :))) (fun hHeld => ?_)
           clear hK K
           refine nB 103 ?_
           refine pA 7 104 ?_
           refine pA 8 105 ?_
           refine pU 9 106 ?_
           refine pU 10 107 ?_
           refine pU 11 108 ?_
           refine pU 12 109 ?_
           refine pU 13 110 ?_
           refine pU 14 111 ?_
           refine pU 15 112 ?_
           refine pU 16 113 ?_
           refine pU 17 114 ?_
           refine pU 18 115 ?_
           refine pA 19 116 ?_
           refine done_ (done_of HT_.out (Z24)) ?_
           try go_wp2
           go_ret
           exact ⟨Z2, Z8⟩
         ·rw [if_neg c83] at H
          have c83b0 := decide_eq_false c83
          clear c83
          obtain rfl := Option.some.inj H
          obtain ⟨hcz99_0, hcz99_1, hcz99_2, hcz99_3, hcz99_4⟩ := bc5 BK122.out
          obtain ⟨hfz99_0, hfz99_1, hfz99_2, hfz99_3, hfz99_4⟩ := bf5 BK122.out
          go_wp2
          go_ret
          exact ⟨Z2, Z8⟩

end Go.Proofs.Ytbikfhccfenkdaa.PFnExactEngineOK
