/- Contracts of functions that a statement reaches (wip/x/xprint.py, short.py, compact.py). -/
import Derived.Test.YtbikfhccfenkdaaPFnExactEngineOKx0
import Derived.Test.YtbikfhccfenkdaaPFnExactEngineOKx2
import Derived.Test.YtbikfhccfenkdaaPFnExactEngineOKx3
namespace Go.Proofs.Ytbikfhccfenkdaa.PFnExactEngineOK
open Go.RowKit Go.Proofs.YtbikfhccfenkdaaW.PrintWords Go.Proofs.YtbikfhccfenkdaaW.PrintLast Go.Proofs.YtbikfhccfenkdaaW.PrintMore Go.Proofs.Ytbikfhccfenkdaa.Mac
attribute [local go_sem] max2_int min2_int max_two min_two max_three min_three max_four min_four
set_option linter.unusedVariables false
set_option linter.unusedSimpArgs false

/-! ### spec_MutationOK: function 53 -/
mutual
def spec_MutationOK.j0 : Nat → Bool → Int → Int → Int → Int → ByteArray → List (S86) → Option (Bool)
 | 0, _, _, _, _, _, _, _ => none
 | k + 1, x13, x157000, x157001, x157002, x157003, x157004, x157005 => if x13 = true then (some false) else (spec_MutationOK.l0 k 0 x157000 x157001 x157002 x157003 x157004 x157005)
def spec_MutationOK.l0 : Nat → Int → Int → Int → Int → Int → ByteArray → List (S86) → Option (Bool)
 | 0, _, _, _, _, _, _, _ => none
 | k + 1, x3, x157000, x157001, x157002, x157003, x157004, x157005 => if x3 < (x157005.length : Int) then (if 0 ≤ x3 then ((spec_l01In.f (((rd_T86 x157005 x3).f0).size : Int) 1 200).bind fun t159 => (if t159 = true then (if (((rd_T86 x157005 x3).f1).size : Int) > 4000 then (some false) else (spec_MutationOK.l0 k (wrap64 (x3 + 1)) x157000 x157001 x157002 x157003 x157004 x157005)) else (some false))) else (none)) else (if x157000 = 1 then (spec_MutationOK.j2 k x157000 (x157000 == 1) x157000 x157001 x157002 x157003 x157004 x157005) else (spec_MutationOK.j2 k x157000 (x157000 == 4) x157000 x157001 x157002 x157003 x157004 x157005))
def spec_MutationOK.j2 : Nat → Int → Bool → Int → Int → Int → Int → ByteArray → List (S86) → Option (Bool)
 | 0, _, _, _, _, _, _, _, _ => none
 | k + 1, x41, x42, x157000, x157001, x157002, x157003, x157004, x157005 => if x42 = true then (if x157001 = 0 then (if x157002 = 0 then (if x157003 = 0 then (some ((x157005.length : Int) == 0)) else (some false)) else (some false)) else (some false)) else (if x41 = 2 then (if x157001 = 0 then (if x157002 = 0 then (if x157003 = 0 then (some (decide ((x157005.length : Int) > 0))) else (some false)) else (some false)) else (some false)) else (if x41 = 3 then ((spec_l01In.f x157001 1 1000).bind fun t161 => (if t161 = true then ((spec_l01In.f x157002 1 3).bind fun t162 => (if t162 = true then ((spec_l01In.f x157003 0 31).bind fun t163 => (if t163 = true then (some ((x157005.length : Int) == 0)) else (some false))) else (some false))) else (some false))) else (some false)))
end
def spec_MutationOK.f (k : Nat) (a0_0 : Int) (a0_1 : Int) (a0_2 : Int) (a0_3 : Int) (a0_4 : ByteArray) (l0_5 : List (S86)) : Option (Bool) := (spec_NameOK.f k a0_4).bind fun t157 => (if t157 = true then (spec_MutationOK.j0 k (decide ((l0_5.length : Int) > 20)) a0_0 a0_1 a0_2 a0_3 a0_4 l0_5) else (spec_MutationOK.j0 k true a0_0 a0_1 a0_2 a0_3 a0_4 l0_5))
theorem spec_MutationOK.mono_l : ∀ k, (∀ y0 y1 y2 y3 y4 y5 y6, LeO (spec_MutationOK.j0 k y0 y1 y2 y3 y4 y5 y6) (spec_MutationOK.j0 (k + 1) y0 y1 y2 y3 y4 y5 y6)) ∧ (∀ y0 y1 y2 y3 y4 y5 y6, LeO (spec_MutationOK.l0 k y0 y1 y2 y3 y4 y5 y6) (spec_MutationOK.l0 (k + 1) y0 y1 y2 y3 y4 y5 y6)) ∧ (∀ y0 y1 y2 y3 y4 y5 y6 y7, LeO (spec_MutationOK.j2 k y0 y1 y2 y3 y4 y5 y6 y7) (spec_MutationOK.j2 (k + 1) y0 y1 y2 y3 y4 y5 y6 y7))
 | 0 => ⟨fun _ _ _ _ _ _ _ r h => by simp [spec_MutationOK.j0] at h, fun _ _ _ _ _ _ _ r h => by simp [spec_MutationOK.l0] at h, fun _ _ _ _ _ _ _ _ r h => by simp [spec_MutationOK.j2] at h⟩
 | k + 1 => by
  obtain ⟨ih0, ih1, ih2⟩ := spec_MutationOK.mono_l k
  refine ⟨?_, ?_, ?_⟩
  ·intro y0 y1 y2 y3 y4 y5 y6
   unfold spec_MutationOK.j0
   have m0 := @spec_NameOK.mono
   exact tM
  ·intro y0 y1 y2 y3 y4 y5 y6
   unfold spec_MutationOK.l0
   have m0 := @spec_NameOK.mono
   exact tM
  ·intro y0 y1 y2 y3 y4 y5 y6 y7
   unfold spec_MutationOK.j2
   have m0 := @spec_NameOK.mono
   exact tM
theorem spec_MutationOK.mono : ∀ a0 a1 a2 a3 a4 a5 k, LeO (spec_MutationOK.f k a0 a1 a2 a3 a4 a5) (spec_MutationOK.f (k + 1) a0 a1 a2 a3 a4 a5) := by
 intro a0 a1 a2 a3 a4 a5 k
 obtain ⟨ih0, ih1, ih2⟩ := spec_MutationOK.mono_l k
 unfold spec_MutationOK.f
 have m0 := @spec_NameOK.mono
 exact tM
set_option maxHeartbeats 40000000 in
set_option maxRecDepth 100000 in
theorem spec_MutationOK.calls (k : Nat) (a0_0 : Int) (a0_1 : Int) (a0_2 : Int) (a0_3 : Int) (a0_4 : ByteArray) (A0_5 : Option Addr) (c0_5 : Nat) (l0_5 : List (S86)) (r : Bool) (w : World) (hr0_5 : Kd.C k86 w A0_5 l0_5.length l0_5) (hc0_5 : l0_5.length ≤ c0_5) (h : spec_MutationOK.f k a0_0 a0_1 a0_2 a0_3 a0_4 l0_5 = some r) :
  Calls Try.prog 53 #[.agg #[.int .i64 a0_0, .int .i64 a0_1, .int .i64 a0_2, .int .i64 a0_3, .string a0_4, .slice A0_5 l0_5.length c0_5]] w fun e w' => e = .returned (.bool r) ∧ Below w.heap.size w w' := by
 have hu65 := Try.underlying65
 have HR0_5 := Aside0.mk hr0_5
 have HC0_5 := Aside0.mk hc0_5
 clear hr0_5 hc0_5
 have HB := Aside0.mk (Below.refl w.heap.size w)
 have H : ((spec_NameOK.f k a0_4).bind fun t157 => (if t157 = true then (spec_MutationOK.j0 k (decide ((l0_5.length : Int) > 20)) a0_0 a0_1 a0_2 a0_3 a0_4 l0_5) else (spec_MutationOK.j0 k true a0_0 a0_1 a0_2 a0_3 a0_4 l0_5))) = some r := h
 clear h
 have HC2 := Aside0.mk H
 clear H
 go_enter Try.func53, Try.ntmps53
 go_upto_region 1 with (first | ((with_reducible refine gate_dst (N := 1) rfl ?_); (try (refine gate_guard (Z102) ?_; dsimp only)); refine bxE 1 #[.int .i64 a0_0, .int .i64 a0_1, .int .i64 a0_2, .int .i64 a0_3, .string a0_4, .slice A0_5 l0_5.length c0_5] 65 ?_; intro gb156 hg w3 hbox hb; have BK156 := Aside0.mk (hbox); have GW156 := Aside0.mk ((szE w hg (Z0))); have GE156 := Aside0.mk ((szE w hg (Z0))); replace HB := Aside0.mk (below_step (Z0) hb); clear hb hbox hg))
 (try simp only [Act.put, List.setIfInBounds_toArray, List.set_cons_zero, List.set_cons_succ])
 go_cut [13] (fun v13 wc => ∃ (kq : Nat) (x13_1 : Bool), v13 = .bool x13_1 ∧ Aside0 (spec_MutationOK.j0 kq x13_1 a0_0 a0_1 a0_2 a0_3 a0_4 l0_5 = some r) ∧ Aside0 (kq ≤ k) ∧ Aside0 (wc.heap[gb156]? = some (.cells #[.int .i64 a0_0, .int .i64 a0_1, .int .i64 a0_2, .int .i64 a0_3, .string a0_4, (.slice A0_5 l0_5.length c0_5)] 65 (0, 0))) ∧ Aside0 (Below w.heap.size w wc))
 case first =>
  have H := HC2.out
  clear HC2
  obtain ⟨t157, A4, H⟩ := bindA H
  try dsimp only at H
  by_cases c5 : t157 = true
  ·subst c5
   replace H := ifT H
   have H' := Aside0.mk H
   clear H
   obtain ⟨hcz6_0, hcz6_1, hcz6_2, hcz6_3, hcz6_4, hcz6_5⟩ := bc6 BK156.out
   obtain ⟨hfz6_0, hfz6_1, hfz6_2, hfz6_3, hfz6_4, hfz6_5⟩ := bf6 BK156.out
   go_wp2_with (first | ((with_reducible refine gate_callee (f := 49) rfl ?_); refine goesL_ (some 6) rfl rfl Try.func49 (Z24) rfl #[.string a0_4] rfl (Z1) ?_; (with_reducible refine (spec_NameOK.calls k a0_4 true _ A4.out).mono ?_); rintro e w' ⟨rfl, ⟨nd, rfl⟩⟩; refine ⟨_, rfl, ?_⟩))
   go_meet
   case rel => exact ⟨_, (decide ((l0_5.length : Int) > 20)), (Z3), H', ⟨Z74⟩, ⟨Z85⟩, ⟨Z22⟩⟩
  ·replace c5 := Bool.eq_false_iff.mpr c5
   subst c5
   replace H := ifF H
   have H' := Aside0.mk H
   clear H
   obtain ⟨hcz7_0, hcz7_1, hcz7_2, hcz7_3, hcz7_4, hcz7_5⟩ := bc6 BK156.out
   obtain ⟨hfz7_0, hfz7_1, hfz7_2, hfz7_3, hfz7_4, hfz7_5⟩ := bf6 BK156.out
   go_wp2_with (first | ((with_reducible refine gate_callee (f := 49) rfl ?_); refine goesL_ (some 6) rfl rfl Try.func49 (Z24) rfl #[.string a0_4] rfl (Z1) ?_; (with_reducible refine (spec_NameOK.calls k a0_4 false _ A4.out).mono ?_); rintro e w' ⟨rfl, ⟨nd, rfl⟩⟩; refine ⟨_, rfl, ?_⟩))
   go_meet
   case rel => exact ⟨_, (true), (Z3), H', ⟨Z74⟩, ⟨Z85⟩, ⟨Z22⟩⟩
 case rest =>
  clear HC2
  obtain ⟨kq, x13_1, rfl, HA, HJ1, BK156, HB⟩ := hcut
  cases kq with
  | zero => exact absurd HA.out (by simp [spec_MutationOK.j0])
  | succ kj1 =>
   have H := HA.out
   clear HA
   simp only [spec_MutationOK.j0] at H
   by_cases c8 : x13_1 = true
   ·subst c8
    replace H := ifT H
    obtain rfl := Option.some.inj H
    go_wp2
    go_ret
    exact ⟨Z2, Z22⟩
   ·replace c8 := Bool.eq_false_iff.mpr c8
    subst c8
    replace H := ifF H
    have H' := Aside0.mk H
    clear H
    go_wp2
    go_loopg [3] kj1 (fun kq v3 w' => ∃ (x3_2 : Int), v3 = .int .i64 x3_2 ∧ Aside0 (spec_MutationOK.l0 kq x3_2 a0_0 a0_1 a0_2 a0_3 a0_4 l0_5 = some r) ∧ Aside0 (kq ≤ kj1) ∧ Aside0 (w'.heap[gb156]? = some (.cells #[.int .i64 a0_0, .int .i64 a0_1, .int .i64 a0_2, .int .i64 a0_3, .string a0_4, (.slice A0_5 l0_5.length c0_5)] 65 (0, 0))) ∧ Aside0 (Below w.heap.size w w'))
    case atStart => exact ⟨(0), (Z3), H', ⟨Nat.le_refl _⟩, ⟨Z85⟩, ⟨Z22⟩⟩
    case round =>
     clear H'
     (try clear c8)
     obtain ⟨x3_2, rfl, HA, HK2, BK156, HB⟩ := hrel
     cases gk with
     | zero => exact absurd HA.out (by simp [spec_MutationOK.l0])
     | succ k2 =>
      have H := HA.out
      clear HA
      simp only [spec_MutationOK.l0] at H
      by_cases c9 : x3_2 < (l0_5.length : Int)
      ·rw [if_pos c9] at H
       have c9b0 := decide_eq_true c9
       clear c9
       obtain ⟨c10, H⟩ := ifS H
       have c10b0 : decide (0 ≤ x3_2) = true := decide_eq_true c10
       clear c10
       obtain ⟨t159, A11, H⟩ := bindA H
       try dsimp only at H
       by_cases c12 : t159 = true
       ·subst c12
        replace H := ifT H
        by_cases c13 : (((rd_T86 l0_5 x3_2).f1).size : Int) > 4000
        ·rw [if_pos c13] at H
         have c13b0 : decide (4000 < (((rd_T86 l0_5 x3_2).f1).size : Int)) = true := decide_eq_true c13
         have c13b1 : decide (4000 < ((rd_T86 l0_5 x3_2).f1).size) = true := decide_eq_true (Z43)
         clear c13
         obtain rfl := Option.some.inj H
         obtain ⟨hcz14_0, hcz14_1, hcz14_2, hcz14_3, hcz14_4, hcz14_5⟩ := bc6 BK156.out
         obtain ⟨hfz14_0, hfz14_1, hfz14_2, hfz14_3, hfz14_4, hfz14_5⟩ := bf6 BK156.out
         have p158 : 0 ≤ (x3_2 : Int) := of_decide_eq_true (Z4)
         have q158 : x3_2 < (l0_5.length : Int) := of_decide_eq_true (Z4)
         obtain ⟨ad158, e158, hx158_0, hx158_1⟩ := at_T86 HR0_5.out x3_2 p158 q158
         cases e158
         replace hx158_0 := cB HB.out hx158_0
         replace hx158_1 := cB HB.out hx158_1
         replace p158 := eq_true p158
         replace q158 := eq_true q158
         go_wp2_with (first | ((with_reducible refine gate_callee (f := 26) rfl ?_); refine goesL_ (some 28) rfl rfl Try.func26 (Z24) rfl #[.int .i64 (((rd_T86 l0_5 x3_2).f0).size : Int), .int .i64 1, .int .i64 200] rfl (Z1) ?_; (with_reducible refine (spec_l01In.calls (((rd_T86 l0_5 x3_2).f0).size : Int) 1 200 true _ A11.out).mono ?_); rintro e w' ⟨rfl, ⟨nd, rfl⟩⟩; refine ⟨_, rfl, ?_⟩; have p160 : 0 ≤ (x3_2 : Int) := of_decide_eq_true (Z4); have q160 : x3_2 < (l0_5.length : Int) := of_decide_eq_true (Z4); obtain ⟨ad160, e160, hx160_0, hx160_1⟩ := at_T86 HR0_5.out x3_2 p160 q160; obtain rfl : ad158 = ad160 := (by injection e160); replace hx160_0 := cB HB.out hx160_0; replace hx160_1 := cB HB.out hx160_1; replace p160 := eq_true p160; replace q160 := eq_true q160))
         go_ret
         exact ⟨Z2, Z22⟩
        ·rw [if_neg c13] at H
         have c13b0 : decide (4000 < (((rd_T86 l0_5 x3_2).f1).size : Int)) = false := decide_eq_false c13
         have c13b1 : decide (4000 < ((rd_T86 l0_5 x3_2).f1).size) = false := decide_eq_false (Z43)
         clear c13
         have H' := Aside0.mk H
         clear H
         obtain ⟨hcz15_0, hcz15_1, hcz15_2, hcz15_3, hcz15_4, hcz15_5⟩ := bc6 BK156.out
         obtain ⟨hfz15_0, hfz15_1, hfz15_2, hfz15_3, hfz15_4, hfz15_5⟩ := bf6 BK156.out
         have p158 : 0 ≤ (x3_2 : Int) := of_decide_eq_true (Z4)
         have q158 : x3_2 < (l0_5.length : Int) := of_decide_eq_true (Z4)
         obtain ⟨ad158, e158, hx158_0, hx158_1⟩ := at_T86 HR0_5.out x3_2 p158 q158
         cases e158
         replace hx158_0 := cB HB.out hx158_0
         replace hx158_1 := cB HB.out hx158_1
         replace p158 := eq_true p158
         replace q158 := eq_true q158
         go_wp2_with (first | ((with_reducible refine gate_callee (f := 26) rfl ?_); refine goesL_ (some 28) rfl rfl Try.func26 (Z24) rfl #[.int .i64 (((rd_T86 l0_5 x3_2).f0).size : Int), .int .i64 1, .int .i64 200] rfl (Z1) ?_; (with_reducible refine (spec_l01In.calls (((rd_T86 l0_5 x3_2).f0).size : Int) 1 200 true _ A11.out).mono ?_); rintro e w' ⟨rfl, ⟨nd, rfl⟩⟩; refine ⟨_, rfl, ?_⟩; have p160 : 0 ≤ (x3_2 : Int) := of_decide_eq_true (Z4); have q160 : x3_2 < (l0_5.length : Int) := of_decide_eq_true (Z4); obtain ⟨ad160, e160, hx160_0, hx160_1⟩ := at_T86 HR0_5.out x3_2 p160 q160; obtain rfl : ad158 = ad160 := (by injection e160); replace hx160_0 := cB HB.out hx160_0; replace hx160_1 := cB HB.out hx160_1; replace p160 := eq_true p160; replace q160 := eq_true q160))
         go_roundg k2
         case measure => have := HJ1.out; have := HK2.out; omega
         case rel => exact ⟨(wrap64 (x3_2 + 1)), (Z3), H', ⟨Z126⟩, ⟨Z85⟩, ⟨Z22⟩⟩
       ·replace c12 := Bool.eq_false_iff.mpr c12
        subst c12
        replace H := ifF H
        obtain rfl := Option.some.inj H
        obtain ⟨hcz16_0, hcz16_1, hcz16_2, hcz16_3, hcz16_4, hcz16_5⟩ := bc6 BK156.out
        obtain ⟨hfz16_0, hfz16_1, hfz16_2, hfz16_3, hfz16_4, hfz16_5⟩ := bf6 BK156.out
        have p158 : 0 ≤ (x3_2 : Int) := of_decide_eq_true (Z4)
        have q158 : x3_2 < (l0_5.length : Int) := of_decide_eq_true (Z4)
        obtain ⟨ad158, e158, hx158_0, hx158_1⟩ := at_T86 HR0_5.out x3_2 p158 q158
        cases e158
        replace hx158_0 := cB HB.out hx158_0
        replace hx158_1 := cB HB.out hx158_1
        replace p158 := eq_true p158
        replace q158 := eq_true q158
        go_wp2_with (first | ((with_reducible refine gate_callee (f := 26) rfl ?_); refine goesL_ (some 28) rfl rfl Try.func26 (Z24) rfl #[.int .i64 (((rd_T86 l0_5 x3_2).f0).size : Int), .int .i64 1, .int .i64 200] rfl (Z1) ?_; (with_reducible refine (spec_l01In.calls (((rd_T86 l0_5 x3_2).f0).size : Int) 1 200 false _ A11.out).mono ?_); rintro e w' ⟨rfl, ⟨nd, rfl⟩⟩; refine ⟨_, rfl, ?_⟩))
        go_ret
        exact ⟨Z2, Z22⟩
      ·rw [if_neg c9] at H
       have c9b0 := decide_eq_false c9
       clear c9
       have HC17 := Aside0.mk H
       clear H
       obtain ⟨hcz18_0, hcz18_1, hcz18_2, hcz18_3, hcz18_4, hcz18_5⟩ := bc6 BK156.out
       obtain ⟨hfz18_0, hfz18_1, hfz18_2, hfz18_3, hfz18_4, hfz18_5⟩ := bf6 BK156.out
       go_upto_if 42 with (fail)
       go_cut [42] (fun v42 wc => ∃ (kq : Nat) (x42_16 : Bool), v42 = .bool x42_16 ∧ Aside0 (spec_MutationOK.j2 kq a0_0 x42_16 a0_0 a0_1 a0_2 a0_3 a0_4 l0_5 = some r) ∧ Aside0 (kq ≤ k2) ∧ Aside0 (wc.heap[gb156]? = some (.cells #[.int .i64 a0_0, .int .i64 a0_1, .int .i64 a0_2, .int .i64 a0_3, .string a0_4, (.slice A0_5 l0_5.length c0_5)] 65 (0, 0))) ∧ Aside0 (Below w.heap.size w wc))
       case first =>
        have H := HC17.out
        clear HC17
        by_cases c19 : a0_0 = 1
        ·rw [if_pos c19] at H
         have c19b0 := beq_iff_eq.mpr c19
         have c19b1 := bne_eq_false_iff_eq.mpr c19
         clear c19
         (first | rw [c19b0] | rw [c19b1] | (simp only [i64_w, i32_w]; rw [c19b0]) | skip)
         have H' := Aside0.mk H
         clear H
         go_wp2
         go_meet
         case rel => exact ⟨_, ((a0_0 == 1)), (Z3), H', ⟨by have := HJ1.out; have := HK2.out; first | omega | exact Nat.le_refl _⟩, ⟨Z85⟩, ⟨Z22⟩⟩
        ·rw [if_neg c19] at H
         have c19b0 := beq_eq_false_iff_ne.mpr c19
         have c19b1 := bne_iff_ne.mpr c19
         (first | rw [c19b0] | rw [c19b1] | (simp only [i64_w, i32_w]; rw [c19b0]) | skip)
         have H' := Aside0.mk H
         clear H
         go_wp2
         go_meet
         case rel => exact ⟨_, ((a0_0 == 4)), (Z3), H', ⟨by have := HJ1.out; have := HK2.out; first | omega | exact Nat.le_refl _⟩, ⟨Z85⟩, ⟨Z22⟩⟩
       case rest =>
        clear HC17
        (try clear c8); (try clear c9); (try clear c9b0); (try clear hcz18_0); (try clear hcz18_1); (try clear hcz18_2); (try clear hcz18_3); (try clear hcz18_4); (try clear hcz18_5); (try clear hfz18_0); (try clear hfz18_1); (try clear hfz18_2); (try clear hfz18_3); (try clear hfz18_4); (try clear hfz18_5)
        obtain ⟨kq, x42_16, rfl, HA, HJ16, BK156, HB⟩ := hcut
        cases kq with
        | zero => exact absurd HA.out (by simp [spec_MutationOK.j2])
        | succ kj16 =>
         have H := HA.out
         clear HA
         simp only [spec_MutationOK.j2] at H
         by_cases c20 : x42_16 = true
         ·subst c20
          replace H := ifT H
          by_cases c21 : a0_1 = 0
          ·rw [if_pos c21] at H
           have c21b0 := beq_iff_eq.mpr c21
           have c21b1 := bne_eq_false_iff_eq.mpr c21
           clear c21
           by_cases c22 : a0_2 = 0
           ·rw [if_pos c22] at H
            have c22b0 := beq_iff_eq.mpr c22
            have c22b1 := bne_eq_false_iff_eq.mpr c22
            clear c22
            by_cases c23 : a0_3 = 0
            ·rw [if_pos c23] at H
             have c23b0 := beq_iff_eq.mpr c23
             have c23b1 := bne_eq_false_iff_eq.mpr c23
             clear c23
             obtain rfl := Option.some.inj H
             obtain ⟨hcz24_0, hcz24_1, hcz24_2, hcz24_3, hcz24_4, hcz24_5⟩ := bc6 BK156.out
             obtain ⟨hfz24_0, hfz24_1, hfz24_2, hfz24_3, hfz24_4, hfz24_5⟩ := bf6 BK156.out
             go_wp2
             go_ret
             exact ⟨Z2, Z22⟩
            ·rw [if_neg c23] at H
             have c23b0 := beq_eq_false_iff_ne.mpr c23
             have c23b1 := bne_iff_ne.mpr c23
             obtain rfl := Option.some.inj H
             obtain ⟨hcz25_0, hcz25_1, hcz25_2, hcz25_3, hcz25_4, hcz25_5⟩ := bc6 BK156.out
             obtain ⟨hfz25_0, hfz25_1, hfz25_2, hfz25_3, hfz25_4, hfz25_5⟩ := bf6 BK156.out
             go_wp2
             go_ret
             exact ⟨Z2, Z22⟩
           ·rw [if_neg c22] at H
            have c22b0 := beq_eq_false_iff_ne.mpr c22
            have c22b1 := bne_iff_ne.mpr c22
            obtain rfl := Option.some.inj H
            obtain ⟨hcz26_0, hcz26_1, hcz26_2, hcz26_3, hcz26_4, hcz26_5⟩ := bc6 BK156.out
            obtain ⟨hfz26_0, hfz26_1, hfz26_2, hfz26_3, hfz26_4, hfz26_5⟩ := bf6 BK156.out
            go_wp2
            go_ret
            exact ⟨Z2, Z22⟩
          ·rw [if_neg c21] at H
           have c21b0 := beq_eq_false_iff_ne.mpr c21
           have c21b1 := bne_iff_ne.mpr c21
           obtain rfl := Option.some.inj H
           obtain ⟨hcz27_0, hcz27_1, hcz27_2, hcz27_3, hcz27_4, hcz27_5⟩ := bc6 BK156.out
           obtain ⟨hfz27_0, hfz27_1, hfz27_2, hfz27_3, hfz27_4, hfz27_5⟩ := bf6 BK156.out
           go_wp2
           go_ret
           exact ⟨Z2, Z22⟩
         ·replace c20 := Bool.eq_false_iff.mpr c20
          subst c20
          replace H := ifF H
          by_cases c28 : a0_0 = 2
          ·rw [if_pos c28] at H
           have c28b0 := beq_iff_eq.mpr c28
           have c28b1 := bne_eq_false_iff_eq.mpr c28
           clear c28
           by_cases c29 : a0_1 = 0
           ·rw [if_pos c29] at H
            have c29b0 := beq_iff_eq.mpr c29
            have c29b1 := bne_eq_false_iff_eq.mpr c29
            clear c29
            by_cases c30 : a0_2 = 0
            ·rw [if_pos c30] at H
             have c30b0 := beq_iff_eq.mpr c30
             have c30b1 := bne_eq_false_iff_eq.mpr c30
             clear c30
             by_cases c31 : a0_3 = 0
             ·rw [if_pos c31] at H
              have c31b0 := beq_iff_eq.mpr c31
              have c31b1 := bne_eq_false_iff_eq.mpr c31
              clear c31
              obtain rfl := Option.some.inj H
              obtain ⟨hcz32_0, hcz32_1, hcz32_2, hcz32_3, hcz32_4, hcz32_5⟩ := bc6 BK156.out
              obtain ⟨hfz32_0, hfz32_1, hfz32_2, hfz32_3, hfz32_4, hfz32_5⟩ := bf6 BK156.out
              go_wp2
              go_ret
              exact ⟨Z2, Z22⟩
             ·rw [if_neg c31] at H
              have c31b0 := beq_eq_false_iff_ne.mpr c31
              have c31b1 := bne_iff_ne.mpr c31
              obtain rfl := Option.some.inj H
              obtain ⟨hcz33_0, hcz33_1, hcz33_2, hcz33_3, hcz33_4, hcz33_5⟩ := bc6 BK156.out
              obtain ⟨hfz33_0, hfz33_1, hfz33_2, hfz33_3, hfz33_4, hfz33_5⟩ := bf6 BK156.out
              go_wp2
              go_ret
              exact ⟨Z2, Z22⟩
            ·rw [if_neg c30] at H
             have c30b0 := beq_eq_false_iff_ne.mpr c30
             have c30b1 := bne_iff_ne.mpr c30
             obtain rfl := Option.some.inj H
             obtain ⟨hcz34_0, hcz34_1, hcz34_2, hcz34_3, hcz34_4, hcz34_5⟩ := bc6 BK156.out
             obtain ⟨hfz34_0, hfz34_1, hfz34_2, hfz34_3, hfz34_4, hfz34_5⟩ := bf6 BK156.out
             go_wp2
             go_ret
             exact ⟨Z2, Z22⟩
           ·rw [if_neg c29] at H
            have c29b0 := beq_eq_false_iff_ne.mpr c29
            have c29b1 := bne_iff_ne.mpr c29
            obtain rfl := Option.some.inj H
            obtain ⟨hcz35_0, hcz35_1, hcz35_2, hcz35_3, hcz35_4, hcz35_5⟩ := bc6 BK156.out
            obtain ⟨hfz35_0, hfz35_1, hfz35_2, hfz35_3, hfz35_4, hfz35_5⟩ := bf6 BK156.out
            go_wp2
            go_ret
            exact ⟨Z2, Z22⟩
          ·rw [if_neg c28] at H
           have c28b0 := beq_eq_false_iff_ne.mpr c28
           have c28b1 := bne_iff_ne.mpr c28
           by_cases c36 : a0_0 = 3
           ·rw [if_pos c36] at H
            have c36b0 := beq_iff_eq.mpr c36
            have c36b1 := bne_eq_false_iff_eq.mpr c36
            clear c36
            obtain ⟨t161, A37, H⟩ := bindA H
            try dsimp only at H
            by_cases c38 : t161 = true
            ·subst c38
             replace H := ifT H
             obtain ⟨t162, A39, H⟩ := bindA H
             try dsimp only at H
             by_cases c40 : t162 = true
             ·subst c40
              replace H := ifT H
              obtain ⟨t163, A41, H⟩ := bindA H
              try dsimp only at H
              by_cases c42 : t163 = true
              ·subst c42
               replace H := ifT H
               obtain rfl := Option.some.inj H
               obtain ⟨hcz43_0, hcz43_1, hcz43_2, hcz43_3, hcz43_4, hcz43_5⟩ := bc6 BK156.out
               obtain ⟨hfz43_0, hfz43_1, hfz43_2, hfz43_3, hfz43_4, hfz43_5⟩ := bf6 BK156.out
               go_wp2_with (first | ((with_reducible refine gate_callee (f := 26) rfl ?_); refine goesL_ (some 89) rfl rfl Try.func26 (Z24) rfl #[.int .i64 a0_1, .int .i64 1, .int .i64 1000] rfl (Z1) ?_; (with_reducible refine (spec_l01In.calls a0_1 1 1000 true _ A37.out).mono ?_); rintro e w' ⟨rfl, ⟨nd, rfl⟩⟩; refine ⟨_, rfl, ?_⟩) | (go_at_call 26; (with_reducible refine (spec_l01In.calls a0_2 1 3 true _ A39.out).mono ?_); rintro e w' ⟨rfl, ⟨nd, rfl⟩⟩) | (go_at_call 26; (with_reducible refine (spec_l01In.calls a0_3 0 31 true _ A41.out).mono ?_); rintro e w' ⟨rfl, ⟨nd, rfl⟩⟩))
               go_ret
               exact ⟨Z2, Z22⟩
              ·replace c42 := Bool.eq_false_iff.mpr c42
               subst c42
               replace H := ifF H
               obtain rfl := Option.some.inj H
               obtain ⟨hcz44_0, hcz44_1, hcz44_2, hcz44_3, hcz44_4, hcz44_5⟩ := bc6 BK156.out
               obtain ⟨hfz44_0, hfz44_1, hfz44_2, hfz44_3, hfz44_4, hfz44_5⟩ := bf6 BK156.out
               go_wp2_with (first | ((with_reducible refine gate_callee (f := 26) rfl ?_); refine goesL_ (some 89) rfl rfl Try.func26 (Z24) rfl #[.int .i64 a0_1, .int .i64 1, .int .i64 1000] rfl (Z1) ?_; (with_reducible refine (spec_l01In.calls a0_1 1 1000 true _ A37.out).mono ?_); rintro e w' ⟨rfl, ⟨nd, rfl⟩⟩; refine ⟨_, rfl, ?_⟩) | (go_at_call 26; (with_reducible refine (spec_l01In.calls a0_2 1 3 true _ A39.out).mono ?_); rintro e w' ⟨rfl, ⟨nd, rfl⟩⟩) | (go_at_call 26; (with_reducible refine (spec_l01In.calls a0_3 0 31 false _ A41.out).mono ?_); rintro e w' ⟨rfl, ⟨nd, rfl⟩⟩))
               go_ret
               exact ⟨Z2, Z22⟩
             ·replace c40 := Bool.eq_false_iff.mpr c40
              subst c40
              replace H := ifF H
              obtain rfl := Option.some.inj H
              obtain ⟨hcz45_0, hcz45_1, hcz45_2, hcz45_3, hcz45_4, hcz45_5⟩ := bc6 BK156.out
              obtain ⟨hfz45_0, hfz45_1, hfz45_2, hfz45_3, hfz45_4, hfz45_5⟩ := bf6 BK156.out
              go_wp2_with (first | ((with_reducible refine gate_callee (f := 26) rfl ?_); refine goesL_ (some 89) rfl rfl Try.func26 (Z24) rfl #[.int .i64 a0_1, .int .i64 1, .int .i64 1000] rfl (Z1) ?_; (with_reducible refine (spec_l01In.calls a0_1 1 1000 true _ A37.out).mono ?_); rintro e w' ⟨rfl, ⟨nd, rfl⟩⟩; refine ⟨_, rfl, ?_⟩) | (go_at_call 26; (with_reducible refine (spec_l01In.calls a0_2 1 3 false _ A39.out).mono ?_); rintro e w' ⟨rfl, ⟨nd, rfl⟩⟩))
              go_ret
              exact ⟨Z2, Z22⟩
            ·replace c38 := Bool.eq_false_iff.mpr c38
             subst c38
             replace H := ifF H
             obtain rfl := Option.some.inj H
             obtain ⟨hcz46_0, hcz46_1, hcz46_2, hcz46_3, hcz46_4, hcz46_5⟩ := bc6 BK156.out
             obtain ⟨hfz46_0, hfz46_1, hfz46_2, hfz46_3, hfz46_4, hfz46_5⟩ := bf6 BK156.out
             go_wp2_with (first | ((with_reducible refine gate_callee (f := 26) rfl ?_); refine goesL_ (some 89) rfl rfl Try.func26 (Z24) rfl #[.int .i64 a0_1, .int .i64 1, .int .i64 1000] rfl (Z1) ?_; (with_reducible refine (spec_l01In.calls a0_1 1 1000 false _ A37.out).mono ?_); rintro e w' ⟨rfl, ⟨nd, rfl⟩⟩; refine ⟨_, rfl, ?_⟩))
             go_ret
             exact ⟨Z2, Z22⟩
           ·rw [if_neg c36] at H
            have c36b0 := beq_eq_false_iff_ne.mpr c36
            have c36b1 := bne_iff_ne.mpr c36
            obtain rfl := Option.some.inj H
            go_wp2
            go_ret
            exact ⟨Z2, Z22⟩

end Go.Proofs.Ytbikfhccfenkdaa.PFnExactEngineOK
