/- Contracts of functions that a statement reaches (wip/x/xprint.py, short.py, compact.py). -/
import Derived.Test.YtcmnndnigjkldaaGreatDoorPFnExactFetchTextxA
import Derived.Test.YtcmnndnigjkldaaGreatDoorPFnExactFetchTextx7
import Derived.Test.YtcmnndnigjkldaaGreatDoorPFnExactFetchTextx8
namespace Go.Proofs.YtcmnndnigjkldaaGreatDoor.PFnExactFetchText
open Go.RowKit Go.Proofs.YtcmnndnigjkldaaGreatDoorW.PrintWords Go.Proofs.YtcmnndnigjkldaaGreatDoorW.PrintLast Go.Proofs.YtcmnndnigjkldaaGreatDoorW.PrintMore Go.Proofs.YtcmnndnigjkldaaGreatDoor.Mac
attribute [local go_sem] max2_int min2_int max_two min_two max_three min_three max_four min_four
set_option linter.unusedVariables false
set_option linter.unusedSimpArgs false

/-! ### impl_allWithin: function 74 -/
def impl_allWithin.l0 : Nat → ByteArray → Int → Int → Int → Int → Option (Bool)
 | 0, _, _, _, _, _ => none
 | k + 1, x0, x1, x2, x9, x10 => if x10 < x9 then (if 0 ≤ x10 then (if x10 < (x0.size : Int) then (if (bt x0 x10) < x1 then (some false) else (if (bt x0 x10) > x2 then (some false) else (impl_allWithin.l0 k x0 x1 x2 x9 (wrap64 (x10 + 1))))) else (none)) else (none)) else (some true)
def impl_allWithin.f (k : Nat) (a0 : ByteArray) (a1 : Int) (a2 : Int) : Option (Bool) := impl_allWithin.l0 k a0 a1 a2 (a0.size : Int) 0
theorem impl_allWithin.mono_l : ∀ k, (∀ y0 y1 y2 y3 y4, LeO (impl_allWithin.l0 k y0 y1 y2 y3 y4) (impl_allWithin.l0 (k + 1) y0 y1 y2 y3 y4))
 | 0 => fun _ _ _ _ _ r h => by simp [impl_allWithin.l0] at h
 | k + 1 => by
  have ih0 := impl_allWithin.mono_l k
  ·intro y0 y1 y2 y3 y4
   unfold impl_allWithin.l0
   exact tM
theorem impl_allWithin.mono : ∀ a0 a1 a2 k, LeO (impl_allWithin.f k a0 a1 a2) (impl_allWithin.f (k + 1) a0 a1 a2) := by
 intro a0 a1 a2 k
 have ih0 := impl_allWithin.mono_l k
 unfold impl_allWithin.f
 exact tM
set_option maxHeartbeats 40000000 in
set_option maxRecDepth 100000 in
theorem impl_allWithin.calls (k : Nat) (a0 : ByteArray) (a1 : Int) (a2 : Int) (r : Bool) (w : World) (h : impl_allWithin.f k a0 a1 a2 = some r) :
  Calls Tryz.prog 74 #[.string a0, .int .u8 a1, .int .u8 a2] w fun e w' => e = .returned (.bool r) ∧ Drawn0 w w' := by
 have H : (impl_allWithin.l0 k a0 a1 a2 (a0.size : Int) 0) = some r := h
 clear h
 have H' := Aside0.mk H
 clear H
 go_enter Tryz.func74, Tryz.ntmps74
 go_wp2
 go_loopg [10] k (fun kq v10 w' => ∃ (x10_1 : Int), v10 = .int .i64 x10_1 ∧ Aside0 (impl_allWithin.l0 kq a0 a1 a2 (a0.size : Int) x10_1 = some r) ∧ Aside0 (kq ≤ k) ∧ Drawn0 w w')
 case atStart => exact ⟨(0), (Z2), H', ⟨Nat.le_refl _⟩, Z11⟩
 case round =>
  clear H'
  obtain ⟨x10_1, rfl, HA, HK1, ⟨m1, rfl⟩⟩ := hrel
  cases gk with
  | zero => exact absurd HA.out (by simp [impl_allWithin.l0])
  | succ k1 =>
   have H := HA.out
   clear HA
   simp only [impl_allWithin.l0] at H
   by_cases c4 : x10_1 < (a0.size : Int)
   ·rw [if_pos c4] at H
    have c4b0 := decide_eq_true c4
    clear c4
    obtain ⟨c5, H⟩ := ifS H
    have c5b0 := decide_eq_true c5
    clear c5
    obtain ⟨c6, H⟩ := ifS H
    have c6b0 := decide_eq_true c6
    clear c6
    by_cases c8 : (bt a0 x10_1) < a1
    ·rw [if_pos c8] at H
     have c8b0 := decide_eq_true c8
     clear c8
     obtain rfl := Option.some.inj H
     have p7 : 0 ≤ (x10_1 : Int) := of_decide_eq_true (Z4)
     have q7 : x10_1 < (a0.size : Int) := of_decide_eq_true (Z4)
     have hx7 := bt_at a0 x10_1
     replace p7 := eq_true p7
     replace q7 := eq_true q7
     go_wp2
     go_ret
     exact ⟨Z2, Z11⟩
    ·rw [if_neg c8] at H
     have c8b0 := decide_eq_false c8
     clear c8
     by_cases c10 : (bt a0 x10_1) > a2
     ·rw [if_pos c10] at H
      have c10b0 : decide (a2 < (bt a0 x10_1)) = true := decide_eq_true c10
      clear c10
      obtain rfl := Option.some.inj H
      have p7 : 0 ≤ (x10_1 : Int) := of_decide_eq_true (Z4)
      have q7 : x10_1 < (a0.size : Int) := of_decide_eq_true (Z4)
      have hx7 := bt_at a0 x10_1
      replace p7 := eq_true p7
      replace q7 := eq_true q7
      have p9 : 0 ≤ (x10_1 : Int) := of_decide_eq_true (Z4)
      have q9 : x10_1 < (a0.size : Int) := of_decide_eq_true (Z4)
      have hx9 := bt_at a0 x10_1
      replace p9 := eq_true p9
      replace q9 := eq_true q9
      go_wp2
      go_ret
      exact ⟨Z2, Z11⟩
     ·rw [if_neg c10] at H
      have c10b0 : decide (a2 < (bt a0 x10_1)) = false := decide_eq_false c10
      clear c10
      have H' := Aside0.mk H
      clear H
      have p7 : 0 ≤ (x10_1 : Int) := of_decide_eq_true (Z4)
      have q7 : x10_1 < (a0.size : Int) := of_decide_eq_true (Z4)
      have hx7 := bt_at a0 x10_1
      replace p7 := eq_true p7
      replace q7 := eq_true q7
      have p9 : 0 ≤ (x10_1 : Int) := of_decide_eq_true (Z4)
      have q9 : x10_1 < (a0.size : Int) := of_decide_eq_true (Z4)
      have hx9 := bt_at a0 x10_1
      replace p9 := eq_true p9
      replace q9 := eq_true q9
      go_wp2
      go_roundg k1
      case measure => have := HK1.out; omega
      case rel => exact ⟨(wrap64 (x10_1 + 1)), (Z2), H', ⟨Z59⟩, Z11⟩
   ·rw [if_neg c4] at H
    have c4b0 := decide_eq_false c4
    clear c4
    obtain rfl := Option.some.inj H
    go_wp2
    go_ret
    exact ⟨Z2, Z11⟩

-- EXTERNAL: function 75 (strings_ContainsAny)

/-! ### impl_MailOK: function 56 -/
mutual
def impl_MailOK.j0 : Nat → ByteArray → Bool → Option (Bool)
 | 0, _, _ => none
 | k + 1, x0, x16 => if x16 = true then (some false) else ((strings_Split.f x0 (⟨#[13, 10]⟩ : ByteArray)).bind fun t256 => (impl_MailOK.l0 k t256 (t256.length : Int) 0))
def impl_MailOK.l0 : Nat → List ByteArray → Int → Int → Option (Bool)
 | 0, _, _, _ => none
 | k + 1, x18, x19, x20 => if x20 < x19 then (if 0 ≤ x20 then (if x20 < (x18.length : Int) then (if ((rdOf ByteArray.empty x18 x20).size : Int) > 998 then (some false) else ((impl_allWithin.f k (rdOf ByteArray.empty x18 x20) 1 127).bind fun t260 => (if t260 = true then ((strings_ContainsAny.f (rdOf ByteArray.empty x18 x20) (⟨#[13, 10]⟩ : ByteArray)).bind fun t261 => (if t261 = true then (some false) else (impl_MailOK.l0 k x18 x19 (wrap64 (x20 + 1))))) else (some false)))) else (none)) else (none)) else (some true)
end
def impl_MailOK.f (k : Nat) (a0 : ByteArray) : Option (Bool) := if (a0.size : Int) > 65536 then (impl_MailOK.j0 k a0 true) else (if a0.toList = ([] : List UInt8) then (impl_MailOK.j0 k a0 false) else ((strings_HasSuffix.f a0 (⟨#[13, 10]⟩ : ByteArray)).bind fun t255 => (impl_MailOK.j0 k a0 (!t255))))
theorem impl_MailOK.mono_l : ∀ k, (∀ y0 y1, LeO (impl_MailOK.j0 k y0 y1) (impl_MailOK.j0 (k + 1) y0 y1)) ∧ (∀ y0 y1 y2, LeO (impl_MailOK.l0 k y0 y1 y2) (impl_MailOK.l0 (k + 1) y0 y1 y2))
 | 0 => ⟨fun _ _ r h => by simp [impl_MailOK.j0] at h, fun _ _ _ r h => by simp [impl_MailOK.l0] at h⟩
 | k + 1 => by
  obtain ⟨ih0, ih1⟩ := impl_MailOK.mono_l k
  refine ⟨?_, ?_⟩
  ·intro y0 y1
   unfold impl_MailOK.j0
   have m0 := @impl_allWithin.mono
   exact tM
  ·intro y0 y1 y2
   unfold impl_MailOK.l0
   have m0 := @impl_allWithin.mono
   exact tM
theorem impl_MailOK.mono : ∀ a0 k, LeO (impl_MailOK.f k a0) (impl_MailOK.f (k + 1) a0) := by
 intro a0 k
 obtain ⟨ih0, ih1⟩ := impl_MailOK.mono_l k
 unfold impl_MailOK.f
 have m0 := @impl_allWithin.mono
 exact tM
set_option maxHeartbeats 40000000 in
set_option maxRecDepth 100000 in
theorem impl_MailOK.calls (k : Nat) (a0 : ByteArray) (r : Bool) (w : World) (HG : Aside0 (Glob w)) (h : impl_MailOK.f k a0 = some r) :
  Calls Tryz.prog 56 #[.string a0] w fun e w' => e = .returned (.bool r) ∧ Below w.heap.size w w' := by
 have HB := Aside0.mk (Below.refl w.heap.size w)
 have H : (if (a0.size : Int) > 65536 then (impl_MailOK.j0 k a0 true) else (if a0.toList = ([] : List UInt8) then (impl_MailOK.j0 k a0 false) else ((strings_HasSuffix.f a0 (⟨#[13, 10]⟩ : ByteArray)).bind fun t255 => (impl_MailOK.j0 k a0 (!t255))))) = some r := h
 clear h
 have HC2 := Aside0.mk H
 clear H
 go_enter Tryz.func56, Tryz.ntmps56
 go_upto_region 1 with (fail)
 go_cut [16] (fun v16 wc => ∃ (kq : Nat) (x16_1 : Bool), v16 = .bool x16_1 ∧ Aside0 (impl_MailOK.j0 kq a0 x16_1 = some r) ∧ Aside0 (kq ≤ k) ∧ Aside0 (Below w.heap.size w wc))
 case first =>
  have H := HC2.out
  clear HC2
  by_cases c3 : (a0.size : Int) > 65536
  ·rw [if_pos c3] at H
   have c3b0 : decide (65536 < (a0.size : Int)) = true := decide_eq_true c3
   have c3b1 : decide (65536 < a0.size) = true := decide_eq_true (Z46)
   clear c3
   (first | rw [c3b0] | rw [c3b1] | (simp only [i64_w, i32_w]; rw [c3b0]) | skip)
   have H' := Aside0.mk H
   clear H
   go_wp2
   go_meet
   case rel => exact ⟨_, (true), (Z2), H', ⟨Z40⟩, ⟨Z0⟩⟩
  ·rw [if_neg c3] at H
   have c3b0 : decide (65536 < (a0.size : Int)) = false := decide_eq_false c3
   have c3b1 : decide (65536 < a0.size) = false := decide_eq_false (Z46)
   clear c3
   (first | rw [c3b0] | rw [c3b1] | (simp only [i64_w, i32_w]; rw [c3b0]) | skip)
   by_cases c4 : a0.toList = ([] : List UInt8)
   ·rw [if_pos c4] at H
    have c4b0 := beq_iff_eq.mpr c4
    have c4b1 := bne_eq_false_iff_eq.mpr c4
    clear c4
    have H' := Aside0.mk H
    clear H
    go_wp2
    go_meet
    case rel => exact ⟨_, (false), (Z2), H', ⟨Z40⟩, ⟨Z0⟩⟩
   ·rw [if_neg c4] at H
    have c4b0 := beq_eq_false_iff_ne.mpr c4
    have c4b1 := bne_iff_ne.mpr c4
    obtain ⟨t255, A5, H⟩ := bindA H
    try dsimp only at H
    have H' := Aside0.mk H
    clear H
    go_wp2_with (first | (go_at_call 72; (with_reducible refine (strings_HasSuffix.calls a0 (⟨#[13, 10]⟩ : ByteArray) t255 _ A5.out).mono ?_); rintro e w' ⟨rfl, ⟨nd, rfl⟩⟩))
    go_meet
    case rel => exact ⟨_, (!t255), (Z2), H', ⟨Z40⟩, ⟨Z0⟩⟩
 case rest =>
  clear HC2
  obtain ⟨kq, x16_1, rfl, HA, HJ1, HB⟩ := hcut
  cases kq with
  | zero => exact absurd HA.out (by simp [impl_MailOK.j0])
  | succ kj1 =>
   have H := HA.out
   clear HA
   simp only [impl_MailOK.j0] at H
   by_cases c6 : x16_1 = true
   ·subst c6
    replace H := ifT H
    obtain rfl := Option.some.inj H
    go_wp2
    go_ret
    exact ⟨Z3, Z0⟩
   ·replace c6 := Bool.eq_false_iff.mpr c6
    subst c6
    replace H := ifF H
    obtain ⟨t256, A7, H⟩ := bindA H
    try dsimp only at H
    have H' := Aside0.mk H
    clear H
    go_wp2_with (first | ((with_reducible refine gate_callee (f := 73) rfl ?_); refine goesL_ (some 18) rfl rfl Tryz.func73 (Z20) rfl #[.string a0, .string (⟨#[13, 10]⟩ : ByteArray)] rfl (Z1) ?_; (with_reducible refine (strings_Split.calls a0 (⟨#[13, 10]⟩ : ByteArray) t256 _ ?side1 A7.out).mono ?_); (case side1 => first | exact HG | exact ⟨HG.out.of rfl⟩ | (refine ⟨HG.out.on ?_⟩; (repeat (first | (with_reducible first | exact HB.out | apply below_alloc | apply pw_below_drewN | apply below_drew1) | exact HB.out)); done) | exact ⟨HG.out.on HBW.out⟩); rintro e w8 ⟨v257, rfl, ho0, hb⟩; refine ⟨_, rfl, ?_⟩; have HO258 := Aside0.mk (Kd.R_lower ho0 (below_size (Z0))); replace HB := Aside0.mk (below_step (Z0) hb); (try clear hb); (try clear ho0); obtain ⟨Ao9, co9, eo9⟩ := Kd.R_slice HO258.out; subst eo9))
    go_loopg [20] kj1 (fun kq v20 w' => ∃ (x20_2 : Int), v20 = .int .i64 x20_2 ∧ Aside0 (impl_MailOK.l0 kq t256 (t256.length : Int) x20_2 = some r) ∧ Aside0 (kq ≤ kj1) ∧ Aside0 (Kd.R Kd.string 9 w' w.heap.size (fun _ => True) (.slice Ao9 t256.length co9) t256) ∧ Aside0 (Below w.heap.size w w'))
    case atStart => exact ⟨(0), (Z2), H', ⟨Nat.le_refl _⟩, ⟨by (with_reducible repeat (first | apply Kd.R_alloc | apply Kd.R_drewN | apply Kd.R_drew)); exact HO258.out⟩, ⟨Z0⟩⟩
    case round =>
     clear H'
     (try clear c6)
     obtain ⟨x20_2, rfl, HA, HK2, HO_18, HB⟩ := hrel
     cases gk with
     | zero => exact absurd HA.out (by simp [impl_MailOK.l0])
     | succ k2 =>
      have H := HA.out
      clear HA
      simp only [impl_MailOK.l0] at H
      by_cases c10 : x20_2 < (t256.length : Int)
      ·rw [if_pos c10] at H
       have c10b0 := decide_eq_true c10
       clear c10
       obtain ⟨c11, H⟩ := ifS H
       have c11b0 := decide_eq_true c11
       clear c11
       obtain ⟨c12, H⟩ := ifS H
       have c12b0 := decide_eq_true c12
       clear c12
       by_cases c13 : ((rdOf ByteArray.empty t256 x20_2).size : Int) > 998
       ·rw [if_pos c13] at H
        have c13b0 : decide (998 < ((rdOf ByteArray.empty t256 x20_2).size : Int)) = true := decide_eq_true c13
        have c13b1 : decide (998 < (rdOf ByteArray.empty t256 x20_2).size) = true := decide_eq_true (Z46)
        clear c13
        obtain rfl := Option.some.inj H
        have p259 : 0 ≤ (x20_2 : Int) := of_decide_eq_true (Z4)
        have q259 : x20_2 < (t256.length : Int) := of_decide_eq_true (Z4)
        obtain ⟨ad259, e259, hx259_0⟩ := Kd.at_string (Kd.R_reads' HO_18.out).2.2 x20_2 p259 q259
        cases e259
        replace p259 := eq_true p259
        replace q259 := eq_true q259
        go_wp2
        go_ret
        exact ⟨Z3, Z0⟩
       ·rw [if_neg c13] at H
        have c13b0 : decide (998 < ((rdOf ByteArray.empty t256 x20_2).size : Int)) = false := decide_eq_false c13
        have c13b1 : decide (998 < (rdOf ByteArray.empty t256 x20_2).size) = false := decide_eq_false (Z46)
        clear c13
        obtain ⟨t260, A14, H⟩ := bindA H
        try dsimp only at H
        by_cases c15 : t260 = true
        ·subst c15
         replace H := ifT H
         obtain ⟨t261, A16, H⟩ := bindA H
         try dsimp only at H
         by_cases c17 : t261 = true
         ·subst c17
          replace H := ifT H
          obtain rfl := Option.some.inj H
          have p259 : 0 ≤ (x20_2 : Int) := of_decide_eq_true (Z4)
          have q259 : x20_2 < (t256.length : Int) := of_decide_eq_true (Z4)
          obtain ⟨ad259, e259, hx259_0⟩ := Kd.at_string (Kd.R_reads' HO_18.out).2.2 x20_2 p259 q259
          cases e259
          replace p259 := eq_true p259
          replace q259 := eq_true q259
          go_wp2_with (first | (go_at_call 74; (with_reducible refine (impl_allWithin.calls k2 (rdOf ByteArray.empty t256 x20_2) 1 127 true _ A14.out).mono ?_); rintro e w' ⟨rfl, ⟨nd, rfl⟩⟩) | (go_at_call 75; (with_reducible refine (strings_ContainsAny.calls (rdOf ByteArray.empty t256 x20_2) (⟨#[13, 10]⟩ : ByteArray) true _ A16.out).mono ?_); rintro e w18 ⟨rfl, hb⟩; replace HO_18 := Aside0.mk (Kd.R_below (Z69) hb); replace HB := Aside0.mk (below_step (Z0) hb); (try clear hb)))
          go_ret
          exact ⟨Z3, Z0⟩
         ·replace c17 := Bool.eq_false_iff.mpr c17
          subst c17
          replace H := ifF H
          have H' := Aside0.mk H
          clear H
          have p259 : 0 ≤ (x20_2 : Int) := of_decide_eq_true (Z4)
          have q259 : x20_2 < (t256.length : Int) := of_decide_eq_true (Z4)
          obtain ⟨ad259, e259, hx259_0⟩ := Kd.at_string (Kd.R_reads' HO_18.out).2.2 x20_2 p259 q259
          cases e259
          replace p259 := eq_true p259
          replace q259 := eq_true q259
          go_wp2_with (first | (go_at_call 74; (with_reducible refine (impl_allWithin.calls k2 (rdOf ByteArray.empty t256 x20_2) 1 127 true _ A14.out).mono ?_); rintro e w' ⟨rfl, ⟨nd, rfl⟩⟩) | (go_at_call 75; (with_reducible refine (strings_ContainsAny.calls (rdOf ByteArray.empty t256 x20_2) (⟨#[13, 10]⟩ : ByteArray) false _ A16.out).mono ?_); rintro e w19 ⟨rfl, hb⟩; replace HO_18 := Aside0.mk (Kd.R_below (Z69) hb); replace HB := Aside0.mk (below_step (Z0) hb); (try clear hb)))
          go_roundg k2
          case measure => have := HJ1.out; have := HK2.out; omega
          case rel => exact ⟨(wrap64 (x20_2 + 1)), (Z2), H', ⟨by have := HJ1.out; have := HK2.out; omega⟩, ⟨Z69⟩, ⟨Z0⟩⟩
        ·replace c15 := Bool.eq_false_iff.mpr c15
         subst c15
         replace H := ifF H
         obtain rfl := Option.some.inj H
         have p259 : 0 ≤ (x20_2 : Int) := of_decide_eq_true (Z4)
         have q259 : x20_2 < (t256.length : Int) := of_decide_eq_true (Z4)
         obtain ⟨ad259, e259, hx259_0⟩ := Kd.at_string (Kd.R_reads' HO_18.out).2.2 x20_2 p259 q259
         cases e259
         replace p259 := eq_true p259
         replace q259 := eq_true q259
         go_wp2_with (first | (go_at_call 74; (with_reducible refine (impl_allWithin.calls k2 (rdOf ByteArray.empty t256 x20_2) 1 127 false _ A14.out).mono ?_); rintro e w' ⟨rfl, ⟨nd, rfl⟩⟩))
         go_ret
         exact ⟨Z3, Z0⟩
      ·rw [if_neg c10] at H
       have c10b0 := decide_eq_false c10
       clear c10
       obtain rfl := Option.some.inj H
       go_wp2
       go_ret
       exact ⟨Z3, Z0⟩

/-! ### stringslite_CutPrefix: function 90 -/
def stringslite_CutPrefix.f (a0 : ByteArray) (a1 : ByteArray) : Option (ByteArray × Bool) := (stringslite_HasPrefix.f a0 a1).bind fun t262 => (if t262 = true then (if 0 ≤ (a1.size : Int) then (if (a1.size : Int) ≤ (a0.size : Int) then (some (a0.extract ((a1.size : Int) : Int).toNat a0.size, true)) else (none)) else (none)) else (some (a0, false)))
set_option maxHeartbeats 40000000 in
set_option maxRecDepth 100000 in
theorem stringslite_CutPrefix.calls (a0 : ByteArray) (a1 : ByteArray) (r1 : ByteArray) (r2 : Bool) (w : World) (h : stringslite_CutPrefix.f a0 a1 = some (r1, r2)) :
  Calls Tryz.prog 90 #[.string a0, .string a1] w fun e w' => e = .returned (.tuple #[.string r1, .bool r2]) ∧ Drawn0 w w' := by
 have H : ((stringslite_HasPrefix.f a0 a1).bind fun t262 => (if t262 = true then (if 0 ≤ (a1.size : Int) then (if (a1.size : Int) ≤ (a0.size : Int) then (some (a0.extract ((a1.size : Int) : Int).toNat a0.size, true)) else (none)) else (none)) else (some (a0, false)))) = some (r1, r2) := h
 clear h
 obtain ⟨t262, A3, H⟩ := bindA H
 try dsimp only at H
 by_cases c4 : t262 = true
 ·subst c4
  replace H := ifT H
  obtain ⟨c5, H⟩ := ifS H
  have c5b0 := eq_true c5
  have c5b1 : decide (0 ≤ (a1.size : Int)) = true := decide_eq_true c5
  clear c5
  obtain ⟨c6, H⟩ := ifS H
  have c6b0 := eq_true c6
  have c6b1 : decide ((a1.size : Int) ≤ (a0.size : Int)) = true := decide_eq_true c6
  clear c6
  simp only [Option.some.injEq, Prod.mk.injEq] at H
  obtain ⟨rfl, rfl⟩ := H
  go_enter Tryz.func90, Tryz.ntmps90
  go_wp2_with (first | ((with_reducible refine gate_callee (f := 87) rfl ?_); refine goesL_ (some 8) rfl rfl Tryz.func87 (Z20) rfl #[.string a0, .string a1] rfl (Z1) ?_; (with_reducible refine (stringslite_HasPrefix.calls a0 a1 true _ A3.out).mono ?_); rintro e w' ⟨rfl, ⟨nd, rfl⟩⟩; refine ⟨_, rfl, ?_⟩))
  go_ret2
  exact ⟨Z2, Z11⟩
 ·replace c4 := Bool.eq_false_iff.mpr c4
  subst c4
  replace H := ifF H
  simp only [Option.some.injEq, Prod.mk.injEq] at H
  obtain ⟨rfl, rfl⟩ := H
  go_enter Tryz.func90, Tryz.ntmps90
  go_wp2_with (first | ((with_reducible refine gate_callee (f := 87) rfl ?_); refine goesL_ (some 8) rfl rfl Tryz.func87 (Z20) rfl #[.string a0, .string a1] rfl (Z1) ?_; (with_reducible refine (stringslite_HasPrefix.calls a0 a1 false _ A3.out).mono ?_); rintro e w' ⟨rfl, ⟨nd, rfl⟩⟩; refine ⟨_, rfl, ?_⟩))
  go_ret2
  exact ⟨Z2, Z11⟩

/-! ### strings_CutPrefix: function 76 -/
def strings_CutPrefix.f (a0 : ByteArray) (a1 : ByteArray) : Option (ByteArray × Bool) := (stringslite_CutPrefix.f a0 a1).bind fun bt263 => (some (bt263.1, bt263.2))
set_option maxHeartbeats 40000000 in
set_option maxRecDepth 100000 in
theorem strings_CutPrefix.calls (a0 : ByteArray) (a1 : ByteArray) (r1 : ByteArray) (r2 : Bool) (w : World) (h : strings_CutPrefix.f a0 a1 = some (r1, r2)) :
  Calls Tryz.prog 76 #[.string a0, .string a1] w fun e w' => e = .returned (.tuple #[.string r1, .bool r2]) ∧ Drawn0 w w' := by
 have H : ((stringslite_CutPrefix.f a0 a1).bind fun bt263 => (some (bt263.1, bt263.2))) = some (r1, r2) := h
 clear h
 obtain ⟨⟨t263, t264⟩, A3, H⟩ := bindA H
 try dsimp only at H
 simp only [Option.some.injEq, Prod.mk.injEq] at H
 obtain ⟨rfl, rfl⟩ := H
 go_enter Tryz.func76, Tryz.ntmps76
 go_wp2_with (first | ((with_reducible refine gate_callee (f := 90) rfl ?_); refine goesL_ (some 8) rfl rfl Tryz.func90 (Z20) rfl #[.string a0, .string a1] rfl (Z1) ?_; (with_reducible refine (stringslite_CutPrefix.calls a0 a1 t263 t264 _ A3.out).mono ?_); rintro e w' ⟨rfl, ⟨nd, rfl⟩⟩; refine ⟨_, rfl, ?_⟩))
 go_ret2
 exact ⟨Z2, Z11⟩

-- EXTERNAL: function 77 (strings_ReplaceAll)

-- EXTERNAL: function 92 (strings_Contains)

/-! ### impl_HeaderNameOK: function 78 -/
def impl_HeaderNameOK.f (k : Nat) (a0 : ByteArray) : Option (Bool) := (impl_within.f (a0.size : Int) 1 40).bind fun t265 => (if t265 = true then ((impl_allWithin.f k a0 33 126).bind fun t266 => (if t266 = true then ((strings_Contains.f a0 (⟨#[58]⟩ : ByteArray)).bind fun t267 => (some (!t267))) else (some false))) else (some false))
theorem impl_HeaderNameOK.mono : ∀ a0 k, LeO (impl_HeaderNameOK.f k a0) (impl_HeaderNameOK.f (k + 1) a0) := by
 intro a0 k
 unfold impl_HeaderNameOK.f
 have m0 := @impl_allWithin.mono
 exact tM
set_option maxHeartbeats 40000000 in
set_option maxRecDepth 100000 in
theorem impl_HeaderNameOK.calls (k : Nat) (a0 : ByteArray) (r : Bool) (w : World) (HG : Aside0 (Glob w)) (h : impl_HeaderNameOK.f k a0 = some r) :
  Calls Tryz.prog 78 #[.string a0] w fun e w' => e = .returned (.bool r) ∧ Drawn0 w w' := by
 have H : ((impl_within.f (a0.size : Int) 1 40).bind fun t265 => (if t265 = true then ((impl_allWithin.f k a0 33 126).bind fun t266 => (if t266 = true then ((strings_Contains.f a0 (⟨#[58]⟩ : ByteArray)).bind fun t267 => (some (!t267))) else (some false))) else (some false))) = some r := h
 clear h
 obtain ⟨t265, A2, H⟩ := bindA H
 try dsimp only at H
 by_cases c3 : t265 = true
 ·subst c3
  replace H := ifT H
  obtain ⟨t266, A4, H⟩ := bindA H
  try dsimp only at H
  by_cases c5 : t266 = true
  ·subst c5
   replace H := ifT H
   obtain ⟨t267, A6, H⟩ := bindA H
   try dsimp only at H
   obtain rfl := Option.some.inj H
   go_enter Tryz.func78, Tryz.ntmps78
   go_wp2_with (first | ((with_reducible refine gate_callee (f := 13) rfl ?_); refine goesL_ (some 5) rfl rfl Tryz.func13 (Z20) rfl #[.int .i64 (a0.size : Int), .int .i64 1, .int .i64 40] rfl (Z1) ?_; (with_reducible refine (impl_within.calls (a0.size : Int) 1 40 true _ A2.out).mono ?_); rintro e w' ⟨rfl, ⟨nd, rfl⟩⟩; refine ⟨_, rfl, ?_⟩) | (go_at_call 74; (with_reducible refine (impl_allWithin.calls k a0 33 126 true _ A4.out).mono ?_); rintro e w' ⟨rfl, ⟨nd, rfl⟩⟩) | (go_at_call 92; (with_reducible refine (strings_Contains.calls a0 (⟨#[58]⟩ : ByteArray) t267 _ ?side1 A6.out).mono ?_); (case side1 => first | exact HG | exact ⟨HG.out.of rfl⟩ | (refine ⟨HG.out.on ?_⟩; (repeat (first | (with_reducible first | exact HB.out | apply below_alloc | apply pw_below_drewN | apply below_drew1) | exact HB.out)); done) | exact ⟨HG.out.on HBW.out⟩); rintro e w' ⟨rfl, ⟨nd, rfl⟩⟩))
   go_ret
   exact ⟨Z2, Z11⟩
  ·replace c5 := Bool.eq_false_iff.mpr c5
   subst c5
   replace H := ifF H
   obtain rfl := Option.some.inj H
   go_enter Tryz.func78, Tryz.ntmps78
   go_wp2_with (first | ((with_reducible refine gate_callee (f := 13) rfl ?_); refine goesL_ (some 5) rfl rfl Tryz.func13 (Z20) rfl #[.int .i64 (a0.size : Int), .int .i64 1, .int .i64 40] rfl (Z1) ?_; (with_reducible refine (impl_within.calls (a0.size : Int) 1 40 true _ A2.out).mono ?_); rintro e w' ⟨rfl, ⟨nd, rfl⟩⟩; refine ⟨_, rfl, ?_⟩) | (go_at_call 74; (with_reducible refine (impl_allWithin.calls k a0 33 126 false _ A4.out).mono ?_); rintro e w' ⟨rfl, ⟨nd, rfl⟩⟩))
   go_ret
   exact ⟨Z2, Z11⟩
 ·replace c3 := Bool.eq_false_iff.mpr c3
  subst c3
  replace H := ifF H
  obtain rfl := Option.some.inj H
  go_enter Tryz.func78, Tryz.ntmps78
  go_wp2_with (first | ((with_reducible refine gate_callee (f := 13) rfl ?_); refine goesL_ (some 5) rfl rfl Tryz.func13 (Z20) rfl #[.int .i64 (a0.size : Int), .int .i64 1, .int .i64 40] rfl (Z1) ?_; (with_reducible refine (impl_within.calls (a0.size : Int) 1 40 false _ A2.out).mono ?_); rintro e w' ⟨rfl, ⟨nd, rfl⟩⟩; refine ⟨_, rfl, ?_⟩))
  go_ret
  exact ⟨Z2, Z11⟩

/-! ### impl_SafeValue: function 79 -/
mutual
def impl_SafeValue.j0 : Nat → ByteArray → Bool → Option (Bool)
 | 0, _, _ => none
 | k + 1, x0, x12 => if x12 = true then (some false) else (if x0.toList = ([] : List UInt8) then (some true) else ((strings_Split.f x0 (⟨#[32]⟩ : ByteArray)).bind fun t269 => (impl_SafeValue.l0 k t269 (t269.length : Int) 0)))
def impl_SafeValue.l0 : Nat → List ByteArray → Int → Int → Option (Bool)
 | 0, _, _, _ => none
 | k + 1, x16, x17, x18 => if x18 < x17 then (if 0 ≤ x18 then (if x18 < (x16.length : Int) then (if (rdOf ByteArray.empty x16 x18).toList = ([] : List UInt8) then (some false) else (if ((rdOf ByteArray.empty x16 x18).size : Int) > 200 then (some false) else (impl_SafeValue.l0 k x16 x17 (wrap64 (x18 + 1))))) else (none)) else (none)) else (some true)
end
def impl_SafeValue.f (k : Nat) (a0 : ByteArray) : Option (Bool) := if (a0.size : Int) > 2000 then (impl_SafeValue.j0 k a0 true) else ((impl_allWithin.f k a0 32 126).bind fun t268 => (impl_SafeValue.j0 k a0 (!t268)))
theorem impl_SafeValue.mono_l : ∀ k, (∀ y0 y1, LeO (impl_SafeValue.j0 k y0 y1) (impl_SafeValue.j0 (k + 1) y0 y1)) ∧ (∀ y0 y1 y2, LeO (impl_SafeValue.l0 k y0 y1 y2) (impl_SafeValue.l0 (k + 1) y0 y1 y2))
 | 0 => ⟨fun _ _ r h => by simp [impl_SafeValue.j0] at h, fun _ _ _ r h => by simp [impl_SafeValue.l0] at h⟩
 | k + 1 => by
  obtain ⟨ih0, ih1⟩ := impl_SafeValue.mono_l k
  refine ⟨?_, ?_⟩
  ·intro y0 y1
   unfold impl_SafeValue.j0
   have m0 := @impl_allWithin.mono
   exact tM
  ·intro y0 y1 y2
   unfold impl_SafeValue.l0
   have m0 := @impl_allWithin.mono
   exact tM
theorem impl_SafeValue.mono : ∀ a0 k, LeO (impl_SafeValue.f k a0) (impl_SafeValue.f (k + 1) a0) := by
 intro a0 k
 obtain ⟨ih0, ih1⟩ := impl_SafeValue.mono_l k
 unfold impl_SafeValue.f
 have m0 := @impl_allWithin.mono
 exact tM
set_option maxHeartbeats 40000000 in
set_option maxRecDepth 100000 in
theorem impl_SafeValue.calls (k : Nat) (a0 : ByteArray) (r : Bool) (w : World) (HG : Aside0 (Glob w)) (h : impl_SafeValue.f k a0 = some r) :
  Calls Tryz.prog 79 #[.string a0] w fun e w' => e = .returned (.bool r) ∧ Below w.heap.size w w' := by
 have HB := Aside0.mk (Below.refl w.heap.size w)
 have H : (if (a0.size : Int) > 2000 then (impl_SafeValue.j0 k a0 true) else ((impl_allWithin.f k a0 32 126).bind fun t268 => (impl_SafeValue.j0 k a0 (!t268)))) = some r := h
 clear h
 have HC2 := Aside0.mk H
 clear H
 go_enter Tryz.func79, Tryz.ntmps79
 go_upto_region 1 with (fail)
 go_cut [12] (fun v12 wc => ∃ (kq : Nat) (x12_1 : Bool), v12 = .bool x12_1 ∧ Aside0 (impl_SafeValue.j0 kq a0 x12_1 = some r) ∧ Aside0 (kq ≤ k) ∧ Aside0 (Below w.heap.size w wc))
 case first =>
  have H := HC2.out
  clear HC2
  by_cases c3 : (a0.size : Int) > 2000
  ·rw [if_pos c3] at H
   have c3b0 : decide (2000 < (a0.size : Int)) = true := decide_eq_true c3
   have c3b1 : decide (2000 < a0.size) = true := decide_eq_true (Z46)
   clear c3
   (first | rw [c3b0] | rw [c3b1] | (simp only [i64_w, i32_w]; rw [c3b0]) | skip)
   have H' := Aside0.mk H
   clear H
   go_wp2
   go_meet
   case rel => exact ⟨_, (true), (Z2), H', ⟨Z40⟩, ⟨Z0⟩⟩
  ·rw [if_neg c3] at H
   have c3b0 : decide (2000 < (a0.size : Int)) = false := decide_eq_false c3
   have c3b1 : decide (2000 < a0.size) = false := decide_eq_false (Z46)
   clear c3
   (first | rw [c3b0] | rw [c3b1] | (simp only [i64_w, i32_w]; rw [c3b0]) | skip)
   obtain ⟨t268, A4, H⟩ := bindA H
   try dsimp only at H
   have H' := Aside0.mk H
   clear H
   go_wp2_with (first | (go_at_call 74; (with_reducible refine (impl_allWithin.calls k a0 32 126 t268 _ A4.out).mono ?_); rintro e w' ⟨rfl, ⟨nd, rfl⟩⟩))
   go_meet
   case rel => exact ⟨_, (!t268), (Z2), H', ⟨Z40⟩, ⟨Z0⟩⟩
 case rest =>
  clear HC2
  obtain ⟨kq, x12_1, rfl, HA, HJ1, HB⟩ := hcut
  cases kq with
  | zero => exact absurd HA.out (by simp [impl_SafeValue.j0])
  | succ kj1 =>
   have H := HA.out
   clear HA
   simp only [impl_SafeValue.j0] at H
   by_cases c5 : x12_1 = true
   ·subst c5
    replace H := ifT H
    obtain rfl := Option.some.inj H
    go_wp2
    go_ret
    exact ⟨Z3, Z0⟩
   ·replace c5 := Bool.eq_false_iff.mpr c5
    subst c5
    replace H := ifF H
    by_cases c6 : a0.toList = ([] : List UInt8)
    ·rw [if_pos c6] at H
     have c6b0 := beq_iff_eq.mpr c6
     have c6b1 := bne_eq_false_iff_eq.mpr c6
     clear c6
     obtain rfl := Option.some.inj H
     go_wp2
     go_ret
     exact ⟨Z3, Z0⟩
    ·rw [if_neg c6] at H
     have c6b0 := beq_eq_false_iff_ne.mpr c6
     have c6b1 := bne_iff_ne.mpr c6
     obtain ⟨t269, A7, H⟩ := bindA H
     try dsimp only at H
     have H' := Aside0.mk H
     clear H
     go_wp2_with (first | ((with_reducible refine gate_callee (f := 73) rfl ?_); refine goesL_ (some 16) rfl rfl Tryz.func73 (Z20) rfl #[.string a0, .string (⟨#[32]⟩ : ByteArray)] rfl (Z1) ?_; (with_reducible refine (strings_Split.calls a0 (⟨#[32]⟩ : ByteArray) t269 _ ?side1 A7.out).mono ?_); (case side1 => first | exact HG | exact ⟨HG.out.of rfl⟩ | (refine ⟨HG.out.on ?_⟩; (repeat (first | (with_reducible first | exact HB.out | apply below_alloc | apply pw_below_drewN | apply below_drew1) | exact HB.out)); done) | exact ⟨HG.out.on HBW.out⟩); rintro e w8 ⟨v270, rfl, ho0, hb⟩; refine ⟨_, rfl, ?_⟩; have HO271 := Aside0.mk (Kd.R_lower ho0 (below_size (Z0))); replace HB := Aside0.mk (below_step (Z0) hb); (try clear hb); (try clear ho0); obtain ⟨Ao9, co9, eo9⟩ := Kd.R_slice HO271.out; subst eo9))
     go_loopg [18] kj1 (fun kq v18 w' => ∃ (x18_2 : Int), v18 = .int .i64 x18_2 ∧ Aside0 (impl_SafeValue.l0 kq t269 (t269.length : Int) x18_2 = some r) ∧ Aside0 (kq ≤ kj1) ∧ Aside0 (Kd.R Kd.string 9 w' w.heap.size (fun _ => True) (.slice Ao9 t269.length co9) t269) ∧ Aside0 (Below w.heap.size w w'))
     case atStart => exact ⟨(0), (Z2), H', ⟨Nat.le_refl _⟩, ⟨by (with_reducible repeat (first | apply Kd.R_alloc | apply Kd.R_drewN | apply Kd.R_drew)); exact HO271.out⟩, ⟨Z0⟩⟩
     case round =>
      clear H'
      (try clear c5); (try clear c6); (try clear c6b0); (try clear c6b1)
      obtain ⟨x18_2, rfl, HA, HK2, HO_16, HB⟩ := hrel
      cases gk with
      | zero => exact absurd HA.out (by simp [impl_SafeValue.l0])
      | succ k2 =>
       have H := HA.out
       clear HA
       simp only [impl_SafeValue.l0] at H
       by_cases c10 : x18_2 < (t269.length : Int)
       ·rw [if_pos c10] at H
        have c10b0 := decide_eq_true c10
        clear c10
        obtain ⟨c11, H⟩ := ifS H
        have c11b0 := decide_eq_true c11
        clear c11
        obtain ⟨c12, H⟩ := ifS H
        have c12b0 := decide_eq_true c12
        clear c12
        by_cases c13 : (rdOf ByteArray.empty t269 x18_2).toList = ([] : List UInt8)
        ·rw [if_pos c13] at H
         have c13b0 := beq_iff_eq.mpr c13
         have c13b1 := bne_eq_false_iff_eq.mpr c13
         clear c13
         obtain rfl := Option.some.inj H
         have p272 : 0 ≤ (x18_2 : Int) := of_decide_eq_true (Z4)
         have q272 : x18_2 < (t269.length : Int) := of_decide_eq_true (Z4)
         obtain ⟨ad272, e272, hx272_0⟩ := Kd.at_string (Kd.R_reads' HO_16.out).2.2 x18_2 p272 q272
         cases e272
         replace p272 := eq_true p272
         replace q272 := eq_true q272
         go_wp2
         go_ret
         exact ⟨Z3, Z0⟩
        ·rw [if_neg c13] at H
         have c13b0 := beq_eq_false_iff_ne.mpr c13
         have c13b1 := bne_iff_ne.mpr c13
         by_cases c14 : ((rdOf ByteArray.empty t269 x18_2).size : Int) > 200
         ·rw [if_pos c14] at H
          have c14b0 : decide (200 < ((rdOf ByteArray.empty t269 x18_2).size : Int)) = true := decide_eq_true c14
          have c14b1 : decide (200 < (rdOf ByteArray.empty t269 x18_2).size) = true := decide_eq_true (Z46)
          clear c14
          obtain rfl := Option.some.inj H
          have p272 : 0 ≤ (x18_2 : Int) := of_decide_eq_true (Z4)
          have q272 : x18_2 < (t269.length : Int) := of_decide_eq_true (Z4)
          obtain ⟨ad272, e272, hx272_0⟩ := Kd.at_string (Kd.R_reads' HO_16.out).2.2 x18_2 p272 q272
          cases e272
          replace p272 := eq_true p272
          replace q272 := eq_true q272
          go_wp2
          go_ret
          exact ⟨Z3, Z0⟩
         ·rw [if_neg c14] at H
          have c14b0 : decide (200 < ((rdOf ByteArray.empty t269 x18_2).size : Int)) = false := decide_eq_false c14
          have c14b1 : decide (200 < (rdOf ByteArray.empty t269 x18_2).size) = false := decide_eq_false (Z46)
          clear c14
          have H' := Aside0.mk H
          clear H
          have p272 : 0 ≤ (x18_2 : Int) := of_decide_eq_true (Z4)
          have q272 : x18_2 < (t269.length : Int) := of_decide_eq_true (Z4)
          obtain ⟨ad272, e272, hx272_0⟩ := Kd.at_string (Kd.R_reads' HO_16.out).2.2 x18_2 p272 q272
          cases e272
          replace p272 := eq_true p272
          replace q272 := eq_true q272
          go_wp2
          go_roundg k2
          case measure => have := HJ1.out; have := HK2.out; omega
          case rel => exact ⟨(wrap64 (x18_2 + 1)), (Z2), H', ⟨by have := HJ1.out; have := HK2.out; omega⟩, ⟨by (with_reducible repeat (first | apply Kd.R_alloc | apply Kd.R_drewN | apply Kd.R_drew)); exact HO_16.out⟩, ⟨Z0⟩⟩
       ·rw [if_neg c10] at H
        have c10b0 := decide_eq_false c10
        clear c10
        obtain rfl := Option.some.inj H
        go_wp2
        go_ret
        exact ⟨Z3, Z0⟩

end Go.Proofs.YtcmnndnigjkldaaGreatDoor.PFnExactFetchText
