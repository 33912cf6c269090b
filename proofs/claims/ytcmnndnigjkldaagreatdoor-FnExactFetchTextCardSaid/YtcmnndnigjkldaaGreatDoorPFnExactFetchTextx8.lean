/- Contracts of functions that a statement reaches (wip/x/xprint.py, short.py, compact.py). -/
import Derived.Test.YtcmnndnigjkldaaGreatDoorPFnExactFetchTextxA
import Derived.Test.YtcmnndnigjkldaaGreatDoorPFnExactFetchTextx7
namespace Go.Proofs.YtcmnndnigjkldaaGreatDoor.PFnExactFetchText
open Go.RowKit Go.Proofs.YtcmnndnigjkldaaGreatDoorW.PrintWords Go.Proofs.YtcmnndnigjkldaaGreatDoorW.PrintLast Go.Proofs.YtcmnndnigjkldaaGreatDoorW.PrintMore Go.Proofs.YtcmnndnigjkldaaGreatDoor.Mac
attribute [local go_sem] max2_int min2_int max_two min_two max_three min_three max_four min_four
set_option linter.unusedVariables false
set_option linter.unusedSimpArgs false

/-! ### impl_itemOf: function 22 -/
def impl_itemOf.j0 : Nat → ByteArray → Bool → Option (ByteArray × ByteArray × Bool × Bool × Bool)
 | 0, _, _ => none
 | k + 1, x4, x22 => if x22 = true then (some (x4, (⟨#[]⟩ : ByteArray), false, false, true)) else ((strings_Cut.f x4 (⟨#[91]⟩ : ByteArray)).bind fun bt220 => ((strings_CutSuffix.f bt220.2.1 (⟨#[93]⟩ : ByteArray)).bind fun bt223 => (if bt223.2 = true then (if bt220.1.toList = ([66, 79, 68, 89] : List UInt8) then (if bt223.1.toList = ([] : List UInt8) then (if 5 + bt223.1.size ≤ 9223372036854775807 then (if ((⟨#[66, 79, 68, 89, 91]⟩ : ByteArray) ++ bt223.1).size + 1 ≤ 9223372036854775807 then (some (((⟨#[66, 79, 68, 89, 91]⟩ : ByteArray) ++ bt223.1) ++ (⟨#[93]⟩ : ByteArray), bt223.1, true, (bt220.1.toList == ([66, 79, 68, 89, 46, 80, 69, 69, 75] : List UInt8)), true)) else (none)) else (none)) else (if bt223.1.toList = ([72, 69, 65, 68, 69, 82] : List UInt8) then (if 5 + bt223.1.size ≤ 9223372036854775807 then (if ((⟨#[66, 79, 68, 89, 91]⟩ : ByteArray) ++ bt223.1).size + 1 ≤ 9223372036854775807 then (some (((⟨#[66, 79, 68, 89, 91]⟩ : ByteArray) ++ bt223.1) ++ (⟨#[93]⟩ : ByteArray), bt223.1, true, (bt220.1.toList == ([66, 79, 68, 89, 46, 80, 69, 69, 75] : List UInt8)), true)) else (none)) else (none)) else (if bt223.1.toList = ([84, 69, 88, 84] : List UInt8) then (if 5 + bt223.1.size ≤ 9223372036854775807 then (if ((⟨#[66, 79, 68, 89, 91]⟩ : ByteArray) ++ bt223.1).size + 1 ≤ 9223372036854775807 then (some (((⟨#[66, 79, 68, 89, 91]⟩ : ByteArray) ++ bt223.1) ++ (⟨#[93]⟩ : ByteArray), bt223.1, true, (bt220.1.toList == ([66, 79, 68, 89, 46, 80, 69, 69, 75] : List UInt8)), true)) else (none)) else (none)) else (some ((⟨#[]⟩ : ByteArray), (⟨#[]⟩ : ByteArray), false, false, false))))) else (if (bt220.1.toList = ([66, 79, 68, 89, 46, 80, 69, 69, 75] : List UInt8)) then (if bt223.1.toList = ([] : List UInt8) then (if 5 + bt223.1.size ≤ 9223372036854775807 then (if ((⟨#[66, 79, 68, 89, 91]⟩ : ByteArray) ++ bt223.1).size + 1 ≤ 9223372036854775807 then (some (((⟨#[66, 79, 68, 89, 91]⟩ : ByteArray) ++ bt223.1) ++ (⟨#[93]⟩ : ByteArray), bt223.1, true, (bt220.1.toList == ([66, 79, 68, 89, 46, 80, 69, 69, 75] : List UInt8)), true)) else (none)) else (none)) else (if bt223.1.toList = ([72, 69, 65, 68, 69, 82] : List UInt8) then (if 5 + bt223.1.size ≤ 9223372036854775807 then (if ((⟨#[66, 79, 68, 89, 91]⟩ : ByteArray) ++ bt223.1).size + 1 ≤ 9223372036854775807 then (some (((⟨#[66, 79, 68, 89, 91]⟩ : ByteArray) ++ bt223.1) ++ (⟨#[93]⟩ : ByteArray), bt223.1, true, (bt220.1.toList == ([66, 79, 68, 89, 46, 80, 69, 69, 75] : List UInt8)), true)) else (none)) else (none)) else (if bt223.1.toList = ([84, 69, 88, 84] : List UInt8) then (if 5 + bt223.1.size ≤ 9223372036854775807 then (if ((⟨#[66, 79, 68, 89, 91]⟩ : ByteArray) ++ bt223.1).size + 1 ≤ 9223372036854775807 then (some (((⟨#[66, 79, 68, 89, 91]⟩ : ByteArray) ++ bt223.1) ++ (⟨#[93]⟩ : ByteArray), bt223.1, true, (bt220.1.toList == ([66, 79, 68, 89, 46, 80, 69, 69, 75] : List UInt8)), true)) else (none)) else (none)) else (some ((⟨#[]⟩ : ByteArray), (⟨#[]⟩ : ByteArray), false, false, false))))) else (some ((⟨#[]⟩ : ByteArray), (⟨#[]⟩ : ByteArray), false, false, false)))) else (some ((⟨#[]⟩ : ByteArray), (⟨#[]⟩ : ByteArray), false, false, false)))))
def impl_itemOf.f (k : Nat) (a0 : ByteArray) : Option (ByteArray × ByteArray × Bool × Bool × Bool) := (impl_upper.f a0).bind fun t219 => (if t219.toList = ([70, 76, 65, 71, 83] : List UInt8) then (impl_itemOf.j0 k t219 true) else (if t219.toList = ([85, 73, 68] : List UInt8) then (impl_itemOf.j0 k t219 true) else (impl_itemOf.j0 k t219 (t219.toList == ([82, 70, 67, 56, 50, 50, 46, 83, 73, 90, 69] : List UInt8)))))
theorem impl_itemOf.mono_l : ∀ k, (∀ y0 y1, LeO (impl_itemOf.j0 k y0 y1) (impl_itemOf.j0 (k + 1) y0 y1))
 | 0 => fun _ _ r h => by simp [impl_itemOf.j0] at h
 | k + 1 => by
  have ih0 := impl_itemOf.mono_l k
  ·intro y0 y1
   unfold impl_itemOf.j0
   exact tM
theorem impl_itemOf.mono : ∀ a0 k, LeO (impl_itemOf.f k a0) (impl_itemOf.f (k + 1) a0) := by
 intro a0 k
 have ih0 := impl_itemOf.mono_l k
 unfold impl_itemOf.f
 exact tM
set_option maxHeartbeats 40000000 in
set_option maxRecDepth 100000 in
theorem impl_itemOf.calls (k : Nat) (a0 : ByteArray) (r1 : ByteArray) (r2 : ByteArray) (r3 : Bool) (r4 : Bool) (r5 : Bool) (w : World) (HG : Aside0 (Glob w)) (h : impl_itemOf.f k a0 = some (r1, r2, r3, r4, r5)) :
  Calls Tryz.prog 22 #[.string a0] w fun e w' => e = .returned (.tuple #[.agg #[.string r1, .string r2, .bool r3, .bool r4], .bool r5]) ∧ Below w.heap.size w w' := by
 have hu48 := Tryz.underlying48
 have HB := Aside0.mk (Below.refl w.heap.size w)
 have H : ((impl_upper.f a0).bind fun t219 => (if t219.toList = ([70, 76, 65, 71, 83] : List UInt8) then (impl_itemOf.j0 k t219 true) else (if t219.toList = ([85, 73, 68] : List UInt8) then (impl_itemOf.j0 k t219 true) else (impl_itemOf.j0 k t219 (t219.toList == ([82, 70, 67, 56, 50, 50, 46, 83, 73, 90, 69] : List UInt8)))))) = some (r1, r2, r3, r4, r5) := h
 clear h
 obtain ⟨t219, A2, H⟩ := bindA H
 try dsimp only at H
 have HC3 := Aside0.mk H
 clear H
 go_enter Tryz.func22, Tryz.ntmps22
 go_upto_region 2 with (first | ((with_reducible refine gate_dst (N := 2) rfl ?_); refine bxE 2 #[.string (⟨#[]⟩ : ByteArray), .string (⟨#[]⟩ : ByteArray), .bool false, .bool false] 48 ?_; intro gb218 hg w4 hbox hb; have BK218 := Aside0.mk (hbox); have GW218 := Aside0.mk ((szE w hg (Z0))); have GE218 := Aside0.mk ((szE w hg (Z0))); replace HB := Aside0.mk (below_step (Z0) hb); clear hb hbox hg) | ((with_reducible refine gate_callee (f := 32) rfl ?_); refine goesL_ (some 12) rfl rfl Tryz.func32 (Z20) rfl #[.string a0] rfl (Z1) ?_; (with_reducible refine (impl_upper.calls a0 t219 _ A2.out).mono ?_); rintro e w5 ⟨rfl, hb⟩; refine ⟨_, rfl, ?_⟩; replace BK218 := Aside0.mk (kB BK218 (Z18) hb); replace HB := Aside0.mk (below_step (Z7) hb); (try clear hb)))
 (try simp only [Act.put, List.setIfInBounds_toArray, List.set_cons_zero, List.set_cons_succ])
 go_cut [22] (fun v22 wc => ∃ (kq : Nat) (x22_2 : Bool), v22 = .bool x22_2 ∧ Aside0 (impl_itemOf.j0 kq t219 x22_2 = some (r1, r2, r3, r4, r5)) ∧ Aside0 (kq ≤ k) ∧ Aside0 (wc.heap[gb218]? = some (.cells #[.string (⟨#[]⟩ : ByteArray), .string (⟨#[]⟩ : ByteArray), .bool false, .bool false] 48 (0, 0))) ∧ Aside0 (Below w.heap.size w wc))
 case first =>
  have H := HC3.out
  clear HC3
  by_cases c6 : t219.toList = ([70, 76, 65, 71, 83] : List UInt8)
  ·rw [if_pos c6] at H
   have c6b0 := beq_iff_eq.mpr c6
   have c6b1 := bne_eq_false_iff_eq.mpr c6
   clear c6
   (first | rw [c6b0] | rw [c6b1] | (simp only [i64_w, i32_w]; rw [c6b0]) | skip)
   have H' := Aside0.mk H
   clear H
   go_wp2
   go_meet
   case rel => exact ⟨_, (true), (Z2), H', ⟨Z40⟩, ⟨Z18⟩, ⟨Z7⟩⟩
  ·rw [if_neg c6] at H
   have c6b0 := beq_eq_false_iff_ne.mpr c6
   have c6b1 := bne_iff_ne.mpr c6
   (first | rw [c6b0] | rw [c6b1] | (simp only [i64_w, i32_w]; rw [c6b0]) | skip)
   by_cases c7 : t219.toList = ([85, 73, 68] : List UInt8)
   ·rw [if_pos c7] at H
    have c7b0 := beq_iff_eq.mpr c7
    have c7b1 := bne_eq_false_iff_eq.mpr c7
    clear c7
    have H' := Aside0.mk H
    clear H
    go_wp2
    go_meet
    case rel => exact ⟨_, (true), (Z2), H', ⟨Z40⟩, ⟨Z18⟩, ⟨Z7⟩⟩
   ·rw [if_neg c7] at H
    have c7b0 := beq_eq_false_iff_ne.mpr c7
    have c7b1 := bne_iff_ne.mpr c7
    have H' := Aside0.mk H
    clear H
    go_wp2
    go_meet
    case rel => exact ⟨_, ((t219.toList == ([82, 70, 67, 56, 50, 50, 46, 83, 73, 90, 69] : List UInt8))), (Z2), H', ⟨Z40⟩, ⟨Z18⟩, ⟨Z7⟩⟩
 case rest =>
  clear HC3
  obtain ⟨kq, x22_2, rfl, HA, HJ2, BK218, HB⟩ := hcut
  cases kq with
  | zero => exact absurd HA.out (by simp [impl_itemOf.j0])
  | succ kj2 =>
   have H := HA.out
   clear HA
   simp only [impl_itemOf.j0] at H
   by_cases c8 : x22_2 = true
   ·subst c8
    replace H := ifT H
    simp only [Option.some.injEq, Prod.mk.injEq] at H
    obtain ⟨rfl, rfl, rfl, rfl, rfl⟩ := H
    obtain ⟨hcz9_0, hcz9_1, hcz9_2, hcz9_3⟩ := bc4 BK218.out
    obtain ⟨hfz9_0, hfz9_1, hfz9_2, hfz9_3⟩ := bf4 BK218.out
    go_wp2
    refine bodyPost_ret (results_ct rfl _ _ gb218 48 #[.string t219, .string (⟨#[]⟩ : ByteArray), .bool false, .bool false] (0, 0) _ rfl (by (with_reducible repeat (first | refine blk_drewN ?_ _ | refine blk_drew ?_ | refine blk_alloc ?_ _)); refine blk_put (cs := #[.string t219, .string (⟨#[]⟩ : ByteArray), .bool false, .bool false]) ?_ 3 _ (Z44); (with_reducible repeat (first | refine blk_drewN ?_ _ | refine blk_drew ?_ | refine blk_alloc ?_ _)); refine blk_put (cs := #[.string t219, .string (⟨#[]⟩ : ByteArray), .bool false, .bool false]) ?_ 2 _ rfl; (with_reducible repeat (first | refine blk_drewN ?_ _ | refine blk_drew ?_ | refine blk_alloc ?_ _)); refine blk_put (cs := #[.string t219, .string (⟨#[]⟩ : ByteArray), .bool false, .bool false]) ?_ 1 _ rfl; (with_reducible repeat (first | refine blk_drewN ?_ _ | refine blk_drew ?_ | refine blk_alloc ?_ _)); refine blk_put (cs := #[.string (⟨#[]⟩ : ByteArray), .string (⟨#[]⟩ : ByteArray), .bool false, .bool false]) ?_ 0 _ rfl; (with_reducible repeat (first | refine blk_drewN ?_ _ | refine blk_drew ?_ | refine blk_alloc ?_ _)); exact BK218.out) Tryz.underlying48 rfl (Z20)) rfl ?_
    exact ⟨Z3, Z7⟩
   ·replace c8 := Bool.eq_false_iff.mpr c8
    subst c8
    replace H := ifF H
    obtain ⟨⟨t220, t221, t222⟩, A10, H⟩ := bindA H
    try dsimp only at H
    obtain ⟨⟨t223, t224⟩, A11, H⟩ := bindA H
    try dsimp only at H
    by_cases c12 : t224 = true
    ·subst c12
     replace H := ifT H
     by_cases c13 : t220.toList = ([66, 79, 68, 89] : List UInt8)
     ·rw [if_pos c13] at H
      have c13b0 := beq_iff_eq.mpr c13
      have c13b1 := bne_eq_false_iff_eq.mpr c13
      clear c13
      by_cases c14 : t223.toList = ([] : List UInt8)
      ·rw [if_pos c14] at H
       have c14b0 := beq_iff_eq.mpr c14
       have c14b1 := bne_eq_false_iff_eq.mpr c14
       clear c14
       obtain ⟨c15, H⟩ := ifS H
       have c15b0 := eq_true c15
       have c15b1 : decide (5 + t223.size ≤ 9223372036854775807) = true := decide_eq_true c15
       try have c15b2 : (9223372036854775807 < 5 + t223.size) = False := eq_false (Nat.not_lt.2 c15)
       obtain ⟨c16, H⟩ := ifS H
       have c16b0 := eq_true c16
       have c16b1 : decide (((⟨#[66, 79, 68, 89, 91]⟩ : ByteArray) ++ t223).size + 1 ≤ 9223372036854775807) = true := decide_eq_true c16
       try have c16b2 : (9223372036854775807 < ((⟨#[66, 79, 68, 89, 91]⟩ : ByteArray) ++ t223).size + 1) = False := eq_false (Nat.not_lt.2 c16); try (have c16b3 := c16b2; simp only [ByteArray.size_append, show (⟨#[66, 79, 68, 89, 91]⟩ : ByteArray).size = 5 from rfl] at c16b3)
       simp only [Option.some.injEq, Prod.mk.injEq] at H
       obtain ⟨rfl, rfl, rfl, rfl, rfl⟩ := H
       go_wp2_with (first | ((with_reducible refine gate_callee (f := 33) rfl ?_); refine goesL_ (some 27) rfl rfl Tryz.func33 (Z20) rfl #[.string t219, .string (⟨#[91]⟩ : ByteArray)] rfl (Z1) ?_; (with_reducible refine (strings_Cut.calls t219 (⟨#[91]⟩ : ByteArray) t220 t221 t222 _ ?side1 A10.out).mono ?_); (case side1 => first | exact HG | exact ⟨HG.out.of rfl⟩ | (refine ⟨HG.out.on ?_⟩; (repeat (first | (with_reducible first | exact HB.out | apply below_alloc | apply pw_below_drewN | apply below_drew1 | refine below_set ?_ GE218.out) | exact HB.out)); done) | exact ⟨HG.out.on HBW.out⟩); rintro e w' ⟨rfl, ⟨nd, rfl⟩⟩; refine ⟨_, rfl, ?_⟩; (try (rw [drewN_self wc]; generalize hq_ : World.drewN wc _ = wc; have n0_ : Aside0 (wc.heap[gb218]? = some (.cells #[.string (⟨#[]⟩ : ByteArray), .string (⟨#[]⟩ : ByteArray), .bool false, .bool false] 48 (0, 0))) := ⟨Z19⟩; have n1_ : Aside0 (Below w.heap.size w wc) := ⟨Z15⟩; clear BK218 HB hq_; have BK218 := n0_; have HB := n1_; clear n0_ n1_))) | ((with_reducible refine gate_callee (f := 34) rfl ?_); refine goesL_ (some 33) rfl rfl Tryz.func34 (Z20) rfl #[.string t221, .string (⟨#[93]⟩ : ByteArray)] rfl (Z1) ?_; (with_reducible refine (strings_CutSuffix.calls t221 (⟨#[93]⟩ : ByteArray) t223 true _ A11.out).mono ?_); rintro e w' ⟨rfl, ⟨nd, rfl⟩⟩; refine ⟨_, rfl, ?_⟩; (try (rw [drewN_self wc]; generalize hq_ : World.drewN wc _ = wc; have n0_ : Aside0 (wc.heap[gb218]? = some (.cells #[.string (⟨#[]⟩ : ByteArray), .string (⟨#[]⟩ : ByteArray), .bool false, .bool false] 48 (0, 0))) := ⟨Z19⟩; have n1_ : Aside0 (Below w.heap.size w wc) := ⟨Z15⟩; clear BK218 HB hq_; have BK218 := n0_; have HB := n1_; clear n0_ n1_)); obtain ⟨hcz17_0, hcz17_1, hcz17_2, hcz17_3⟩ := bc4 BK218.out; obtain ⟨hfz17_0, hfz17_1, hfz17_2, hfz17_3⟩ := bf4 BK218.out))
       refine bodyPost_ret (results_ct rfl _ _ gb218 48 #[.string (((⟨#[66, 79, 68, 89, 91]⟩ : ByteArray) ++ t223) ++ (⟨#[93]⟩ : ByteArray)), .string t223, .bool true, .bool (t220.toList == ([66, 79, 68, 89, 46, 80, 69, 69, 75] : List UInt8))] (0, 0) _ rfl (Z6) Tryz.underlying48 rfl (Z20)) rfl ?_
       exact ⟨Z3, Z7⟩
      ·rw [if_neg c14] at H
       have c14b0 := beq_eq_false_iff_ne.mpr c14
       have c14b1 := bne_iff_ne.mpr c14
       by_cases c18 : t223.toList = ([72, 69, 65, 68, 69, 82] : List UInt8)
       ·rw [if_pos c18] at H
        have c18b0 := beq_iff_eq.mpr c18
        have c18b1 := bne_eq_false_iff_eq.mpr c18
        clear c18
        obtain ⟨c19, H⟩ := ifS H
        have c19b0 := eq_true c19
        have c19b1 : decide (5 + t223.size ≤ 9223372036854775807) = true := decide_eq_true c19
        try have c19b2 : (9223372036854775807 < 5 + t223.size) = False := eq_false (Nat.not_lt.2 c19)
        obtain ⟨c20, H⟩ := ifS H
        have c20b0 := eq_true c20
        have c20b1 : decide (((⟨#[66, 79, 68, 89, 91]⟩ : ByteArray) ++ t223).size + 1 ≤ 9223372036854775807) = true := decide_eq_true c20
        try have c20b2 : (9223372036854775807 < ((⟨#[66, 79, 68, 89, 91]⟩ : ByteArray) ++ t223).size + 1) = False := eq_false (Nat.not_lt.2 c20); try (have c20b3 := c20b2; simp only [ByteArray.size_append, show (⟨#[66, 79, 68, 89, 91]⟩ : ByteArray).size = 5 from rfl] at c20b3)
        simp only [Option.some.injEq, Prod.mk.injEq] at H
        obtain ⟨rfl, rfl, rfl, rfl, rfl⟩ := H
        go_wp2_with (first | ((with_reducible refine gate_callee (f := 33) rfl ?_); refine goesL_ (some 27) rfl rfl Tryz.func33 (Z20) rfl #[.string t219, .string (⟨#[91]⟩ : ByteArray)] rfl (Z1) ?_; (with_reducible refine (strings_Cut.calls t219 (⟨#[91]⟩ : ByteArray) t220 t221 t222 _ ?side1 A10.out).mono ?_); (case side1 => first | exact HG | exact ⟨HG.out.of rfl⟩ | (refine ⟨HG.out.on ?_⟩; (repeat (first | (with_reducible first | exact HB.out | apply below_alloc | apply pw_below_drewN | apply below_drew1 | refine below_set ?_ GE218.out) | exact HB.out)); done) | exact ⟨HG.out.on HBW.out⟩); rintro e w' ⟨rfl, ⟨nd, rfl⟩⟩; refine ⟨_, rfl, ?_⟩; (try (rw [drewN_self wc]; generalize hq_ : World.drewN wc _ = wc; have n0_ : Aside0 (wc.heap[gb218]? = some (.cells #[.string (⟨#[]⟩ : ByteArray), .string (⟨#[]⟩ : ByteArray), .bool false, .bool false] 48 (0, 0))) := ⟨Z19⟩; have n1_ : Aside0 (Below w.heap.size w wc) := ⟨Z15⟩; clear BK218 HB hq_; have BK218 := n0_; have HB := n1_; clear n0_ n1_))) | ((with_reducible refine gate_callee (f := 34) rfl ?_); refine goesL_ (some 33) rfl rfl Tryz.func34 (Z20) rfl #[.string t221, .string (⟨#[93]⟩ : ByteArray)] rfl (Z1) ?_; (with_reducible refine (strings_CutSuffix.calls t221 (⟨#[93]⟩ : ByteArray) t223 true _ A11.out).mono ?_); rintro e w' ⟨rfl, ⟨nd, rfl⟩⟩; refine ⟨_, rfl, ?_⟩; (try (rw [drewN_self wc]; generalize hq_ : World.drewN wc _ = wc; have n0_ : Aside0 (wc.heap[gb218]? = some (.cells #[.string (⟨#[]⟩ : ByteArray), .string (⟨#[]⟩ : ByteArray), .bool false, .bool false] 48 (0, 0))) := ⟨Z19⟩; have n1_ : Aside0 (Below w.heap.size w wc) := ⟨Z15⟩; clear BK218 HB hq_; have BK218 := n0_; have HB := n1_; clear n0_ n1_)); obtain ⟨hcz21_0, hcz21_1, hcz21_2, hcz21_3⟩ := bc4 BK218.out; obtain ⟨hfz21_0, hfz21_1, hfz21_2, hfz21_3⟩ := bf4 BK218.out))
        refine bodyPost_ret (results_ct rfl _ _ gb218 48 #[.string (((⟨#[66, 79, 68, 89, 91]⟩ : ByteArray) ++ t223) ++ (⟨#[93]⟩ : ByteArray)), .string t223, .bool true, .bool (t220.toList == ([66, 79, 68, 89, 46, 80, 69, 69, 75] : List UInt8))] (0, 0) _ rfl (Z6) Tryz.underlying48 rfl (Z20)) rfl ?_
        exact ⟨Z3, Z7⟩
       ·rw [if_neg c18] at H
        have c18b0 := beq_eq_false_iff_ne.mpr c18
        have c18b1 := bne_iff_ne.mpr c18
        by_cases c22 : t223.toList = ([84, 69, 88, 84] : List UInt8)
        ·rw [if_pos c22] at H
         have c22b0 := beq_iff_eq.mpr c22
         have c22b1 := bne_eq_false_iff_eq.mpr c22
         clear c22
         obtain ⟨c23, H⟩ := ifS H
         have c23b0 := eq_true c23
         have c23b1 : decide (5 + t223.size ≤ 9223372036854775807) = true := decide_eq_true c23
         try have c23b2 : (9223372036854775807 < 5 + t223.size) = False := eq_false (Nat.not_lt.2 c23)
         obtain ⟨c24, H⟩ := ifS H
         have c24b0 := eq_true c24
         have c24b1 : decide (((⟨#[66, 79, 68, 89, 91]⟩ : ByteArray) ++ t223).size + 1 ≤ 9223372036854775807) = true := decide_eq_true c24
         try have c24b2 : (9223372036854775807 < ((⟨#[66, 79, 68, 89, 91]⟩ : ByteArray) ++ t223).size + 1) = False := eq_false (Nat.not_lt.2 c24); try (have c24b3 := c24b2; simp only [ByteArray.size_append, show (⟨#[66, 79, 68, 89, 91]⟩ : ByteArray).size = 5 from rfl] at c24b3)
         simp only [Option.some.injEq, Prod.mk.injEq] at H
         obtain ⟨rfl, rfl, rfl, rfl, rfl⟩ := H
         go_wp2_with (first | ((with_reducible refine gate_callee (f := 33) rfl ?_); refine goesL_ (some 27) rfl rfl Tryz.func33 (Z20) rfl #[.string t219, .string (⟨#[91]⟩ : ByteArray)] rfl (Z1) ?_; (with_reducible refine (strings_Cut.calls t219 (⟨#[91]⟩ : ByteArray) t220 t221 t222 _ ?side1 A10.out).mono ?_); (case side1 => first | exact HG | exact ⟨HG.out.of rfl⟩ | (refine ⟨HG.out.on ?_⟩; (repeat (first | (with_reducible first | exact HB.out | apply below_alloc | apply pw_below_drewN | apply below_drew1 | refine below_set ?_ GE218.out) | exact HB.out)); done) | exact ⟨HG.out.on HBW.out⟩); rintro e w' ⟨rfl, ⟨nd, rfl⟩⟩; refine ⟨_, rfl, ?_⟩; (try (rw [drewN_self wc]; generalize hq_ : World.drewN wc _ = wc; have n0_ : Aside0 (wc.heap[gb218]? = some (.cells #[.string (⟨#[]⟩ : ByteArray), .string (⟨#[]⟩ : ByteArray), .bool false, .bool false] 48 (0, 0))) := ⟨Z19⟩; have n1_ : Aside0 (Below w.heap.size w wc) := ⟨Z15⟩; clear BK218 HB hq_; have BK218 := n0_; have HB := n1_; clear n0_ n1_))) | ((with_reducible refine gate_callee (f := 34) rfl ?_); refine goesL_ (some 33) rfl rfl Tryz.func34 (Z20) rfl #[.string t221, .string (⟨#[93]⟩ : ByteArray)] rfl (Z1) ?_; (with_reducible refine (strings_CutSuffix.calls t221 (⟨#[93]⟩ : ByteArray) t223 true _ A11.out).mono ?_); rintro e w' ⟨rfl, ⟨nd, rfl⟩⟩; refine ⟨_, rfl, ?_⟩; (try (rw [drewN_self wc]; generalize hq_ : World.drewN wc _ = wc; have n0_ : Aside0 (wc.heap[gb218]? = some (.cells #[.string (⟨#[]⟩ : ByteArray), .string (⟨#[]⟩ : ByteArray), .bool false, .bool false] 48 (0, 0))) := ⟨Z19⟩; have n1_ : Aside0 (Below w.heap.size w wc) := ⟨Z15⟩; clear BK218 HB hq_; have BK218 := n0_; have HB := n1_; clear n0_ n1_)); obtain ⟨hcz25_0, hcz25_1, hcz25_2, hcz25_3⟩ := bc4 BK218.out; obtain ⟨hfz25_0, hfz25_1, hfz25_2, hfz25_3⟩ := bf4 BK218.out))
         refine bodyPost_ret (results_ct rfl _ _ gb218 48 #[.string (((⟨#[66, 79, 68, 89, 91]⟩ : ByteArray) ++ t223) ++ (⟨#[93]⟩ : ByteArray)), .string t223, .bool true, .bool (t220.toList == ([66, 79, 68, 89, 46, 80, 69, 69, 75] : List UInt8))] (0, 0) _ rfl (Z6) Tryz.underlying48 rfl (Z20)) rfl ?_
         exact ⟨Z3, Z7⟩
        ·rw [if_neg c22] at H
         have c22b0 := beq_eq_false_iff_ne.mpr c22
         have c22b1 := bne_iff_ne.mpr c22
         simp only [Option.some.injEq, Prod.mk.injEq] at H
         obtain ⟨rfl, rfl, rfl, rfl, rfl⟩ := H
         go_wp2_with (first | ((with_reducible refine gate_callee (f := 33) rfl ?_); refine goesL_ (some 27) rfl rfl Tryz.func33 (Z20) rfl #[.string t219, .string (⟨#[91]⟩ : ByteArray)] rfl (Z1) ?_; (with_reducible refine (strings_Cut.calls t219 (⟨#[91]⟩ : ByteArray) t220 t221 t222 _ ?side1 A10.out).mono ?_); (case side1 => first | exact HG | exact ⟨HG.out.of rfl⟩ | (refine ⟨HG.out.on ?_⟩; (repeat (first | (with_reducible first | exact HB.out | apply below_alloc | apply pw_below_drewN | apply below_drew1 | refine below_set ?_ GE218.out) | exact HB.out)); done) | exact ⟨HG.out.on HBW.out⟩); rintro e w' ⟨rfl, ⟨nd, rfl⟩⟩; refine ⟨_, rfl, ?_⟩; (try (rw [drewN_self wc]; generalize hq_ : World.drewN wc _ = wc; have n0_ : Aside0 (wc.heap[gb218]? = some (.cells #[.string (⟨#[]⟩ : ByteArray), .string (⟨#[]⟩ : ByteArray), .bool false, .bool false] 48 (0, 0))) := ⟨Z19⟩; have n1_ : Aside0 (Below w.heap.size w wc) := ⟨Z15⟩; clear BK218 HB hq_; have BK218 := n0_; have HB := n1_; clear n0_ n1_))) | ((with_reducible refine gate_callee (f := 34) rfl ?_); refine goesL_ (some 33) rfl rfl Tryz.func34 (Z20) rfl #[.string t221, .string (⟨#[93]⟩ : ByteArray)] rfl (Z1) ?_; (with_reducible refine (strings_CutSuffix.calls t221 (⟨#[93]⟩ : ByteArray) t223 true _ A11.out).mono ?_); rintro e w' ⟨rfl, ⟨nd, rfl⟩⟩; refine ⟨_, rfl, ?_⟩; (try (rw [drewN_self wc]; generalize hq_ : World.drewN wc _ = wc; have n0_ : Aside0 (wc.heap[gb218]? = some (.cells #[.string (⟨#[]⟩ : ByteArray), .string (⟨#[]⟩ : ByteArray), .bool false, .bool false] 48 (0, 0))) := ⟨Z19⟩; have n1_ : Aside0 (Below w.heap.size w wc) := ⟨Z15⟩; clear BK218 HB hq_; have BK218 := n0_; have HB := n1_; clear n0_ n1_)); obtain ⟨hcz26_0, hcz26_1, hcz26_2, hcz26_3⟩ := bc4 BK218.out; obtain ⟨hfz26_0, hfz26_1, hfz26_2, hfz26_3⟩ := bf4 BK218.out))
         refine bodyPost_ret (results_ct rfl _ _ gb218 48 #[.string (⟨#[]⟩ : ByteArray), .string (⟨#[]⟩ : ByteArray), .bool false, .bool false] (0, 0) _ rfl (Z12) Tryz.underlying48 rfl (Z20)) rfl ?_
         exact ⟨Z3, Z7⟩
     ·rw [if_neg c13] at H
      have c13b0 := beq_eq_false_iff_ne.mpr c13
      have c13b1 := bne_iff_ne.mpr c13
      by_cases c27 : (t220.toList = ([66, 79, 68, 89, 46, 80, 69, 69, 75] : List UInt8))
      ·rw [if_pos c27] at H
       have c27b0 : (t220.toList == ([66, 79, 68, 89, 46, 80, 69, 69, 75] : List UInt8)) = true := beq_iff_eq.mpr c27
       have c27b1 : (t220.toList != ([66, 79, 68, 89, 46, 80, 69, 69, 75] : List UInt8)) = false := bne_eq_false_iff_eq.mpr c27
       clear c27
       by_cases c28 : t223.toList = ([] : List UInt8)
       ·rw [if_pos c28] at H
        have c28b0 := beq_iff_eq.mpr c28
        have c28b1 := bne_eq_false_iff_eq.mpr c28
        clear c28
        obtain ⟨c29, H⟩ := ifS H
        have c29b0 := eq_true c29
        have c29b1 : decide (5 + t223.size ≤ 9223372036854775807) = true := decide_eq_true c29
        try have c29b2 : (9223372036854775807 < 5 + t223.size) = False := eq_false (Nat.not_lt.2 c29)
        obtain ⟨c30, H⟩ := ifS H
        have c30b0 := eq_true c30
        have c30b1 : decide (((⟨#[66, 79, 68, 89, 91]⟩ : ByteArray) ++ t223).size + 1 ≤ 9223372036854775807) = true := decide_eq_true c30
        try have c30b2 : (9223372036854775807 < ((⟨#[66, 79, 68, 89, 91]⟩ : ByteArray) ++ t223).size + 1) = False := eq_false (Nat.not_lt.2 c30); try (have c30b3 := c30b2; simp only [ByteArray.size_append, show (⟨#[66, 79, 68, 89, 91]⟩ : ByteArray).size = 5 from rfl] at c30b3)
        simp only [Option.some.injEq, Prod.mk.injEq] at H
        obtain ⟨rfl, rfl, rfl, rfl, rfl⟩ := H
        go_wp2_with (first | ((with_reducible refine gate_callee (f := 33) rfl ?_); refine goesL_ (some 27) rfl rfl Tryz.func33 (Z20) rfl #[.string t219, .string (⟨#[91]⟩ : ByteArray)] rfl (Z1) ?_; (with_reducible refine (strings_Cut.calls t219 (⟨#[91]⟩ : ByteArray) t220 t221 t222 _ ?side1 A10.out).mono ?_); (case side1 => first | exact HG | exact ⟨HG.out.of rfl⟩ | (refine ⟨HG.out.on ?_⟩; (repeat (first | (with_reducible first | exact HB.out | apply below_alloc | apply pw_below_drewN | apply below_drew1 | refine below_set ?_ GE218.out) | exact HB.out)); done) | exact ⟨HG.out.on HBW.out⟩); rintro e w' ⟨rfl, ⟨nd, rfl⟩⟩; refine ⟨_, rfl, ?_⟩; (try (rw [drewN_self wc]; generalize hq_ : World.drewN wc _ = wc; have n0_ : Aside0 (wc.heap[gb218]? = some (.cells #[.string (⟨#[]⟩ : ByteArray), .string (⟨#[]⟩ : ByteArray), .bool false, .bool false] 48 (0, 0))) := ⟨Z19⟩; have n1_ : Aside0 (Below w.heap.size w wc) := ⟨Z15⟩; clear BK218 HB hq_; have BK218 := n0_; have HB := n1_; clear n0_ n1_))) | ((with_reducible refine gate_callee (f := 34) rfl ?_); refine goesL_ (some 33) rfl rfl Tryz.func34 (Z20) rfl #[.string t221, .string (⟨#[93]⟩ : ByteArray)] rfl (Z1) ?_; (with_reducible refine (strings_CutSuffix.calls t221 (⟨#[93]⟩ : ByteArray) t223 true _ A11.out).mono ?_); rintro e w' ⟨rfl, ⟨nd, rfl⟩⟩; refine ⟨_, rfl, ?_⟩; (try (rw [drewN_self wc]; generalize hq_ : World.drewN wc _ = wc; have n0_ : Aside0 (wc.heap[gb218]? = some (.cells #[.string (⟨#[]⟩ : ByteArray), .string (⟨#[]⟩ : ByteArray), .bool false, .bool false] 48 (0, 0))) := ⟨Z19⟩; have n1_ : Aside0 (Below w.heap.size w wc) := ⟨Z15⟩; clear BK218 HB hq_; have BK218 := n0_; have HB := n1_; clear n0_ n1_)); obtain ⟨hcz31_0, hcz31_1, hcz31_2, hcz31_3⟩ := bc4 BK218.out; obtain ⟨hfz31_0, hfz31_1, hfz31_2, hfz31_3⟩ := bf4 BK218.out))
        refine bodyPost_ret (results_ct rfl _ _ gb218 48 #[.string (((⟨#[66, 79, 68, 89, 91]⟩ : ByteArray) ++ t223) ++ (⟨#[93]⟩ : ByteArray)), .string t223, .bool true, .bool (t220.toList == ([66, 79, 68, 89, 46, 80, 69, 69, 75] : List UInt8))] (0, 0) _ rfl (Z6) Tryz.underlying48 rfl (Z20)) rfl ?_
        exact ⟨Z3, Z7⟩
       ·rw [if_neg c28] at H
        have c28b0 := beq_eq_false_iff_ne.mpr c28
        have c28b1 := bne_iff_ne.mpr c28
        by_cases c32 : t223.toList = ([72, 69, 65, 68, 69, 82] : List UInt8)
        ·rw [if_pos c32] at H
         have c32b0 := beq_iff_eq.mpr c32
         have c32b1 := bne_eq_false_iff_eq.mpr c32
         clear c32
         obtain ⟨c33, H⟩ := ifS H
         have c33b0 := eq_true c33
         have c33b1 : decide (5 + t223.size ≤ 9223372036854775807) = true := decide_eq_true c33
         try have c33b2 : (9223372036854775807 < 5 + t223.size) = False := eq_false (Nat.not_lt.2 c33)
         obtain ⟨c34, H⟩ := ifS H
         have c34b0 := eq_true c34
         have c34b1 : decide (((⟨#[66, 79, 68, 89, 91]⟩ : ByteArray) ++ t223).size + 1 ≤ 9223372036854775807) = true := decide_eq_true c34
         try have c34b2 : (9223372036854775807 < ((⟨#[66, 79, 68, 89, 91]⟩ : ByteArray) ++ t223).size + 1) = False := eq_false (Nat.not_lt.2 c34); try (have c34b3 := c34b2; simp only [ByteArray.size_append, show (⟨#[66, 79, 68, 89, 91]⟩ : ByteArray).size = 5 from rfl] at c34b3)
         simp only [Option.some.injEq, Prod.mk.injEq] at H
         obtain ⟨rfl, rfl, rfl, rfl, rfl⟩ := H
         go_wp2_with (first | ((with_reducible refine gate_callee (f := 33) rfl ?_); refine goesL_ (some 27) rfl rfl Tryz.func33 (Z20) rfl #[.string t219, .string (⟨#[91]⟩ : ByteArray)] rfl (Z1) ?_; (with_reducible refine (strings_Cut.calls t219 (⟨#[91]⟩ : ByteArray) t220 t221 t222 _ ?side1 A10.out).mono ?_); (case side1 => first | exact HG | exact ⟨HG.out.of rfl⟩ | (refine ⟨HG.out.on ?_⟩; (repeat (first | (with_reducible first | exact HB.out | apply below_alloc | apply pw_below_drewN | apply below_drew1 | refine below_set ?_ GE218.out) | exact HB.out)); done) | exact ⟨HG.out.on HBW.out⟩); rintro e w' ⟨rfl, ⟨nd, rfl⟩⟩; refine ⟨_, rfl, ?_⟩; (try (rw [drewN_self wc]; generalize hq_ : World.drewN wc _ = wc; have n0_ : Aside0 (wc.heap[gb218]? = some (.cells #[.string (⟨#[]⟩ : ByteArray), .string (⟨#[]⟩ : ByteArray), .bool false, .bool false] 48 (0, 0))) := ⟨Z19⟩; have n1_ : Aside0 (Below w.heap.size w wc) := ⟨Z15⟩; clear BK218 HB hq_; have BK218 := n0_; have HB := n1_; clear n0_ n1_))) | ((with_reducible refine gate_callee (f := 34) rfl ?_); refine goesL_ (some 33) rfl rfl Tryz.func34 (Z20) rfl #[.string t221, .string (⟨#[93]⟩ : ByteArray)] rfl (Z1) ?_; (with_reducible refine (strings_CutSuffix.calls t221 (⟨#[93]⟩ : ByteArray) t223 true _ A11.out).mono ?_); rintro e w' ⟨rfl, ⟨nd, rfl⟩⟩; refine ⟨_, rfl, ?_⟩; (try (rw [drewN_self wc]; generalize hq_ : World.drewN wc _ = wc; have n0_ : Aside0 (wc.heap[gb218]? = some (.cells #[.string (⟨#[]⟩ : ByteArray), .string (⟨#[]⟩ : ByteArray), .bool false, .bool false] 48 (0, 0))) := ⟨Z19⟩; have n1_ : Aside0 (Below w.heap.size w wc) := ⟨Z15⟩; clear BK218 HB hq_; have BK218 := n0_; have HB := n1_; clear n0_ n1_)); obtain ⟨hcz35_0, hcz35_1, hcz35_2, hcz35_3⟩ := bc4 BK218.out; obtain ⟨hfz35_0, hfz35_1, hfz35_2, hfz35_3⟩ := bf4 BK218.out))
         refine bodyPost_ret (results_ct rfl _ _ gb218 48 #[.string (((⟨#[66, 79, 68, 89, 91]⟩ : ByteArray) ++ t223) ++ (⟨#[93]⟩ : ByteArray)), .string t223, .bool true, .bool (t220.toList == ([66, 79, 68, 89, 46, 80, 69, 69, 75] : List UInt8))] (0, 0) _ rfl (Z6) Tryz.underlying48 rfl (Z20)) rfl ?_
         exact ⟨Z3, Z7⟩
        ·rw [if_neg c32] at H
         have c32b0 := beq_eq_false_iff_ne.mpr c32
         have c32b1 := bne_iff_ne.mpr c32
         by_cases c36 : t223.toList = ([84, 69, 88, 84] : List UInt8)
         ·rw [if_pos c36] at H
          have c36b0 := beq_iff_eq.mpr c36
          have c36b1 := bne_eq_false_iff_eq.mpr c36
          clear c36
          obtain ⟨c37, H⟩ := ifS H
          have c37b0 := eq_true c37
          have c37b1 : decide (5 + t223.size ≤ 9223372036854775807) = true := decide_eq_true c37
          try have c37b2 : (9223372036854775807 < 5 + t223.size) = False := eq_false (Nat.not_lt.2 c37)
          obtain ⟨c38, H⟩ := ifS H
          have c38b0 := eq_true c38
          have c38b1 : decide (((⟨#[66, 79, 68, 89, 91]⟩ : ByteArray) ++ t223).size + 1 ≤ 9223372036854775807) = true := decide_eq_true c38
          try have c38b2 : (9223372036854775807 < ((⟨#[66, 79, 68, 89, 91]⟩ : ByteArray) ++ t223).size + 1) = False := eq_false (Nat.not_lt.2 c38); try (have c38b3 := c38b2; simp only [ByteArray.size_append, show (⟨#[66, 79, 68, 89, 91]⟩ : ByteArray).size = 5 from rfl] at c38b3)
          simp only [Option.some.injEq, Prod.mk.injEq] at H
          obtain ⟨rfl, rfl, rfl, rfl, rfl⟩ := H
          go_wp2_with (first | ((with_reducible refine gate_callee (f := 33) rfl ?_); refine goesL_ (some 27) rfl rfl Tryz.func33 (Z20) rfl #[.string t219, .string (⟨#[91]⟩ : ByteArray)] rfl (Z1) ?_; (with_reducible refine (strings_Cut.calls t219 (⟨#[91]⟩ : ByteArray) t220 t221 t222 _ ?side1 A10.out).mono ?_); (case side1 => first | exact HG | exact ⟨HG.out.of rfl⟩ | (refine ⟨HG.out.on ?_⟩; (repeat (first | (with_reducible first | exact HB.out | apply below_alloc | apply pw_below_drewN | apply below_drew1 | refine below_set ?_ GE218.out) | exact HB.out)); done) | exact ⟨HG.out.on HBW.out⟩); rintro e w' ⟨rfl, ⟨nd, rfl⟩⟩; refine ⟨_, rfl, ?_⟩; (try (rw [drewN_self wc]; generalize hq_ : World.drewN wc _ = wc; have n0_ : Aside0 (wc.heap[gb218]? = some (.cells #[.string (⟨#[]⟩ : ByteArray), .string (⟨#[]⟩ : ByteArray), .bool false, .bool false] 48 (0, 0))) := ⟨Z19⟩; have n1_ : Aside0 (Below w.heap.size w wc) := ⟨Z15⟩; clear BK218 HB hq_; have BK218 := n0_; have HB := n1_; clear n0_ n1_))) | ((with_reducible refine gate_callee (f := 34) rfl ?_); refine goesL_ (some 33) rfl rfl Tryz.func34 (Z20) rfl #[.string t221, .string (⟨#[93]⟩ : ByteArray)] rfl (Z1) ?_; (with_reducible refine (strings_CutSuffix.calls t221 (⟨#[93]⟩ : ByteArray) t223 true _ A11.out).mono ?_); rintro e w' ⟨rfl, ⟨nd, rfl⟩⟩; refine ⟨_, rfl, ?_⟩; (try (rw [drewN_self wc]; generalize hq_ : World.drewN wc _ = wc; have n0_ : Aside0 (wc.heap[gb218]? = some (.cells #[.string (⟨#[]⟩ : ByteArray), .string (⟨#[]⟩ : ByteArray), .bool false, .bool false] 48 (0, 0))) := ⟨Z19⟩; have n1_ : Aside0 (Below w.heap.size w wc) := ⟨Z15⟩; clear BK218 HB hq_; have BK218 := n0_; have HB := n1_; clear n0_ n1_)); obtain ⟨hcz39_0, hcz39_1, hcz39_2, hcz39_3⟩ := bc4 BK218.out; obtain ⟨hfz39_0, hfz39_1, hfz39_2, hfz39_3⟩ := bf4 BK218.out))
          refine bodyPost_ret (results_ct rfl _ _ gb218 48 #[.string (((⟨#[66, 79, 68, 89, 91]⟩ : ByteArray) ++ t223) ++ (⟨#[93]⟩ : ByteArray)), .string t223, .bool true, .bool (t220.toList == ([66, 79, 68, 89, 46, 80, 69, 69, 75] : List UInt8))] (0, 0) _ rfl (Z6) Tryz.underlying48 rfl (Z20)) rfl ?_
          exact ⟨Z3, Z7⟩
         ·rw [if_neg c36] at H
          have c36b0 := beq_eq_false_iff_ne.mpr c36
          have c36b1 := bne_iff_ne.mpr c36
          simp only [Option.some.injEq, Prod.mk.injEq] at H
          obtain ⟨rfl, rfl, rfl, rfl, rfl⟩ := H
          go_wp2_with (first | ((with_reducible refine gate_callee (f := 33) rfl ?_); refine goesL_ (some 27) rfl rfl Tryz.func33 (Z20) rfl #[.string t219, .string (⟨#[91]⟩ : ByteArray)] rfl (Z1) ?_; (with_reducible refine (strings_Cut.calls t219 (⟨#[91]⟩ : ByteArray) t220 t221 t222 _ ?side1 A10.out).mono ?_); (case side1 => first | exact HG | exact ⟨HG.out.of rfl⟩ | (refine ⟨HG.out.on ?_⟩; (repeat (first | (with_reducible first | exact HB.out | apply below_alloc | apply pw_below_drewN | apply below_drew1 | refine below_set ?_ GE218.out) | exact HB.out)); done) | exact ⟨HG.out.on HBW.out⟩); rintro e w' ⟨rfl, ⟨nd, rfl⟩⟩; refine ⟨_, rfl, ?_⟩; (try (rw [drewN_self wc]; generalize hq_ : World.drewN wc _ = wc; have n0_ : Aside0 (wc.heap[gb218]? = some (.cells #[.string (⟨#[]⟩ : ByteArray), .string (⟨#[]⟩ : ByteArray), .bool false, .bool false] 48 (0, 0))) := ⟨Z19⟩; have n1_ : Aside0 (Below w.heap.size w wc) := ⟨Z15⟩; clear BK218 HB hq_; have BK218 := n0_; have HB := n1_; clear n0_ n1_))) | ((with_reducible refine gate_callee (f := 34) rfl ?_); refine goesL_ (some 33) rfl rfl Tryz.func34 (Z20) rfl #[.string t221, .string (⟨#[93]⟩ : ByteArray)] rfl (Z1) ?_; (with_reducible refine (strings_CutSuffix.calls t221 (⟨#[93]⟩ : ByteArray) t223 true _ A11.out).mono ?_); rintro e w' ⟨rfl, ⟨nd, rfl⟩⟩; refine ⟨_, rfl, ?_⟩; (try (rw [drewN_self wc]; generalize hq_ : World.drewN wc _ = wc; have n0_ : Aside0 (wc.heap[gb218]? = some (.cells #[.string (⟨#[]⟩ : ByteArray), .string (⟨#[]⟩ : ByteArray), .bool false, .bool false] 48 (0, 0))) := ⟨Z19⟩; have n1_ : Aside0 (Below w.heap.size w wc) := ⟨Z15⟩; clear BK218 HB hq_; have BK218 := n0_; have HB := n1_; clear n0_ n1_)); obtain ⟨hcz40_0, hcz40_1, hcz40_2, hcz40_3⟩ := bc4 BK218.out; obtain ⟨hfz40_0, hfz40_1, hfz40_2, hfz40_3⟩ := bf4 BK218.out))
          refine bodyPost_ret (results_ct rfl _ _ gb218 48 #[.string (⟨#[]⟩ : ByteArray), .string (⟨#[]⟩ : ByteArray), .bool false, .bool false] (0, 0) _ rfl (Z12) Tryz.underlying48 rfl (Z20)) rfl ?_
          exact ⟨Z3, Z7⟩
      ·rw [if_neg c27] at H
       have c27b0 : (t220.toList == ([66, 79, 68, 89, 46, 80, 69, 69, 75] : List UInt8)) = false := beq_eq_false_iff_ne.mpr c27
       have c27b1 : (t220.toList != ([66, 79, 68, 89, 46, 80, 69, 69, 75] : List UInt8)) = true := bne_iff_ne.mpr c27
       simp only [Option.some.injEq, Prod.mk.injEq] at H
       obtain ⟨rfl, rfl, rfl, rfl, rfl⟩ := H
       go_wp2_with (first | ((with_reducible refine gate_callee (f := 33) rfl ?_); refine goesL_ (some 27) rfl rfl Tryz.func33 (Z20) rfl #[.string t219, .string (⟨#[91]⟩ : ByteArray)] rfl (Z1) ?_; (with_reducible refine (strings_Cut.calls t219 (⟨#[91]⟩ : ByteArray) t220 t221 t222 _ ?side1 A10.out).mono ?_); (case side1 => first | exact HG | exact ⟨HG.out.of rfl⟩ | (refine ⟨HG.out.on ?_⟩; (repeat (first | (with_reducible first | exact HB.out | apply below_alloc | apply pw_below_drewN | apply below_drew1 | refine below_set ?_ GE218.out) | exact HB.out)); done) | exact ⟨HG.out.on HBW.out⟩); rintro e w' ⟨rfl, ⟨nd, rfl⟩⟩; refine ⟨_, rfl, ?_⟩; (try (rw [drewN_self wc]; generalize hq_ : World.drewN wc _ = wc; have n0_ : Aside0 (wc.heap[gb218]? = some (.cells #[.string (⟨#[]⟩ : ByteArray), .string (⟨#[]⟩ : ByteArray), .bool false, .bool false] 48 (0, 0))) := ⟨Z19⟩; have n1_ : Aside0 (Below w.heap.size w wc) := ⟨Z15⟩; clear BK218 HB hq_; have BK218 := n0_; have HB := n1_; clear n0_ n1_))) | ((with_reducible refine gate_callee (f := 34) rfl ?_); refine goesL_ (some 33) rfl rfl Tryz.func34 (Z20) rfl #[.string t221, .string (⟨#[93]⟩ : ByteArray)] rfl (Z1) ?_; (with_reducible refine (strings_CutSuffix.calls t221 (⟨#[93]⟩ : ByteArray) t223 true _ A11.out).mono ?_); rintro e w' ⟨rfl, ⟨nd, rfl⟩⟩; refine ⟨_, rfl, ?_⟩; (try (rw [drewN_self wc]; generalize hq_ : World.drewN wc _ = wc; have n0_ : Aside0 (wc.heap[gb218]? = some (.cells #[.string (⟨#[]⟩ : ByteArray), .string (⟨#[]⟩ : ByteArray), .bool false, .bool false] 48 (0, 0))) := ⟨Z19⟩; have n1_ : Aside0 (Below w.heap.size w wc) := ⟨Z15⟩; clear BK218 HB hq_; have BK218 := n0_; have HB := n1_; clear n0_ n1_)); obtain ⟨hcz41_0, hcz41_1, hcz41_2, hcz41_3⟩ := bc4 BK218.out; obtain ⟨hfz41_0, hfz41_1, hfz41_2, hfz41_3⟩ := bf4 BK218.out))
       refine bodyPost_ret (results_ct rfl _ _ gb218 48 #[.string (⟨#[]⟩ : ByteArray), .string (⟨#[]⟩ : ByteArray), .bool false, .bool false] (0, 0) _ rfl (Z12) Tryz.underlying48 rfl (Z20)) rfl ?_
       exact ⟨Z3, Z7⟩
    ·replace c12 := Bool.eq_false_iff.mpr c12
     subst c12
     replace H := ifF H
     simp only [Option.some.injEq, Prod.mk.injEq] at H
     obtain ⟨rfl, rfl, rfl, rfl, rfl⟩ := H
     go_wp2_with (first | ((with_reducible refine gate_callee (f := 33) rfl ?_); refine goesL_ (some 27) rfl rfl Tryz.func33 (Z20) rfl #[.string t219, .string (⟨#[91]⟩ : ByteArray)] rfl (Z1) ?_; (with_reducible refine (strings_Cut.calls t219 (⟨#[91]⟩ : ByteArray) t220 t221 t222 _ ?side1 A10.out).mono ?_); (case side1 => first | exact HG | exact ⟨HG.out.of rfl⟩ | (refine ⟨HG.out.on ?_⟩; (repeat (first | (with_reducible first | exact HB.out | apply below_alloc | apply pw_below_drewN | apply below_drew1 | refine below_set ?_ GE218.out) | exact HB.out)); done) | exact ⟨HG.out.on HBW.out⟩); rintro e w' ⟨rfl, ⟨nd, rfl⟩⟩; refine ⟨_, rfl, ?_⟩; (try (rw [drewN_self wc]; generalize hq_ : World.drewN wc _ = wc; have n0_ : Aside0 (wc.heap[gb218]? = some (.cells #[.string (⟨#[]⟩ : ByteArray), .string (⟨#[]⟩ : ByteArray), .bool false, .bool false] 48 (0, 0))) := ⟨Z19⟩; have n1_ : Aside0 (Below w.heap.size w wc) := ⟨Z15⟩; clear BK218 HB hq_; have BK218 := n0_; have HB := n1_; clear n0_ n1_))) | ((with_reducible refine gate_callee (f := 34) rfl ?_); refine goesL_ (some 33) rfl rfl Tryz.func34 (Z20) rfl #[.string t221, .string (⟨#[93]⟩ : ByteArray)] rfl (Z1) ?_; (with_reducible refine (strings_CutSuffix.calls t221 (⟨#[93]⟩ : ByteArray) t223 false _ A11.out).mono ?_); rintro e w' ⟨rfl, ⟨nd, rfl⟩⟩; refine ⟨_, rfl, ?_⟩; (try (rw [drewN_self wc]; generalize hq_ : World.drewN wc _ = wc; have n0_ : Aside0 (wc.heap[gb218]? = some (.cells #[.string (⟨#[]⟩ : ByteArray), .string (⟨#[]⟩ : ByteArray), .bool false, .bool false] 48 (0, 0))) := ⟨Z19⟩; have n1_ : Aside0 (Below w.heap.size w wc) := ⟨Z15⟩; clear BK218 HB hq_; have BK218 := n0_; have HB := n1_; clear n0_ n1_)); obtain ⟨hcz42_0, hcz42_1, hcz42_2, hcz42_3⟩ := bc4 BK218.out; obtain ⟨hfz42_0, hfz42_1, hfz42_2, hfz42_3⟩ := bf4 BK218.out))
     refine bodyPost_ret (results_ct rfl _ _ gb218 48 #[.string (⟨#[]⟩ : ByteArray), .string (⟨#[]⟩ : ByteArray), .bool false, .bool false] (0, 0) _ rfl (Z12) Tryz.underlying48 rfl (Z20)) rfl ?_
     exact ⟨Z3, Z7⟩

/-! ### impl_itemsOf: function 14 -/
def impl_itemsOf.l0 : Nat → List (S48) → List ByteArray → Int → Int → Option ((List (S48)) × Bool)
 | 0, _, _, _, _ => none
 | k + 1, x4, x12, x13, x14 => if x14 < x13 then (if 0 ≤ x14 then (if x14 < (x12.length : Int) then ((impl_itemOf.f k (rdOf ByteArray.empty x12 x14)).bind fun bt229 => (if bt229.2.2.2.2 = true then (if x14 < (x4.length : Int) then (impl_itemsOf.l0 k (x4.set (x14 : Int).toNat (⟨bt229.1, bt229.2.1, bt229.2.2.1, bt229.2.2.2.1⟩ : S48)) x12 x13 (wrap64 (x14 + 1))) else (none)) else (some (([] : List (S48)), false)))) else (none)) else (none)) else (some (x4, true))
def impl_itemsOf.f (k : Nat) (l0 : List ByteArray) : Option ((List (S48)) × Bool) := if 0 ≤ (l0.length : Int) then (if ((l0.length : Int) : Int).toNat ≤ 7036874417766 then (impl_itemsOf.l0 k (List.replicate ((l0.length : Int) : Int).toNat z48) l0 (l0.length : Int) 0) else (none)) else (none)
theorem impl_itemsOf.mono_l : ∀ k, (∀ y0 y1 y2 y3, LeO (impl_itemsOf.l0 k y0 y1 y2 y3) (impl_itemsOf.l0 (k + 1) y0 y1 y2 y3))
 | 0 => fun _ _ _ _ r h => by simp [impl_itemsOf.l0] at h
 | k + 1 => by
  have ih0 := impl_itemsOf.mono_l k
  ·intro y0 y1 y2 y3
   unfold impl_itemsOf.l0
   have m0 := @impl_itemOf.mono
   exact tM
theorem impl_itemsOf.mono : ∀ a0 k, LeO (impl_itemsOf.f k a0) (impl_itemsOf.f (k + 1) a0) := by
 intro a0 k
 have ih0 := impl_itemsOf.mono_l k
 unfold impl_itemsOf.f
 have m0 := @impl_itemOf.mono
 exact tM
set_option maxHeartbeats 40000000 in
set_option maxRecDepth 100000 in
theorem impl_itemsOf.calls (k : Nat) (A0 : Option Addr) (c0 : Nat) (l0 : List ByteArray) (r1 : List (S48)) (r2 : Bool) (w : World) (hr0 : Kd.C Kd.string w A0 l0.length l0) (hc0 : l0.length ≤ c0) (HG : Aside0 (Glob w)) (h : impl_itemsOf.f k l0 = some (r1, r2)) :
  Calls Tryz.prog 14 #[.slice A0 l0.length c0] w fun e w' => ∃ v0_ : Value, e = .returned (.tuple #[v0_, .bool r2]) ∧ Kd.R k48 48 w' w.heap.size (fun _ => True) v0_ r1 ∧ Below w.heap.size w w' := by
 have hu48 := Tryz.underlying48
 have HR0 := Aside0.mk hr0
 have HC0 := Aside0.mk hc0
 clear hr0 hc0
 have HB := Aside0.mk (Below.refl w.heap.size w)
 have H : (if 0 ≤ (l0.length : Int) then (if ((l0.length : Int) : Int).toNat ≤ 7036874417766 then (impl_itemsOf.l0 k (List.replicate ((l0.length : Int) : Int).toNat z48) l0 (l0.length : Int) 0) else (none)) else (none)) = some (r1, r2) := h
 clear h
 obtain ⟨c2, H⟩ := ifS H
 have c2b0 := eq_true c2
 have c2b1 : decide (0 ≤ (l0.length : Int)) = true := decide_eq_true c2
 clear c2
 obtain ⟨c3, H⟩ := ifS H
 have c3b0 := eq_true c3
 have c3b1 : decide (((l0.length : Int) : Int).toNat ≤ 7036874417766) = true := decide_eq_true c3
 clear c3
 obtain ⟨y225, hy225⟩ : ∃ y_ : List (S48), y_ = (List.replicate ((l0.length : Int) : Int).toNat z48) := ⟨_, rfl⟩
 replace H : (impl_itemsOf.l0 k y225 l0 (l0.length : Int) 0) = some (r1, r2) := by first | (rw [hy225]; with_reducible exact H) | (have H2_ := (Option.bind_some _ _).symm.trans H; rw [hy225]; with_reducible exact H2_) | (have H2_ := (Option.bind_some _ _).symm.trans H; with_reducible exact H2_) | with_reducible exact H | (rw [hy225]; exact H) | exact H
 have Ny225 := Aside0.mk hy225
 clear hy225
 have H' := Aside0.mk H
 clear H
 go_enter Tryz.func14, Tryz.ntmps14
 go_wp2_with (first | ((with_reducible refine gate_dst (N := 11) rfl ?_); refine Kd.R_make k48 _ 48 rfl (N := 11) rfl 37 _ _ rfl (l0.length : Int) rfl rfl Tryz.underlying37 (.agg #[(.string ⟨#[]⟩), (.string ⟨#[]⟩), (.bool false), (.bool false)]) 40 info48 rfl (Z63) (Z46) z48 (ok := fun _ => True) (okp := fun _ => True) (k48_mkM _ _ _ z48 ) (fun _ hk => hk) trivial (of_decide_eq_true (Z4)) (Nat.le_trans (Nat.mul_le_mul_right _ (of_decide_eq_true (Z4) : (l0.length : Int).toNat ≤ 7036874417766)) (Z46)) (Below.refl _ _) (Nat.le_refl _) ?_; intro v226 w4 ho5 hb hg_ hnew_; clear hg_ hnew_; (first | rw [← Ny225.out] at ho5 | (simp only [Int.reduceToNat] at ho5; rw [← Ny225.out] at ho5)); have HO227 := Aside0.mk (Kd.R_lower ho5 (below_size (Z0))); replace HB := Aside0.mk (below_step (Z0) hb); clear hb ho5))
 go_loopg [14] k (fun kq v14 w' => ∃ (x4_1 : List (S48)) (x14_1 : Int), v14 = .int .i64 x14_1 ∧ Aside0 (impl_itemsOf.l0 kq x4_1 l0 (l0.length : Int) x14_1 = some (r1, r2)) ∧ Aside0 (kq ≤ k) ∧ Aside0 (Kd.R k48 48 w' w.heap.size (fun _ => True) v226 x4_1) ∧ Aside0 (Below w.heap.size w w'))
 case atStart => exact ⟨(y225), (0), (Z2), H', ⟨Nat.le_refl _⟩, ⟨by (with_reducible repeat (first | apply Kd.R_alloc | apply Kd.R_drewN | apply Kd.R_drew)); exact HO227.out⟩, ⟨Z0⟩⟩
 case round =>
  clear H'
  (try clear c2); (try clear c2b0); (try clear c2b1); (try clear c3); (try clear c3b0); (try clear c3b1)
  obtain ⟨x4_1, x14_1, rfl, HA, HK1, HO_4, HB⟩ := hrel
  cases gk with
  | zero => exact absurd HA.out (by simp [impl_itemsOf.l0])
  | succ k1 =>
   have H := HA.out
   clear HA
   simp only [impl_itemsOf.l0] at H
   by_cases c6 : x14_1 < (l0.length : Int)
   ·rw [if_pos c6] at H
    have c6b0 := decide_eq_true c6
    clear c6
    obtain ⟨c7, H⟩ := ifS H
    have c7b0 := decide_eq_true c7
    clear c7
    obtain ⟨c8, H⟩ := ifS H
    have c8b0 := decide_eq_true c8
    clear c8
    obtain ⟨⟨t229, t230, t231, t232, t233⟩, A9, H⟩ := bindA H
    try dsimp only at H
    by_cases c10 : t233 = true
    ·subst c10
     replace H := ifT H
     obtain ⟨c11, H⟩ := ifS H
     have c11b0 := decide_eq_true c11
     clear c11
     obtain ⟨y235, hy235⟩ : ∃ y_ : List (S48), y_ = (x4_1.set (x14_1 : Int).toNat (⟨t229, t230, t231, t232⟩ : S48)) := ⟨_, rfl⟩
     replace H : (impl_itemsOf.l0 k1 y235 l0 (l0.length : Int) (wrap64 (x14_1 + 1))) = some (r1, r2) := by first | (rw [hy235]; with_reducible exact H) | (have H2_ := (Option.bind_some _ _).symm.trans H; rw [hy235]; with_reducible exact H2_) | (have H2_ := (Option.bind_some _ _).symm.trans H; with_reducible exact H2_) | with_reducible exact H | (rw [hy235]; exact H) | exact H
     have Ny235 := Aside0.mk hy235
     clear hy235
     have H' := Aside0.mk H
     clear H
     have p228 : 0 ≤ (x14_1 : Int) := of_decide_eq_true (Z4)
     have q228 : x14_1 < (l0.length : Int) := of_decide_eq_true (Z4)
     obtain ⟨ad228, e228, hx228_0⟩ := Kd.at_string HR0.out x14_1 p228 q228
     cases e228
     replace hx228_0 := cB HB.out hx228_0
     replace p228 := eq_true p228
     replace q228 := eq_true q228
     go_wp2_with (first | ((with_reducible refine gate_callee (f := 22) rfl ?_); refine goesL_ (some 21) rfl rfl Tryz.func22 (Z20) rfl #[.string (rdOf ByteArray.empty l0 x14_1)] rfl (Z1) ?_; (with_reducible refine (impl_itemOf.calls k1 (rdOf ByteArray.empty l0 x14_1) t229 t230 t231 t232 true _ ?side1 A9.out).mono ?_); (case side1 => first | exact HG | exact ⟨HG.out.of rfl⟩ | (refine ⟨HG.out.on ?_⟩; (repeat (first | (with_reducible first | exact HB.out | apply below_alloc | apply pw_below_drewN | apply below_drew1) | exact HB.out)); done) | exact ⟨HG.out.on HBW.out⟩); rintro e w13 ⟨rfl, hb⟩; refine ⟨_, rfl, ?_⟩; replace HO_4 := Aside0.mk (Kd.R_below (Z39) hb); replace HB := Aside0.mk (below_step (Z0) hb); (try clear hb)) | ((with_reducible refine gate_dst (N := 7) rfl ?_); refine bxE 7 #[.string (⟨#[]⟩ : ByteArray), .string (⟨#[]⟩ : ByteArray), .bool false, .bool false] 48 ?_; intro gb234 hg w14 hbox hb; replace HO_4 := Aside0.mk (Kd.R_below (Kd.R_elderB (Z39) gb234 (Nat.le_of_eq hg.symm)) hb); have BK234 := Aside0.mk (hbox); have GW234 := Aside0.mk ((szE w hg (Z0))); have GE234 := Aside0.mk ((szE w hg (Z0))); replace HB := Aside0.mk (below_step (Z0) hb); clear hb hbox hg; obtain ⟨hcz15_0, hcz15_1, hcz15_2, hcz15_3⟩ := bc4 BK234.out; obtain ⟨hfz15_0, hfz15_1, hfz15_2, hfz15_3⟩ := bf4 BK234.out) | ((with_reducible refine gate_store (t := 48) (p := 7) rfl ?_); refine store_event (t := 48) (p := 7) (v := ?vo_w16) (w1 := ((((w14.setCell ⟨gb234, 0, none⟩ (.string t229)).setCell ⟨gb234, 1, none⟩ (.string t230)).setCell ⟨gb234, 2, none⟩ (.bool t231)).setCell ⟨gb234, 3, none⟩ (.bool t232))) ?hg ?ho ?hn ?hr ?_; (case ho => rfl); (case hg => rfl); (case hn => rfl); (case hr => first | (go_simp; done) | (go_simp; rfl)); intro w16 hw; have n0_ : Aside0 (Kd.R k48 48 w16 w.heap.size (fun k_ => k_ ≠ gb234) v226 x4_1) := ⟨(by rw [hw]; exact (by (with_reducible repeat (first | apply Kd.R_alloc | apply Kd.R_drewN | apply Kd.R_drew)); exact Kd.R_mono (Kd.R_far (p := ⟨gb234, 3, none⟩) (Kd.R_far (p := ⟨gb234, 2, none⟩) (Kd.R_far (p := ⟨gb234, 1, none⟩) (Kd.R_far (p := ⟨gb234, 0, none⟩) (Kd.R_mono HO_4.out (fun k_ hk => (⟨hk, hk.2⟩ : _ ∧ k_ ≠ gb234))) (fun _ hk => hk.2) (.string t229)) (fun _ hk => hk.2) (.string t230)) (fun _ hk => hk.2) (.bool t231)) (fun _ hk => hk.2) (.bool t232)) (fun _ hk => hk.1.2)))⟩; have n1_ : Aside0 (w16.heap[gb234]? = some (.cells #[.string t229, .string t230, .bool t231, .bool t232] 48 (0, 0))) := ⟨(by rw [hw]; exact (by (with_reducible repeat (first | refine blk_drewN ?_ _ | refine blk_drew ?_ | refine blk_alloc ?_ _)); refine blk_put (cs := #[.string t229, .string t230, .bool t231, .bool false]) ?_ 3 _ rfl; (with_reducible repeat (first | refine blk_drewN ?_ _ | refine blk_drew ?_ | refine blk_alloc ?_ _)); refine blk_put (cs := #[.string t229, .string t230, .bool false, .bool false]) ?_ 2 _ rfl; (with_reducible repeat (first | refine blk_drewN ?_ _ | refine blk_drew ?_ | refine blk_alloc ?_ _)); refine blk_put (cs := #[.string t229, .string (⟨#[]⟩ : ByteArray), .bool false, .bool false]) ?_ 1 _ rfl; (with_reducible repeat (first | refine blk_drewN ?_ _ | refine blk_drew ?_ | refine blk_alloc ?_ _)); refine blk_put (cs := #[.string (⟨#[]⟩ : ByteArray), .string (⟨#[]⟩ : ByteArray), .bool false, .bool false]) ?_ 0 _ rfl; (with_reducible repeat (first | refine blk_drewN ?_ _ | refine blk_drew ?_ | refine blk_alloc ?_ _)); exact BK234.out))⟩; have n2_ : Aside0 (Below w.heap.size w w16) := ⟨(by rw [hw]; exact (Z58))⟩; clear hw; clear HO_4; clear BK234; clear HB; have HO_4 := n0_; have BK234 := n1_; have HB := n2_; clear n0_ n1_ n2_; obtain ⟨hcz17_0, hcz17_1, hcz17_2, hcz17_3⟩ := bc4 BK234.out; obtain ⟨hfz17_0, hfz17_1, hfz17_2, hfz17_3⟩ := bf4 BK234.out; have p12 : 0 ≤ (x14_1 : Int) := of_decide_eq_true (Z4); have q12 : (x14_1 : Int) < ((x4_1.length : Int) : Int) := of_decide_eq_true (Z4); obtain ⟨go12, co12, eo12, gb12, gl12, cl12, HG12⟩ := Kd.R_form HO_4.out (Z46); (first | cases eo12 | (injection eo12 with ea_ en_ ec_; (first | subst ea_ | (injection ea_ with ea_; subst ea_)); subst ec_; clear en_)); have GB12 := Aside0.mk gb12; have GG12 := Aside0.mk HG12; clear gb12 gl12 HG12; obtain ⟨ce12, hcl12, hM12, hcc12, hfr12⟩ := Kd.R_elem HO_4.out z48 (x14_1 : Int) p12 q12; obtain rfl := k48_openM hM12; have hx12_0 : w16.cell? ⟨go12, (x14_1 : Int).toNat * 4, none⟩ = some (.string ((rd_T48 x4_1 x14_1).f0)) := hcc12 0 _ rfl; have hx12_1 : w16.cell? ⟨go12, (x14_1 : Int).toNat * 4 + 1, none⟩ = some (.string ((rd_T48 x4_1 x14_1).f1)) := hcc12 1 _ rfl; have hx12_2 : w16.cell? ⟨go12, (x14_1 : Int).toNat * 4 + 2, none⟩ = some (.bool ((rd_T48 x4_1 x14_1).f2)) := hcc12 2 _ rfl; have hx12_3 : w16.cell? ⟨go12, (x14_1 : Int).toNat * 4 + 3, none⟩ = some (.bool ((rd_T48 x4_1 x14_1).f3)) := hcc12 3 _ rfl; have hf12_0 : w16.frozen? ⟨go12, (x14_1 : Int).toNat * 4, none⟩ = false := hfr12 0; have hf12_1 : w16.frozen? ⟨go12, (x14_1 : Int).toNat * 4 + 1, none⟩ = false := hfr12 1; have hf12_2 : w16.frozen? ⟨go12, (x14_1 : Int).toNat * 4 + 2, none⟩ = false := hfr12 2; have hf12_3 : w16.frozen? ⟨go12, (x14_1 : Int).toNat * 4 + 3, none⟩ = false := hfr12 3; clear hcl12 hcc12 hfr12 hM12; replace p12 := eq_true p12; replace q12 := eq_true q12; have HX18 := Aside0.mk (show Kd.R k48 48 w16 w.heap.size (fun k_ => k_ ≠ gb234) (.slice (some ⟨go12, 0, none⟩) x4_1.length co12) x4_1 from (Z39)); obtain ⟨ce18, hcl18, hM18, hcc18, hfr18⟩ := Kd.R_elem HX18.out z48 (x14_1 : Int) (of_decide_eq_true (Z4)) (by have h_ : (x14_1 : Int) < ((x4_1.length : Int) : Int) := of_decide_eq_true (Z4); first | exact h_ | (have e_ := (Kd.R_reads' HO_4.out).1; omega) | simpa using h_); obtain rfl := k48_openM hM18; have HP18 := Kd.R_seg HX18.out (x14_1 : Int) (of_decide_eq_true (Z4)) (by have h_ : (x14_1 : Int) < ((x4_1.length : Int) : Int) := of_decide_eq_true (Z4); first | exact h_ | (have e_ := (Kd.R_reads' HO_4.out).1; omega) | simpa using h_) (seg := [.string t229, .string t230, .bool t231, .bool t232]) (j := 0) hcl18 hcc18 (show 4 ≤ 4 from by decide) (x' := (⟨t229, t230, t231, t232⟩ : S48)) (k48_mkM _ _ _ (⟨t229, t230, t231, t232⟩ : S48) ) (fun _ hk => hk); have hx18_0 := hcc18 0 _ rfl; (try simp only [show (k48).sz = 4 from rfl, Nat.mul_one, Nat.add_zero] at hx18_0); have hf18_0 := hfr18 0; (try simp only [show (k48).sz = 4 from rfl, Nat.mul_one, Nat.add_zero] at hf18_0); have hx18_1 := hcc18 1 _ rfl; (try simp only [show (k48).sz = 4 from rfl, Nat.mul_one, Nat.add_zero] at hx18_1); have hf18_1 := hfr18 1; (try simp only [show (k48).sz = 4 from rfl, Nat.mul_one, Nat.add_zero] at hf18_1); have hx18_2 := hcc18 2 _ rfl; (try simp only [show (k48).sz = 4 from rfl, Nat.mul_one, Nat.add_zero] at hx18_2); have hf18_2 := hfr18 2; (try simp only [show (k48).sz = 4 from rfl, Nat.mul_one, Nat.add_zero] at hf18_2); have hx18_3 := hcc18 3 _ rfl; (try simp only [show (k48).sz = 4 from rfl, Nat.mul_one, Nat.add_zero] at hx18_3); have hf18_3 := hfr18 3; (try simp only [show (k48).sz = 4 from rfl, Nat.mul_one, Nat.add_zero] at hf18_3); clear hcl18 hcc18 hfr18 hM18) | ((with_reducible refine gate_store (t := 48) (p := 29) rfl ?_); refine store_event (t := 48) (p := 29) (v := ?vo_w19) (w1 := ((((w16.setCell ⟨go12, (x14_1 : Int).toNat * 4, none⟩ (.string t229)).setCell ⟨go12, (x14_1 : Int).toNat * 4 + 1, none⟩ (.string t230)).setCell ⟨go12, (x14_1 : Int).toNat * 4 + 2, none⟩ (.bool t231)).setCell ⟨go12, (x14_1 : Int).toNat * 4 + 3, none⟩ (.bool t232))) ?hg ?ho ?hn ?hr ?_; (case ho => rfl); (case hg => rfl); (case hn => rfl); (case hr => first | (go_simp; done) | (go_simp; rfl)); intro w19 hw; have hg : w16.grownBy w19 (some go12) := (by rw [hw]; exact HP18.2); have hp_ : Kd.R k48 48 w19 w.heap.size (fun k_ => k_ ≠ gb234) (.slice (some ⟨go12, 0, none⟩) x4_1.length co12) y235 := (by rw [hw, Ny235.out]; exact HP18.1); clear HP18; replace BK234 := Aside0.mk (blk_grown (g := gb234) (o := .cells #[.string t229, .string t230, .bool t231, .bool t232] 48 (0, 0)) (by (with_reducible repeat (first | refine blk_drewN ?_ _ | refine blk_drew ?_ | refine blk_alloc ?_ _)); exact BK234.out) hg (Kd.R_away HO_4.out (fun _ hk => hk))); replace HO_4 := Aside0.mk (hp_); replace HB := Aside0.mk ((by rw [hw]; exact below_set (below_set (below_set (below_set (HB.out) GB12.out) GB12.out) GB12.out) GB12.out : Below w.heap.size w w19)); clear hg hw hp_))
     go_roundg k1
     case measure => have := HK1.out; omega
     case rel => exact ⟨(y235), (wrap64 (x14_1 + 1)), (Z2), H', ⟨Z59⟩, ⟨by (with_reducible repeat (first | apply Kd.R_alloc | apply Kd.R_drewN | apply Kd.R_drew)); exact Kd.R_mono HO_4.out (fun _ hk => trivial)⟩, ⟨Z58⟩⟩
    ·replace c10 := Bool.eq_false_iff.mpr c10
     subst c10
     replace H := ifF H
     simp only [Option.some.injEq, Prod.mk.injEq] at H
     obtain ⟨rfl, rfl⟩ := H
     have p228 : 0 ≤ (x14_1 : Int) := of_decide_eq_true (Z4)
     have q228 : x14_1 < (l0.length : Int) := of_decide_eq_true (Z4)
     obtain ⟨ad228, e228, hx228_0⟩ := Kd.at_string HR0.out x14_1 p228 q228
     cases e228
     replace hx228_0 := cB HB.out hx228_0
     replace p228 := eq_true p228
     replace q228 := eq_true q228
     go_wp2_with (first | ((with_reducible refine gate_callee (f := 22) rfl ?_); refine goesL_ (some 21) rfl rfl Tryz.func22 (Z20) rfl #[.string (rdOf ByteArray.empty l0 x14_1)] rfl (Z1) ?_; (with_reducible refine (impl_itemOf.calls k1 (rdOf ByteArray.empty l0 x14_1) t229 t230 t231 t232 false _ ?side1 A9.out).mono ?_); (case side1 => first | exact HG | exact ⟨HG.out.of rfl⟩ | (refine ⟨HG.out.on ?_⟩; (repeat (first | (with_reducible first | exact HB.out | apply below_alloc | apply pw_below_drewN | apply below_drew1) | exact HB.out)); done) | exact ⟨HG.out.on HBW.out⟩); rintro e w20 ⟨rfl, hb⟩; refine ⟨_, rfl, ?_⟩; replace HO_4 := Aside0.mk (Kd.R_below (Z39) hb); replace HB := Aside0.mk (below_step (Z0) hb); (try clear hb)) | ((with_reducible refine gate_dst (N := 7) rfl ?_); refine bxE 7 #[.string (⟨#[]⟩ : ByteArray), .string (⟨#[]⟩ : ByteArray), .bool false, .bool false] 48 ?_; intro gb234 hg w21 hbox hb; replace HO_4 := Aside0.mk (Kd.R_below (Kd.R_elderB (Z39) gb234 (Nat.le_of_eq hg.symm)) hb); have BK234 := Aside0.mk (hbox); have GW234 := Aside0.mk ((szE w hg (Z0))); have GE234 := Aside0.mk ((szE w hg (Z0))); replace HB := Aside0.mk (below_step (Z0) hb); clear hb hbox hg; obtain ⟨hcz22_0, hcz22_1, hcz22_2, hcz22_3⟩ := bc4 BK234.out; obtain ⟨hfz22_0, hfz22_1, hfz22_2, hfz22_3⟩ := bf4 BK234.out))
     go_ret2
     exact ⟨_, Z3, Z35, Z58⟩
   ·rw [if_neg c6] at H
    have c6b0 := decide_eq_false c6
    clear c6
    simp only [Option.some.injEq, Prod.mk.injEq] at H
    obtain ⟨rfl, rfl⟩ := H
    go_wp2
    go_ret2
    exact ⟨_, Z3, Z39, Z0⟩

-- EXTERNAL: function 28 (strings_Join)

/-! ### impl_line: function 26 -/
def impl_line.f (l0 : List ByteArray) : Option (ByteArray) := (strings_Join.f l0 (⟨#[32]⟩ : ByteArray)).bind fun t236 => (if t236.size + 2 ≤ 9223372036854775807 then (some (t236 ++ (⟨#[13, 10]⟩ : ByteArray))) else (none))
set_option maxHeartbeats 40000000 in
set_option maxRecDepth 100000 in
theorem impl_line.calls (A0 : Option Addr) (c0 : Nat) (l0 : List ByteArray) (r : ByteArray) (w : World) (hr0 : Kd.C Kd.string w A0 l0.length l0) (hc0 : l0.length ≤ c0) (h : impl_line.f l0 = some r) :
  Calls Tryz.prog 26 #[.slice A0 l0.length c0] w fun e w' => e = .returned (.string r) ∧ Below w.heap.size w w' := by
 have HR0 := Aside0.mk hr0
 have HC0 := Aside0.mk hc0
 clear hr0 hc0
 have HB := Aside0.mk (Below.refl w.heap.size w)
 have H : ((strings_Join.f l0 (⟨#[32]⟩ : ByteArray)).bind fun t236 => (if t236.size + 2 ≤ 9223372036854775807 then (some (t236 ++ (⟨#[13, 10]⟩ : ByteArray))) else (none))) = some r := h
 clear h
 obtain ⟨t236, A2, H⟩ := bindA H
 try dsimp only at H
 obtain ⟨c3, H⟩ := ifS H
 have c3b0 := eq_true c3
 have c3b1 : decide (t236.size + 2 ≤ 9223372036854775807) = true := decide_eq_true c3
 try have c3b2 : (9223372036854775807 < t236.size + 2) = False := eq_false (Nat.not_lt.2 c3)
 obtain rfl := Option.some.inj H
 go_enter Tryz.func26, Tryz.ntmps26
 go_wp2_with (first | ((with_reducible refine gate_callee (f := 28) rfl ?_); refine goesL_ (some 4) rfl rfl Tryz.func28 (Z20) rfl #[.slice A0 l0.length c0, .string (⟨#[32]⟩ : ByteArray)] rfl (Z1) ?_; (with_reducible refine (strings_Join.calls _ _ l0 (⟨#[32]⟩ : ByteArray) t236 _ ?side1 ?side2 A2.out).mono ?_); (case side1 => repeat (first | exact HR0.out | (with_reducible refine Kd.C_alloc ?_ _) | (with_reducible refine Kd.C_drewN ?_ _) | (with_reducible refine Kd.C_drew ?_))); (case side2 => exact HC0.out); rintro e w4 ⟨rfl, hb⟩; refine ⟨_, rfl, ?_⟩; replace HB := Aside0.mk (below_step (Z0) hb); (try clear hb); (try clear hb2); (try clear hk); (try clear hi)))
 go_ret
 exact ⟨Z3, Z0⟩

-- EXTERNAL: function 27 (strconv_Itoa)

/-! ### impl_flagNames: function 46 -/
def impl_flagNames.f  : Option (List ByteArray) := some (([(⟨#[92, 83, 101, 101, 110]⟩ : ByteArray), (⟨#[92, 65, 110, 115, 119, 101, 114, 101, 100]⟩ : ByteArray), (⟨#[92, 70, 108, 97, 103, 103, 101, 100]⟩ : ByteArray), (⟨#[92, 68, 101, 108, 101, 116, 101, 100]⟩ : ByteArray), (⟨#[92, 68, 114, 97, 102, 116]⟩ : ByteArray)] : List ByteArray))
set_option maxHeartbeats 40000000 in
set_option maxRecDepth 100000 in
theorem impl_flagNames.calls  (r : List ByteArray) (w : World) (h : impl_flagNames.f  = some r) :
  Calls Tryz.prog 46 #[] w fun e w' => ∃ v0_ : Value, e = .returned (v0_) ∧ Kd.R Kd.string 9 w' w.heap.size (fun _ => True) v0_ r ∧ Below w.heap.size w w' := by
 have HB := Aside0.mk (Below.refl w.heap.size w)
 have H : (some (([(⟨#[92, 83, 101, 101, 110]⟩ : ByteArray), (⟨#[92, 65, 110, 115, 119, 101, 114, 101, 100]⟩ : ByteArray), (⟨#[92, 70, 108, 97, 103, 103, 101, 100]⟩ : ByteArray), (⟨#[92, 68, 101, 108, 101, 116, 101, 100]⟩ : ByteArray), (⟨#[92, 68, 114, 97, 102, 116]⟩ : ByteArray)] : List ByteArray))) = some r := h
 clear h
 obtain ⟨y237, hy237⟩ : ∃ y_ : List ByteArray, y_ = (([(⟨#[92, 83, 101, 101, 110]⟩ : ByteArray), (⟨#[92, 65, 110, 115, 119, 101, 114, 101, 100]⟩ : ByteArray), (⟨#[92, 70, 108, 97, 103, 103, 101, 100]⟩ : ByteArray), (⟨#[92, 68, 101, 108, 101, 116, 101, 100]⟩ : ByteArray), (⟨#[92, 68, 114, 97, 102, 116]⟩ : ByteArray)] : List ByteArray)) := ⟨_, rfl⟩
 replace H : (some y237) = some r := by first | (rw [hy237]; with_reducible exact H) | (have H2_ := (Option.bind_some _ _).symm.trans H; rw [hy237]; with_reducible exact H2_) | (have H2_ := (Option.bind_some _ _).symm.trans H; with_reducible exact H2_) | with_reducible exact H | (rw [hy237]; exact H) | exact H
 have Ny237 := Aside0.mk hy237
 clear hy237
 obtain rfl := Option.some.inj H
 go_enter Tryz.func46, Tryz.ntmps46
 go_wp2_with (first | ((with_reducible refine gate_dst (N := 1) rfl ?_); refine Kd.R_lit Kd.string _ 9 ?hg (N := 1) ?hd (xs := ([(⟨#[92, 83, 101, 101, 110]⟩ : ByteArray), (⟨#[92, 65, 110, 115, 119, 101, 114, 101, 100]⟩ : ByteArray), (⟨#[92, 70, 108, 97, 103, 103, 101, 100]⟩ : ByteArray), (⟨#[92, 68, 101, 108, 101, 116, 101, 100]⟩ : ByteArray), (⟨#[92, 68, 114, 97, 102, 116]⟩ : ByteArray)] : List ByteArray)) (inner := [.string (⟨#[92, 83, 101, 101, 110]⟩ : ByteArray), .string (⟨#[92, 65, 110, 115, 119, 101, 114, 101, 100]⟩ : ByteArray), .string (⟨#[92, 70, 108, 97, 103, 103, 101, 100]⟩ : ByteArray), .string (⟨#[92, 68, 101, 108, 101, 116, 101, 100]⟩ : ByteArray), .string (⟨#[92, 68, 114, 97, 102, 116]⟩ : ByteArray)]) (ok := fun _ => True) (okp := fun _ => True) ?hr ?hp (fun _ hk => hk) trivial (Below.refl _ _) (Nat.le_refl _) (by simp) ?_; (case hd => rfl); (case hg => rfl); (case hr => first | (go_simp; done) | (go_simp; rfl)); (case hp => exact (Reps.one (show Kd.M Kd.string _ _ _ (⟨#[92, 83, 101, 101, 110]⟩ : ByteArray) [.string (⟨#[92, 83, 101, 101, 110]⟩ : ByteArray)] from rfl) (Reps.one (show Kd.M Kd.string _ _ _ (⟨#[92, 65, 110, 115, 119, 101, 114, 101, 100]⟩ : ByteArray) [.string (⟨#[92, 65, 110, 115, 119, 101, 114, 101, 100]⟩ : ByteArray)] from rfl) (Reps.one (show Kd.M Kd.string _ _ _ (⟨#[92, 70, 108, 97, 103, 103, 101, 100]⟩ : ByteArray) [.string (⟨#[92, 70, 108, 97, 103, 103, 101, 100]⟩ : ByteArray)] from rfl) (Reps.one (show Kd.M Kd.string _ _ _ (⟨#[92, 68, 101, 108, 101, 116, 101, 100]⟩ : ByteArray) [.string (⟨#[92, 68, 101, 108, 101, 116, 101, 100]⟩ : ByteArray)] from rfl) (Reps.one (show Kd.M Kd.string _ _ _ (⟨#[92, 68, 114, 97, 102, 116]⟩ : ByteArray) [.string (⟨#[92, 68, 114, 97, 102, 116]⟩ : ByteArray)] from rfl) (Reps.none _ _))))))); intro v238 w1 ho2 hb hg_ hnew_; clear hg_ hnew_; (first | rw [← Ny237.out] at ho2 | (simp only [Int.reduceToNat] at ho2; rw [← Ny237.out] at ho2)); have HO239 := Aside0.mk (Kd.R_lower ho2 (below_size (Z0))); replace HB := Aside0.mk (below_step (Z0) hb); clear hb ho2))
 go_ret
 exact ⟨_, Z3, by (with_reducible repeat (first | apply Kd.R_alloc | apply Kd.R_drewN | apply Kd.R_drew)); exact HO239.out, Z0⟩

/-! ### impl_flagsText: function 36 -/
def impl_flagsText.l0 : Nat → Int → List ByteArray → List ByteArray → Int → Int → Option (ByteArray)
 | 0, _, _, _, _, _ => none
 | k + 1, x0, x3, x7, x8, x9 => if x9 < x8 then (if 0 ≤ x9 then (if x9 < (x7.length : Int) then (if (Go.bits .and .i64 (shr .i64 x0 x9) 1) = 1 then (if x3.length < 8796093022208 then (impl_flagsText.l0 k x0 (x3 ++ [rdOf ByteArray.empty x7 x9]) x7 x8 (wrap64 (x9 + 1))) else (none)) else (impl_flagsText.l0 k x0 x3 x7 x8 (wrap64 (x9 + 1)))) else (none)) else (none)) else ((strings_Join.f x3 (⟨#[32]⟩ : ByteArray)).bind fun t250 => (if 1 + t250.size ≤ 9223372036854775807 then (if ((⟨#[40]⟩ : ByteArray) ++ t250).size + 1 ≤ 9223372036854775807 then (some (((⟨#[40]⟩ : ByteArray) ++ t250) ++ (⟨#[41]⟩ : ByteArray))) else (none)) else (none)))
def impl_flagsText.f (k : Nat) (a0 : Int) : Option (ByteArray) := (impl_flagNames.f).bind fun t243 => (impl_flagsText.l0 k a0 (([] : List ByteArray)) t243 (t243.length : Int) 0)
theorem impl_flagsText.mono_l : ∀ k, (∀ y0 y1 y2 y3 y4, LeO (impl_flagsText.l0 k y0 y1 y2 y3 y4) (impl_flagsText.l0 (k + 1) y0 y1 y2 y3 y4))
 | 0 => fun _ _ _ _ _ r h => by simp [impl_flagsText.l0] at h
 | k + 1 => by
  have ih0 := impl_flagsText.mono_l k
  ·intro y0 y1 y2 y3 y4
   unfold impl_flagsText.l0
   exact tM
theorem impl_flagsText.mono : ∀ a0 k, LeO (impl_flagsText.f k a0) (impl_flagsText.f (k + 1) a0) := by
 intro a0 k
 have ih0 := impl_flagsText.mono_l k
 unfold impl_flagsText.f
 exact tM
set_option maxHeartbeats 40000000 in
set_option maxRecDepth 100000 in
theorem impl_flagsText.calls (k : Nat) (a0 : Int) (r : ByteArray) (w : World) (h : impl_flagsText.f k a0 = some r) :
  Calls Tryz.prog 36 #[.int .i64 a0] w fun e w' => e = .returned (.string r) ∧ Below w.heap.size w w' := by
 have HB := Aside0.mk (Below.refl w.heap.size w)
 have H : ((impl_flagNames.f).bind fun t243 => (impl_flagsText.l0 k a0 (([] : List ByteArray)) t243 (t243.length : Int) 0)) = some r := h
 clear h
 obtain ⟨y240, hy240⟩ : ∃ y_ : List ByteArray, y_ = (([] : List ByteArray)) := ⟨_, rfl⟩
 replace H : ((impl_flagNames.f).bind fun t243 => (impl_flagsText.l0 k a0 y240 t243 (t243.length : Int) 0)) = some r := by first | (rw [hy240]; with_reducible exact H) | (have H2_ := (Option.bind_some _ _).symm.trans H; rw [hy240]; with_reducible exact H2_) | (have H2_ := (Option.bind_some _ _).symm.trans H; with_reducible exact H2_) | with_reducible exact H | (rw [hy240]; exact H) | exact H
 have Ny240 := Aside0.mk hy240
 clear hy240
 obtain ⟨t243, A2, H⟩ := bindA H
 try dsimp only at H
 have H' := Aside0.mk H
 clear H
 go_enter Tryz.func36, Tryz.ntmps36
 go_wp2_with (first | ((with_reducible refine gate_dst (N := 6) rfl ?_); refine Kd.R_lit Kd.string _ 9 ?hg (N := 6) ?hd (xs := ([] : List ByteArray)) (inner := []) (ok := fun _ => True) (okp := fun _ => True) ?hr ?hp (fun _ hk => hk) trivial (Below.refl _ _) (Nat.le_refl _) (by simp) ?_; (case hd => rfl); (case hg => rfl); (case hr => first | (go_simp; done) | (go_simp; rfl)); (case hp => exact (Reps.none _ _)); intro v241 w3 ho4 hb hg_ hnew_; clear hg_ hnew_; (first | rw [← Ny240.out] at ho4 | (simp only [Int.reduceToNat] at ho4; rw [← Ny240.out] at ho4)); have HO242 := Aside0.mk (Kd.R_lower ho4 (below_size (Z0))); replace HB := Aside0.mk (below_step (Z0) hb); clear hb ho4) | ((with_reducible refine gate_callee (f := 46) rfl ?_); refine goesL_ (some 7) rfl rfl Tryz.func46 (Z20) rfl #[] rfl (Z1) ?_; (with_reducible refine (impl_flagNames.calls  t243 _ A2.out).mono ?_); rintro e w5 ⟨v244, rfl, ho0, hb⟩; refine ⟨_, rfl, ?_⟩; have HO245 := Aside0.mk (Kd.R_lower (Kd.R_new' ho0 (Kd.R_lt (by (with_reducible repeat (first | apply Kd.R_alloc | apply Kd.R_drewN | apply Kd.R_drew)); exact HO242.out))) (below_size (Z0))); replace HO242 := Aside0.mk (Kd.R_elder' (by (with_reducible repeat (first | apply Kd.R_alloc | apply Kd.R_drewN | apply Kd.R_drew)); exact HO242.out) (Kd.R_base ho0) hb); replace HB := Aside0.mk (below_step (Z0) hb); (try clear hb); (try clear ho0); obtain ⟨Ao6, co6, eo6⟩ := Kd.R_slice HO245.out; subst eo6))
 go_loopg [3, 9] k (fun kq v3 v9 w' => ∃ (x3_1 : List ByteArray) (x9_1 : Int), v9 = .int .i64 x9_1 ∧ Aside0 (impl_flagsText.l0 kq a0 x3_1 t243 (t243.length : Int) x9_1 = some r) ∧ Aside0 (kq ≤ k) ∧ Aside0 (Kd.R Kd.string 9 w' w.heap.size (fun k_ => some k_ ≠ ((.slice Ao6 t243.length co6) : Value).ownBlock) v3 x3_1) ∧ Aside0 (Kd.R Kd.string 9 w' w.heap.size (fun k_ => some k_ ≠ (v3 : Value).ownBlock) (.slice Ao6 t243.length co6) t243) ∧ Aside0 (Below w.heap.size w w'))
 case atStart => exact ⟨(y240), (0), (Z2), H', ⟨Nat.le_refl _⟩, ⟨by (with_reducible repeat (first | apply Kd.R_alloc | apply Kd.R_drewN | apply Kd.R_drew)); exact Kd.R_mono HO242.out (fun _ hk => hk.2)⟩, ⟨by (with_reducible repeat (first | apply Kd.R_alloc | apply Kd.R_drewN | apply Kd.R_drew)); exact Kd.R_mono HO245.out (fun _ hk => hk.2)⟩, ⟨Z0⟩⟩
 case round =>
  clear H'
  obtain ⟨x3_1, x9_1, rfl, HA, HK1, HO_3, HO_7, HB⟩ := hrel
  cases gk with
  | zero => exact absurd HA.out (by simp [impl_flagsText.l0])
  | succ k1 =>
   have H := HA.out
   clear HA
   simp only [impl_flagsText.l0] at H
   by_cases c7 : x9_1 < (t243.length : Int)
   ·rw [if_pos c7] at H
    have c7b0 := decide_eq_true c7
    clear c7
    obtain ⟨c8, H⟩ := ifS H
    have c8b0 := decide_eq_true c8
    clear c8
    obtain ⟨c9, H⟩ := ifS H
    have c9b0 := decide_eq_true c9
    clear c9
    have c10b0 := eq_true (of_decide_eq_true (Z4) : 0 ≤ x9_1)
    obtain ⟨ji11, hji11⟩ : ∃ j_ : Int, (shr .i64 a0 x9_1) = j_ := ⟨_, rfl⟩
    replace H : (if (Go.bits .and .i64 (ji11) 1) = 1 then (if x3_1.length < 8796093022208 then (impl_flagsText.l0 k1 a0 (x3_1 ++ [rdOf ByteArray.empty t243 x9_1]) t243 (t243.length : Int) (wrap64 (x9_1 + 1))) else (none)) else (impl_flagsText.l0 k1 a0 x3_1 t243 (t243.length : Int) (wrap64 (x9_1 + 1)))) = some r := by first | (rw [hji11] at H; exact H) | (simp only [hji11] at H ⊢; exact H)
    have hji11_ : (a0 / 2 ^ min x9_1.toNat 64) = ji11 := hji11
    have hji11z : x9_1 ≤ 64 → (a0 / 2 ^ x9_1.toNat) = ji11 := shr_small hji11
    by_cases c12 : (Go.bits .and .i64 (ji11) 1) = 1
    ·rw [if_pos c12] at H
     have c12b0 := beq_iff_eq.mpr c12
     have c12b1 := bne_eq_false_iff_eq.mpr c12
     clear c12
     obtain ⟨c13, H⟩ := ifS H
     have LMc13 := Aside0.mk c13
     clear c13
     obtain ⟨y247, hy247⟩ : ∃ y_ : List ByteArray, y_ = (x3_1 ++ [rdOf ByteArray.empty t243 x9_1]) := ⟨_, rfl⟩
     replace H : (impl_flagsText.l0 k1 a0 y247 t243 (t243.length : Int) (wrap64 (x9_1 + 1))) = some r := by first | (rw [hy247]; with_reducible exact H) | (have H2_ := (Option.bind_some _ _).symm.trans H; rw [hy247]; with_reducible exact H2_) | (have H2_ := (Option.bind_some _ _).symm.trans H; with_reducible exact H2_) | with_reducible exact H | (rw [hy247]; exact H) | exact H
     have Ny247 := Aside0.mk hy247
     clear hy247
     have H' := Aside0.mk H
     clear H
     have p246 : 0 ≤ (x9_1 : Int) := of_decide_eq_true (Z4)
     have q246 : x9_1 < (t243.length : Int) := of_decide_eq_true (Z4)
     obtain ⟨ad246, e246, hx246_0⟩ := Kd.at_string (Kd.R_reads' HO_7.out).2.2 x9_1 p246 q246
     cases e246
     replace p246 := eq_true p246
     replace q246 := eq_true q246
     go_wp2_with (first | ((with_reducible refine gate_builtin (b := .append) (xs := #[.tmp 19, .tmp 21]) rfl ?_); at_builtin; refine Kd.R_append Kd.string (w0 := w) w.heap.size rfl (.tmp 19) (.tmp 21) 24 9 (.string ⟨#[]⟩) 16 rfl Tryz.underlying24 info9 rfl (Z63) (Z46) u3 x3_1 (rdOf ByteArray.empty t243 x9_1) [.string (rdOf ByteArray.empty t243 x9_1)] (fun k_ => some k_ ≠ (.slice (some ad246) t243.length co6 : Value).ownBlock) (fun _ => False) rfl rfl ?aP (fun _ hk => hk.elim) ?aF ?aO ?aB ?aS ?aL ?_; (case aP => exact rfl); (case aB => exact (Z0)); (case aF => exact (fun k_ hk => Kd.fresh' (Kd.R_lt (Z43)) k_ hk)); (case aO => exact (Z55)); (case aS => exact (below_size (Z0))); (case aL => have := LMc13.out; omega); intro v248 w14 ho hb hg hat; rw [← Ny247.out] at ho; have n0_ := Aside0.mk (Kd.R_after (ok := (fun _ => True)) (by (with_reducible repeat (first | apply Kd.R_alloc | apply Kd.R_drewN | apply Kd.R_drew)); exact Kd.R_mono HO_7.out (fun _ hk => ⟨trivial, hk⟩)) hg hat); have n1_ := Aside0.mk (hb); have n2_ := Aside0.mk (ho); clear HO_7; clear HB; clear HO_3; have HO_7 := n0_; have HB := n1_; have HO249 := n2_; clear n0_ n1_ n2_; clear ho hb hg hat))
     go_roundg k1
     case measure => have := HK1.out; omega
     case rel => exact ⟨(y247), (wrap64 (x9_1 + 1)), (Z2), H', ⟨Z59⟩, ⟨by (with_reducible repeat (first | apply Kd.R_alloc | apply Kd.R_drewN | apply Kd.R_drew)); exact HO249.out⟩, ⟨by (with_reducible repeat (first | apply Kd.R_alloc | apply Kd.R_drewN | apply Kd.R_drew)); exact Kd.R_mono HO_7.out (fun _ hk => hk.2)⟩, ⟨Z0⟩⟩
    ·rw [if_neg c12] at H
     have c12b0 := beq_eq_false_iff_ne.mpr c12
     have c12b1 := bne_iff_ne.mpr c12
     have H' := Aside0.mk H
     clear H
     have p246 : 0 ≤ (x9_1 : Int) := of_decide_eq_true (Z4)
     have q246 : x9_1 < (t243.length : Int) := of_decide_eq_true (Z4)
     obtain ⟨ad246, e246, hx246_0⟩ := Kd.at_string (Kd.R_reads' HO_7.out).2.2 x9_1 p246 q246
     cases e246
     replace p246 := eq_true p246
     replace q246 := eq_true q246
     go_wp2
     go_roundg k1
     case measure => have := HK1.out; omega
     case rel => exact ⟨(x3_1), (wrap64 (x9_1 + 1)), (Z2), H', ⟨Z59⟩, ⟨Z55⟩, ⟨Z43⟩, ⟨Z0⟩⟩
   ·rw [if_neg c7] at H
    have c7b0 := decide_eq_false c7
    clear c7
    obtain ⟨t250, A15, H⟩ := bindA H
    try dsimp only at H
    obtain ⟨c16, H⟩ := ifS H
    have c16b0 := eq_true c16
    have c16b1 : decide (1 + t250.size ≤ 9223372036854775807) = true := decide_eq_true c16
    try have c16b2 : (9223372036854775807 < 1 + t250.size) = False := eq_false (Nat.not_lt.2 c16)
    obtain ⟨c17, H⟩ := ifS H
    have c17b0 := eq_true c17
    have c17b1 : decide (((⟨#[40]⟩ : ByteArray) ++ t250).size + 1 ≤ 9223372036854775807) = true := decide_eq_true c17
    try have c17b2 : (9223372036854775807 < ((⟨#[40]⟩ : ByteArray) ++ t250).size + 1) = False := eq_false (Nat.not_lt.2 c17); try (have c17b3 := c17b2; simp only [ByteArray.size_append, show (⟨#[40]⟩ : ByteArray).size = 1 from rfl] at c17b3)
    obtain rfl := Option.some.inj H
    obtain ⟨Ao18, co18, eo18⟩ := Kd.R_slice HO_3.out
    subst eo18
    go_wp2_with (first | ((with_reducible refine gate_callee (f := 28) rfl ?_); refine goesL_ (some 25) rfl rfl Tryz.func28 (Z20) rfl #[.slice Ao18 x3_1.length co18, .string (⟨#[32]⟩ : ByteArray)] rfl (Z1) ?_; (with_reducible refine (strings_Join.calls _ _ x3_1 (⟨#[32]⟩ : ByteArray) t250 _ ?side1 ?side2 A15.out).mono ?_); (case side1 => have h_ := (Kd.R_reads' HO_3.out).2.2; exact tC); (case side2 => exact (Kd.R_reads' HO_3.out).2.1); rintro e w19 ⟨rfl, hb⟩; refine ⟨_, rfl, ?_⟩; replace HO_3 := Aside0.mk (Kd.R_below (Z55) hb); replace HO_7 := Aside0.mk (Kd.R_below (Z43) hb); replace HB := Aside0.mk (below_step (Z0) hb); (try clear hb)))
    go_ret
    exact ⟨Z3, Z0⟩

-- EXTERNAL: function 57 (strings_Index)

/-! ### stringslite_HasPrefix: function 87 -/
def stringslite_HasPrefix.f (a0 : ByteArray) (a1 : ByteArray) : Option (Bool) := if (a0.size : Int) ≥ (a1.size : Int) then (if 0 ≤ (a1.size : Int) then (if (a1.size : Int) ≤ (a0.size : Int) then (some ((a0.extract 0 ((a1.size : Int) : Int).toNat).toList == a1.toList)) else (none)) else (none)) else (some false)
set_option maxHeartbeats 40000000 in
set_option maxRecDepth 100000 in
theorem stringslite_HasPrefix.calls (a0 : ByteArray) (a1 : ByteArray) (r : Bool) (w : World) (h : stringslite_HasPrefix.f a0 a1 = some r) :
  Calls Tryz.prog 87 #[.string a0, .string a1] w fun e w' => e = .returned (.bool r) ∧ Drawn0 w w' := by
 have H : (if (a0.size : Int) ≥ (a1.size : Int) then (if 0 ≤ (a1.size : Int) then (if (a1.size : Int) ≤ (a0.size : Int) then (some ((a0.extract 0 ((a1.size : Int) : Int).toNat).toList == a1.toList)) else (none)) else (none)) else (some false)) = some r := h
 clear h
 by_cases c3 : (a0.size : Int) ≥ (a1.size : Int)
 ·rw [if_pos c3] at H
  have c3b0 : decide ((a1.size : Int) ≤ (a0.size : Int)) = true := decide_eq_true c3
  have c3b1 : decide (a1.size ≤ a0.size) = true := decide_eq_true (Int.ofNat_le.mp c3)
  clear c3
  obtain ⟨c4, H⟩ := ifS H
  have c4b0 := eq_true c4
  have c4b1 : decide (0 ≤ (a1.size : Int)) = true := decide_eq_true c4
  clear c4
  obtain ⟨c5, H⟩ := ifS H
  have c5b0 := eq_true c5
  have c5b1 : decide ((a1.size : Int) ≤ (a0.size : Int)) = true := decide_eq_true c5
  clear c5
  obtain rfl := Option.some.inj H
  go_enter Tryz.func87, Tryz.ntmps87
  go_wp2
  go_ret
  exact ⟨Z2, Z11⟩
 ·rw [if_neg c3] at H
  have c3b0 : decide ((a1.size : Int) ≤ (a0.size : Int)) = false := decide_eq_false c3
  have c3b1 : decide (a1.size ≤ a0.size) = false := decide_eq_false (fun h => c3 (Int.ofNat_le.mpr h))
  clear c3
  obtain rfl := Option.some.inj H
  go_enter Tryz.func87, Tryz.ntmps87
  go_wp2
  go_ret
  exact ⟨Z2, Z11⟩

/-! ### strings_HasPrefix: function 71 -/
def strings_HasPrefix.f (a0 : ByteArray) (a1 : ByteArray) : Option (Bool) := (stringslite_HasPrefix.f a0 a1).bind fun t251 => (some t251)
set_option maxHeartbeats 40000000 in
set_option maxRecDepth 100000 in
theorem strings_HasPrefix.calls (a0 : ByteArray) (a1 : ByteArray) (r : Bool) (w : World) (h : strings_HasPrefix.f a0 a1 = some r) :
  Calls Tryz.prog 71 #[.string a0, .string a1] w fun e w' => e = .returned (.bool r) ∧ Drawn0 w w' := by
 have H : ((stringslite_HasPrefix.f a0 a1).bind fun t251 => (some t251)) = some r := h
 clear h
 obtain ⟨t251, A3, H⟩ := bindA H
 try dsimp only at H
 obtain rfl := Option.some.inj H
 go_enter Tryz.func71, Tryz.ntmps71
 go_wp2_with (first | ((with_reducible refine gate_callee (f := 87) rfl ?_); refine goesL_ (some 7) rfl rfl Tryz.func87 (Z20) rfl #[.string a0, .string a1] rfl (Z1) ?_; (with_reducible refine (stringslite_HasPrefix.calls a0 a1 t251 _ A3.out).mono ?_); rintro e w' ⟨rfl, ⟨nd, rfl⟩⟩; refine ⟨_, rfl, ?_⟩))
 go_ret
 exact ⟨Z2, Z11⟩

/-! ### impl_headEnd: function 55 -/
def impl_headEnd.f (a0 : ByteArray) : Option (Int) := (strings_HasPrefix.f a0 (⟨#[13, 10]⟩ : ByteArray)).bind fun t252 => (if t252 = true then (some 0) else ((strings_Index.f a0 (⟨#[13, 10, 13, 10]⟩ : ByteArray)).bind fun t253 => (if t253 < 0 then (some (-1)) else (some (wrap64 (t253 + 2))))))
set_option maxHeartbeats 40000000 in
set_option maxRecDepth 100000 in
theorem impl_headEnd.calls (a0 : ByteArray) (r : Int) (w : World) (HG : Aside0 (Glob w)) (h : impl_headEnd.f a0 = some r) :
  Calls Tryz.prog 55 #[.string a0] w fun e w' => e = .returned (.int .i64 r) ∧ Drawn0 w w' := by
 have H : ((strings_HasPrefix.f a0 (⟨#[13, 10]⟩ : ByteArray)).bind fun t252 => (if t252 = true then (some 0) else ((strings_Index.f a0 (⟨#[13, 10, 13, 10]⟩ : ByteArray)).bind fun t253 => (if t253 < 0 then (some (-1)) else (some (wrap64 (t253 + 2))))))) = some r := h
 clear h
 obtain ⟨t252, A2, H⟩ := bindA H
 try dsimp only at H
 by_cases c3 : t252 = true
 ·subst c3
  replace H := ifT H
  obtain rfl := Option.some.inj H
  go_enter Tryz.func55, Tryz.ntmps55
  go_wp2_with (first | ((with_reducible refine gate_callee (f := 71) rfl ?_); refine goesL_ (some 5) rfl rfl Tryz.func71 (Z20) rfl #[.string a0, .string (⟨#[13, 10]⟩ : ByteArray)] rfl (Z1) ?_; (with_reducible refine (strings_HasPrefix.calls a0 (⟨#[13, 10]⟩ : ByteArray) true _ A2.out).mono ?_); rintro e w' ⟨rfl, ⟨nd, rfl⟩⟩; refine ⟨_, rfl, ?_⟩))
  go_ret
  exact ⟨Z2, Z11⟩
 ·replace c3 := Bool.eq_false_iff.mpr c3
  subst c3
  replace H := ifF H
  obtain ⟨t253, A4, H⟩ := bindA H
  try dsimp only at H
  by_cases c5 : t253 < 0
  ·rw [if_pos c5] at H
   have c5b0 := decide_eq_true c5
   clear c5
   obtain rfl := Option.some.inj H
   go_enter Tryz.func55, Tryz.ntmps55
   go_wp2_with (first | ((with_reducible refine gate_callee (f := 71) rfl ?_); refine goesL_ (some 5) rfl rfl Tryz.func71 (Z20) rfl #[.string a0, .string (⟨#[13, 10]⟩ : ByteArray)] rfl (Z1) ?_; (with_reducible refine (strings_HasPrefix.calls a0 (⟨#[13, 10]⟩ : ByteArray) false _ A2.out).mono ?_); rintro e w' ⟨rfl, ⟨nd, rfl⟩⟩; refine ⟨_, rfl, ?_⟩) | ((with_reducible refine gate_callee (f := 57) rfl ?_); refine goesL_ (some 7) rfl rfl Tryz.func57 (Z20) rfl #[.string a0, .string (⟨#[13, 10, 13, 10]⟩ : ByteArray)] rfl (Z1) ?_; (with_reducible refine (strings_Index.calls a0 (⟨#[13, 10, 13, 10]⟩ : ByteArray) t253 _ ?side1 A4.out).mono ?_); (case side1 => first | exact HG | exact ⟨HG.out.of rfl⟩ | (refine ⟨HG.out.on ?_⟩; (repeat (first | (with_reducible first | exact HB.out | apply below_alloc | apply pw_below_drewN | apply below_drew1) | exact HB.out)); done) | exact ⟨HG.out.on HBW.out⟩); rintro e w' ⟨rfl, ⟨nd, rfl⟩⟩; refine ⟨_, rfl, ?_⟩))
   go_ret
   exact ⟨Z2, Z11⟩
  ·rw [if_neg c5] at H
   have c5b0 := decide_eq_false c5
   clear c5
   obtain rfl := Option.some.inj H
   go_enter Tryz.func55, Tryz.ntmps55
   go_wp2_with (first | ((with_reducible refine gate_callee (f := 71) rfl ?_); refine goesL_ (some 5) rfl rfl Tryz.func71 (Z20) rfl #[.string a0, .string (⟨#[13, 10]⟩ : ByteArray)] rfl (Z1) ?_; (with_reducible refine (strings_HasPrefix.calls a0 (⟨#[13, 10]⟩ : ByteArray) false _ A2.out).mono ?_); rintro e w' ⟨rfl, ⟨nd, rfl⟩⟩; refine ⟨_, rfl, ?_⟩) | ((with_reducible refine gate_callee (f := 57) rfl ?_); refine goesL_ (some 7) rfl rfl Tryz.func57 (Z20) rfl #[.string a0, .string (⟨#[13, 10, 13, 10]⟩ : ByteArray)] rfl (Z1) ?_; (with_reducible refine (strings_Index.calls a0 (⟨#[13, 10, 13, 10]⟩ : ByteArray) t253 _ ?side1 A4.out).mono ?_); (case side1 => first | exact HG | exact ⟨HG.out.of rfl⟩ | (refine ⟨HG.out.on ?_⟩; (repeat (first | (with_reducible first | exact HB.out | apply below_alloc | apply pw_below_drewN | apply below_drew1) | exact HB.out)); done) | exact ⟨HG.out.on HBW.out⟩); rintro e w' ⟨rfl, ⟨nd, rfl⟩⟩; refine ⟨_, rfl, ?_⟩))
   go_ret
   exact ⟨Z2, Z11⟩

/-! ### strings_HasSuffix: function 72 -/
def strings_HasSuffix.f (a0 : ByteArray) (a1 : ByteArray) : Option (Bool) := (stringslite_HasSuffix.f a0 a1).bind fun t254 => (some t254)
set_option maxHeartbeats 40000000 in
set_option maxRecDepth 100000 in
theorem strings_HasSuffix.calls (a0 : ByteArray) (a1 : ByteArray) (r : Bool) (w : World) (h : strings_HasSuffix.f a0 a1 = some r) :
  Calls Tryz.prog 72 #[.string a0, .string a1] w fun e w' => e = .returned (.bool r) ∧ Drawn0 w w' := by
 have H : ((stringslite_HasSuffix.f a0 a1).bind fun t254 => (some t254)) = some r := h
 clear h
 obtain ⟨t254, A3, H⟩ := bindA H
 try dsimp only at H
 obtain rfl := Option.some.inj H
 go_enter Tryz.func72, Tryz.ntmps72
 go_wp2_with (first | ((with_reducible refine gate_callee (f := 54) rfl ?_); refine goesL_ (some 7) rfl rfl Tryz.func54 (Z20) rfl #[.string a0, .string a1] rfl (Z1) ?_; (with_reducible refine (stringslite_HasSuffix.calls a0 a1 t254 _ A3.out).mono ?_); rintro e w' ⟨rfl, ⟨nd, rfl⟩⟩; refine ⟨_, rfl, ?_⟩))
 go_ret
 exact ⟨Z2, Z11⟩

-- EXTERNAL: function 73 (strings_Split)

end Go.Proofs.YtcmnndnigjkldaaGreatDoor.PFnExactFetchText
