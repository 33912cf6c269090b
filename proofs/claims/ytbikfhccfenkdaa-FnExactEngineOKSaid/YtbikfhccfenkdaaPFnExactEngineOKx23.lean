/- Contracts of functions that a statement reaches (wip/x/xprint.py, short.py, compact.py). -/
import Derived.Test.YtbikfhccfenkdaaPFnExactEngineOKx0
import Derived.Test.YtbikfhccfenkdaaPFnExactEngineOKx22
namespace Go.Proofs.Ytbikfhccfenkdaa.PFnExactEngineOK
open Go.RowKit Go.Proofs.YtbikfhccfenkdaaW.PrintWords Go.Proofs.YtbikfhccfenkdaaW.PrintLast Go.Proofs.YtbikfhccfenkdaaW.PrintMore Go.Proofs.Ytbikfhccfenkdaa.Mac
attribute [local go_sem] max2_int min2_int max_two min_two max_three min_three max_four min_four
set_option linter.unusedVariables false
set_option linter.unusedSimpArgs false

/-! ### laws_eqStringS: function 75 -/
def laws_eqStringS.l0 : Nat → List ByteArray → List ByteArray → Int → Option (Bool)
 | 0, _, _, _ => none
 | k + 1, x0, x1, x5 => if x5 < (x0.length : Int) then (if 0 ≤ x5 then (if x5 < (x1.length : Int) then (if (rdOf ByteArray.empty x0 x5).toList = (rdOf ByteArray.empty x1 x5).toList then (laws_eqStringS.l0 k x0 x1 (wrap64 (x5 + 1))) else (some false)) else (none)) else (none)) else (some true)
def laws_eqStringS.f (k : Nat) (l0 : List ByteArray) (l1 : List ByteArray) : Option (Bool) := if (l0.length : Int) = (l1.length : Int) then (laws_eqStringS.l0 k l0 l1 0) else (some false)
theorem laws_eqStringS.mono_l : ∀ k, (∀ y0 y1 y2, LeO (laws_eqStringS.l0 k y0 y1 y2) (laws_eqStringS.l0 (k + 1) y0 y1 y2))
 | 0 => fun _ _ _ r h => by simp [laws_eqStringS.l0] at h
 | k + 1 => by
  have ih0 := laws_eqStringS.mono_l k
  ·intro y0 y1 y2
   unfold laws_eqStringS.l0
   exact tM
theorem laws_eqStringS.mono : ∀ a0 a1 k, LeO (laws_eqStringS.f k a0 a1) (laws_eqStringS.f (k + 1) a0 a1) := by
 intro a0 a1 k
 have ih0 := laws_eqStringS.mono_l k
 unfold laws_eqStringS.f
 exact tM
set_option maxHeartbeats 40000000 in
set_option maxRecDepth 100000 in
theorem laws_eqStringS.calls (k : Nat) (A0 : Option Addr) (c0 : Nat) (l0 : List ByteArray) (A1 : Option Addr) (c1 : Nat) (l1 : List ByteArray) (r : Bool) (w : World) (hr0 : Kd.C Kd.string w A0 l0.length l0) (hc0 : l0.length ≤ c0) (hr1 : Kd.C Kd.string w A1 l1.length l1) (hc1 : l1.length ≤ c1) (h : laws_eqStringS.f k l0 l1 = some r) :
  Calls Try.prog 75 #[.slice A0 l0.length c0, .slice A1 l1.length c1] w fun e w' => e = .returned (.bool r) ∧ Drawn0 w w' := by
 have HR0 := Aside0.mk hr0
 have HC0 := Aside0.mk hc0
 clear hr0 hc0
 have HR1 := Aside0.mk hr1
 have HC1 := Aside0.mk hc1
 clear hr1 hc1
 have H : (if (l0.length : Int) = (l1.length : Int) then (laws_eqStringS.l0 k l0 l1 0) else (some false)) = some r := h
 clear h
 by_cases c3 : (l0.length : Int) = (l1.length : Int)
 ·rw [if_pos c3] at H
  have c3b0 := beq_iff_eq.mpr c3
  have c3b1 := bne_eq_false_iff_eq.mpr c3
  have c3b2 : (l0.length == l1.length) = true := by first | simpa using c3 | (simp at c3 ⊢; omega)
  clear c3
  have H' := Aside0.mk H
  clear H
  go_enter Try.func75, Try.ntmps75
  go_wp2
  repeat (go_quiet (fail); try go_wp2)
  go_loopg [5] k (fun kq v5 w' => ∃ (x5_1 : Int), v5 = .int .i64 x5_1 ∧ Aside0 (laws_eqStringS.l0 kq l0 l1 x5_1 = some r) ∧ Aside0 (kq ≤ k) ∧ Drawn0 w w')
  case atStart => exact ⟨(0), (Z3), H', ⟨Nat.le_refl _⟩, Z13⟩
  case round =>
   clear H'
   (try clear c1); (try clear c3); (try clear c3b0); (try clear c3b1); (try clear c3b2)
   obtain ⟨x5_1, rfl, HA, HK1, ⟨m1, rfl⟩⟩ := hrel
   cases gk with
   | zero => exact absurd HA.out (by simp [laws_eqStringS.l0])
   | succ k1 =>
    have H := HA.out
    clear HA
    simp only [laws_eqStringS.l0] at H
    by_cases c4 : x5_1 < (l0.length : Int)
    ·rw [if_pos c4] at H
     have c4b0 := decide_eq_true c4
     clear c4
     obtain ⟨c5, H⟩ := ifS H
     have c5b0 : decide (0 ≤ x5_1) = true := decide_eq_true c5
     clear c5
     obtain ⟨c6, H⟩ := ifS H
     have c6b0 : decide (x5_1 < (l1.length : Int)) = true := decide_eq_true c6
     clear c6
     by_cases c7 : (rdOf ByteArray.empty l0 x5_1).toList = (rdOf ByteArray.empty l1 x5_1).toList
     ·rw [if_pos c7] at H
      have c7b0 := beq_iff_eq.mpr c7
      have c7b1 := bne_eq_false_iff_eq.mpr c7
      clear c7
      have H' := Aside0.mk H
      clear H
      have p378 : 0 ≤ (x5_1 : Int) := of_decide_eq_true (Z4)
      have q378 : x5_1 < (l0.length : Int) := of_decide_eq_true (Z4)
      obtain ⟨ad378, e378, hx378_0⟩ := Kd.at_string HR0.out x5_1 p378 q378
      cases e378
      replace p378 := eq_true p378
      replace q378 := eq_true q378
      have p379 : 0 ≤ (x5_1 : Int) := of_decide_eq_true (Z4)
      have q379 : x5_1 < (l1.length : Int) := of_decide_eq_true (Z4)
      obtain ⟨ad379, e379, hx379_0⟩ := Kd.at_string HR1.out x5_1 p379 q379
      cases e379
      replace p379 := eq_true p379
      replace q379 := eq_true q379
      go_wp2
      repeat (go_quiet (fail); try go_wp2)
      go_roundg k1
      case measure => have := HK1.out; omega
      case rel => exact ⟨(wrap64 (x5_1 + 1)), (Z3), H', ⟨Z110⟩, Z13⟩
     ·rw [if_neg c7] at H
      have c7b0 := beq_eq_false_iff_ne.mpr c7
      have c7b1 := bne_iff_ne.mpr c7
      obtain rfl := Option.some.inj H
      have p378 : 0 ≤ (x5_1 : Int) := of_decide_eq_true (Z4)
      have q378 : x5_1 < (l0.length : Int) := of_decide_eq_true (Z4)
      obtain ⟨ad378, e378, hx378_0⟩ := Kd.at_string HR0.out x5_1 p378 q378
      cases e378
      replace p378 := eq_true p378
      replace q378 := eq_true q378
      have p379 : 0 ≤ (x5_1 : Int) := of_decide_eq_true (Z4)
      have q379 : x5_1 < (l1.length : Int) := of_decide_eq_true (Z4)
      obtain ⟨ad379, e379, hx379_0⟩ := Kd.at_string HR1.out x5_1 p379 q379
      cases e379
      replace p379 := eq_true p379
      replace q379 := eq_true q379
      go_wp2
      repeat (go_quiet (fail); try go_wp2)
      go_ret
      exact ⟨Z3, Z13⟩
    ·rw [if_neg c4] at H
     have c4b0 := decide_eq_false c4
     clear c4
     obtain rfl := Option.some.inj H
     go_wp2
     repeat (go_quiet (fail); try go_wp2)
     go_ret
     exact ⟨Z3, Z13⟩
 ·rw [if_neg c3] at H
  have c3b0 := beq_eq_false_iff_ne.mpr c3
  have c3b1 := bne_iff_ne.mpr c3
  have c3b2 : (l0.length == l1.length) = false := by first | simpa using c3 | (simp at c3 ⊢; omega)
  obtain rfl := Option.some.inj H
  go_enter Try.func75, Try.ntmps75
  go_wp2
  repeat (go_quiet (fail); try go_wp2)
  go_ret
  exact ⟨Z3, Z13⟩

/-! ### laws_eqBox: function 46 -/
def laws_eqBox.f (k : Nat) (a0_0 : ByteArray) (a0_1 : Int) (a0_2 : Int) (l0_3 : List (S71)) (l0_4 : List ByteArray) (a1_0 : ByteArray) (a1_1 : Int) (a1_2 : Int) (l1_3 : List (S71)) (l1_4 : List ByteArray) : Option (Bool) := if a0_0.toList = a1_0.toList then (if a0_1 = a1_1 then (if a0_2 = a1_2 then ((laws_eqStoredS.f k l0_3 l1_3).bind fun t382 => (if t382 = true then ((laws_eqStringS.f k l0_4 l1_4).bind fun t383 => (if t383 = true then (some true) else (some false))) else (some false))) else (some false)) else (some false)) else (some false)
theorem laws_eqBox.mono : ∀ a0 a1 a2 a3 a4 a5 a6 a7 a8 a9 k, LeO (laws_eqBox.f k a0 a1 a2 a3 a4 a5 a6 a7 a8 a9) (laws_eqBox.f (k + 1) a0 a1 a2 a3 a4 a5 a6 a7 a8 a9) := by
 intro a0 a1 a2 a3 a4 a5 a6 a7 a8 a9 k
 unfold laws_eqBox.f
 have m0 := @laws_eqStoredS.mono
 have m1 := @laws_eqStringS.mono
 exact tM
set_option maxHeartbeats 40000000 in
set_option maxRecDepth 100000 in
theorem laws_eqBox.calls (k : Nat) (a0_0 : ByteArray) (a0_1 : Int) (a0_2 : Int) (A0_3 : Option Addr) (c0_3 : Nat) (l0_3 : List (S71)) (A0_4 : Option Addr) (c0_4 : Nat) (l0_4 : List ByteArray) (a1_0 : ByteArray) (a1_1 : Int) (a1_2 : Int) (A1_3 : Option Addr) (c1_3 : Nat) (l1_3 : List (S71)) (A1_4 : Option Addr) (c1_4 : Nat) (l1_4 : List ByteArray) (r : Bool) (w : World) (hr0_3 : Kd.C k71 w A0_3 l0_3.length l0_3) (hc0_3 : l0_3.length ≤ c0_3) (hr0_4 : Kd.C Kd.string w A0_4 l0_4.length l0_4) (hc0_4 : l0_4.length ≤ c0_4) (hr1_3 : Kd.C k71 w A1_3 l1_3.length l1_3) (hc1_3 : l1_3.length ≤ c1_3) (hr1_4 : Kd.C Kd.string w A1_4 l1_4.length l1_4) (hc1_4 : l1_4.length ≤ c1_4) (h : laws_eqBox.f k a0_0 a0_1 a0_2 l0_3 l0_4 a1_0 a1_1 a1_2 l1_3 l1_4 = some r) :
  Calls Try.prog 46 #[.agg #[.string a0_0, .int .i64 a0_1, .int .i64 a0_2, .slice A0_3 l0_3.length c0_3, .slice A0_4 l0_4.length c0_4], .agg #[.string a1_0, .int .i64 a1_1, .int .i64 a1_2, .slice A1_3 l1_3.length c1_3, .slice A1_4 l1_4.length c1_4]] w fun e w' => e = .returned (.bool r) ∧ Below w.heap.size w w' := by
 have hu59 := Try.underlying59
 have HR0_3 := Aside0.mk hr0_3
 have HC0_3 := Aside0.mk hc0_3
 clear hr0_3 hc0_3
 have HR0_4 := Aside0.mk hr0_4
 have HC0_4 := Aside0.mk hc0_4
 clear hr0_4 hc0_4
 have HR1_3 := Aside0.mk hr1_3
 have HC1_3 := Aside0.mk hc1_3
 clear hr1_3 hc1_3
 have HR1_4 := Aside0.mk hr1_4
 have HC1_4 := Aside0.mk hc1_4
 clear hr1_4 hc1_4
 have HB := Aside0.mk (Below.refl w.heap.size w)
 have H : (if a0_0.toList = a1_0.toList then (if a0_1 = a1_1 then (if a0_2 = a1_2 then ((laws_eqStoredS.f k l0_3 l1_3).bind fun t382 => (if t382 = true then ((laws_eqStringS.f k l0_4 l1_4).bind fun t383 => (if t383 = true then (some true) else (some false))) else (some false))) else (some false)) else (some false)) else (some false)) = some r := h
 clear h
 by_cases c3 : a0_0.toList = a1_0.toList
 ·rw [if_pos c3] at H
  have c3b0 := beq_iff_eq.mpr c3
  have c3b1 := bne_eq_false_iff_eq.mpr c3
  clear c3
  by_cases c4 : a0_1 = a1_1
  ·rw [if_pos c4] at H
   have c4b0 := beq_iff_eq.mpr c4
   have c4b1 := bne_eq_false_iff_eq.mpr c4
   clear c4
   by_cases c5 : a0_2 = a1_2
   ·rw [if_pos c5] at H
    have c5b0 := beq_iff_eq.mpr c5
    have c5b1 := bne_eq_false_iff_eq.mpr c5
    clear c5
    obtain ⟨t382, A6, H⟩ := bindA H
    try dsimp only at H
    by_cases c7 : t382 = true
    ·subst c7
     replace H := ifT H
     obtain ⟨t383, A8, H⟩ := bindA H
     try dsimp only at H
     by_cases c9 : t383 = true
     ·subst c9
      replace H := ifT H
      obtain rfl := Option.some.inj H
      go_enter Try.func46, Try.ntmps46
      go_wp2_with (first | ((with_reducible refine gate_dst (N := 2) rfl ?_); refine bxE 2 #[.string a0_0, .int .i64 a0_1, .int .i64 a0_2, .slice A0_3 l0_3.length c0_3, .slice A0_4 l0_4.length c0_4] 59 ?_; intro gb380 hg w10 hbox hb; have BK380 := Aside0.mk (hbox); have GW380 := Aside0.mk ((szE w hg (Z0))); have GE380 := Aside0.mk ((szE w hg (Z0))); replace HB := Aside0.mk (below_step (Z0) hb); clear hb hbox hg) | ((with_reducible refine gate_dst (N := 3) rfl ?_); refine bxE 3 #[.string a1_0, .int .i64 a1_1, .int .i64 a1_2, .slice A1_3 l1_3.length c1_3, .slice A1_4 l1_4.length c1_4] 59 ?_; intro gb381 hg w11 hbox hb; have BK381 := Aside0.mk (hbox); have GW381 := Aside0.mk ((szE w hg (Z30))); have GE381 := Aside0.mk ((szE w hg (Z30))); replace HB := Aside0.mk (below_step (Z30) hb); have NB380_381 := Aside0.mk ((nL BK380 hg (Z35))); have NB381_380 := Aside0.mk ((nG BK380 hg (Z35))); replace BK380 := Aside0.mk (kB BK380 (Z35) hb); clear hb hbox hg; have hnb12 := NB380_381.out; have hnc12 := NB381_380.out; obtain ⟨hcz13_0, hcz13_1, hcz13_2, hcz13_3, hcz13_4⟩ := bc5 BK380.out; obtain ⟨hfz13_0, hfz13_1, hfz13_2, hfz13_3, hfz13_4⟩ := bf5 BK380.out; obtain ⟨hcz14_0, hcz14_1, hcz14_2, hcz14_3, hcz14_4⟩ := bc5 BK381.out; obtain ⟨hfz14_0, hfz14_1, hfz14_2, hfz14_3, hfz14_4⟩ := bf5 BK381.out) | ((with_reducible refine gate_callee (f := 74) rfl ?_); refine goesL_ (some 24) rfl rfl Try.func74 (Z24) rfl #[.slice A0_3 l0_3.length c0_3, .slice A1_3 l1_3.length c1_3] rfl (Z1) ?_; (with_reducible refine (laws_eqStoredS.calls k _ _ l0_3 _ _ l1_3 true _ ?side1 ?side2 ?side3 ?side4 A6.out).mono ?_); (case side1 => have h_ := Kd.C_below HR0_3.out HB.out; exact tC); (case side2 => exact HC0_3.out); (case side3 => have h_ := Kd.C_below HR1_3.out HB.out; exact tC); (case side4 => exact HC1_3.out); rintro e w15 ⟨rfl, hb⟩; refine ⟨_, rfl, ?_⟩; replace BK380 := Aside0.mk (kB BK380 (Z35) hb); replace BK381 := Aside0.mk (kB BK381 (Z134) hb); replace HB := Aside0.mk (below_step (Z52) hb); (try clear hb); obtain ⟨hcz16_0, hcz16_1, hcz16_2, hcz16_3, hcz16_4⟩ := bc5 BK380.out; obtain ⟨hfz16_0, hfz16_1, hfz16_2, hfz16_3, hfz16_4⟩ := bf5 BK380.out; obtain ⟨hcz17_0, hcz17_1, hcz17_2, hcz17_3, hcz17_4⟩ := bc5 BK381.out; obtain ⟨hfz17_0, hfz17_1, hfz17_2, hfz17_3, hfz17_4⟩ := bf5 BK381.out) | ((with_reducible refine gate_callee (f := 75) rfl ?_); refine goesL_ (some 30) rfl rfl Try.func75 (Z24) rfl #[.slice A0_4 l0_4.length c0_4, .slice A1_4 l1_4.length c1_4] rfl (Z1) ?_; (with_reducible refine (laws_eqStringS.calls k _ _ l0_4 _ _ l1_4 true _ ?side1 ?side2 ?side3 ?side4 A8.out).mono ?_); (case side1 => have h_ := Kd.C_below HR0_4.out HB.out; exact tC); (case side2 => exact HC0_4.out); (case side3 => have h_ := Kd.C_below HR1_4.out HB.out; exact tC); (case side4 => exact HC1_4.out); rintro e w' ⟨rfl, ⟨nd, rfl⟩⟩; refine ⟨_, rfl, ?_⟩))
      go_ret
      exact ⟨Z2, Z52⟩
     ·replace c9 := Bool.eq_false_iff.mpr c9
      subst c9
      replace H := ifF H
      obtain rfl := Option.some.inj H
      go_enter Try.func46, Try.ntmps46
      go_wp2_with (first | ((with_reducible refine gate_dst (N := 2) rfl ?_); refine bxE 2 #[.string a0_0, .int .i64 a0_1, .int .i64 a0_2, .slice A0_3 l0_3.length c0_3, .slice A0_4 l0_4.length c0_4] 59 ?_; intro gb380 hg w18 hbox hb; have BK380 := Aside0.mk (hbox); have GW380 := Aside0.mk ((szE w hg (Z0))); have GE380 := Aside0.mk ((szE w hg (Z0))); replace HB := Aside0.mk (below_step (Z0) hb); clear hb hbox hg) | ((with_reducible refine gate_dst (N := 3) rfl ?_); refine bxE 3 #[.string a1_0, .int .i64 a1_1, .int .i64 a1_2, .slice A1_3 l1_3.length c1_3, .slice A1_4 l1_4.length c1_4] 59 ?_; intro gb381 hg w19 hbox hb; have BK381 := Aside0.mk (hbox); have GW381 := Aside0.mk ((szE w hg (Z30))); have GE381 := Aside0.mk ((szE w hg (Z30))); replace HB := Aside0.mk (below_step (Z30) hb); have NB380_381 := Aside0.mk ((nL BK380 hg (Z35))); have NB381_380 := Aside0.mk ((nG BK380 hg (Z35))); replace BK380 := Aside0.mk (kB BK380 (Z35) hb); clear hb hbox hg; have hnb20 := NB380_381.out; have hnc20 := NB381_380.out; obtain ⟨hcz21_0, hcz21_1, hcz21_2, hcz21_3, hcz21_4⟩ := bc5 BK380.out; obtain ⟨hfz21_0, hfz21_1, hfz21_2, hfz21_3, hfz21_4⟩ := bf5 BK380.out; obtain ⟨hcz22_0, hcz22_1, hcz22_2, hcz22_3, hcz22_4⟩ := bc5 BK381.out; obtain ⟨hfz22_0, hfz22_1, hfz22_2, hfz22_3, hfz22_4⟩ := bf5 BK381.out) | ((with_reducible refine gate_callee (f := 74) rfl ?_); refine goesL_ (some 24) rfl rfl Try.func74 (Z24) rfl #[.slice A0_3 l0_3.length c0_3, .slice A1_3 l1_3.length c1_3] rfl (Z1) ?_; (with_reducible refine (laws_eqStoredS.calls k _ _ l0_3 _ _ l1_3 true _ ?side1 ?side2 ?side3 ?side4 A6.out).mono ?_); (case side1 => have h_ := Kd.C_below HR0_3.out HB.out; exact tC); (case side2 => exact HC0_3.out); (case side3 => have h_ := Kd.C_below HR1_3.out HB.out; exact tC); (case side4 => exact HC1_3.out); rintro e w23 ⟨rfl, hb⟩; refine ⟨_, rfl, ?_⟩; replace BK380 := Aside0.mk (kB BK380 (Z35) hb); replace BK381 := Aside0.mk (kB BK381 (Z134) hb); replace HB := Aside0.mk (below_step (Z52) hb); (try clear hb); obtain ⟨hcz24_0, hcz24_1, hcz24_2, hcz24_3, hcz24_4⟩ := bc5 BK380.out; obtain ⟨hfz24_0, hfz24_1, hfz24_2, hfz24_3, hfz24_4⟩ := bf5 BK380.out; obtain ⟨hcz25_0, hcz25_1, hcz25_2, hcz25_3, hcz25_4⟩ := bc5 BK381.out; obtain ⟨hfz25_0, hfz25_1, hfz25_2, hfz25_3, hfz25_4⟩ := bf5 BK381.out) | ((with_reducible refine gate_callee (f := 75) rfl ?_); refine goesL_ (some 30) rfl rfl Try.func75 (Z24) rfl #[.slice A0_4 l0_4.length c0_4, .slice A1_4 l1_4.length c1_4] rfl (Z1) ?_; (with_reducible refine (laws_eqStringS.calls k _ _ l0_4 _ _ l1_4 false _ ?side1 ?side2 ?side3 ?side4 A8.out).mono ?_); (case side1 => have h_ := Kd.C_below HR0_4.out HB.out; exact tC); (case side2 => exact HC0_4.out); (case side3 => have h_ := Kd.C_below HR1_4.out HB.out; exact tC); (case side4 => exact HC1_4.out); rintro e w' ⟨rfl, ⟨nd, rfl⟩⟩; refine ⟨_, rfl, ?_⟩))
      go_ret
      exact ⟨Z2, Z52⟩
    ·replace c7 := Bool.eq_false_iff.mpr c7
     subst c7
     replace H := ifF H
     obtain rfl := Option.some.inj H
     go_enter Try.func46, Try.ntmps46
     go_wp2_with (first | ((with_reducible refine gate_dst (N := 2) rfl ?_); refine bxE 2 #[.string a0_0, .int .i64 a0_1, .int .i64 a0_2, .slice A0_3 l0_3.length c0_3, .slice A0_4 l0_4.length c0_4] 59 ?_; intro gb380 hg w26 hbox hb; have BK380 := Aside0.mk (hbox); have GW380 := Aside0.mk ((szE w hg (Z0))); have GE380 := Aside0.mk ((szE w hg (Z0))); replace HB := Aside0.mk (below_step (Z0) hb); clear hb hbox hg) | ((with_reducible refine gate_dst (N := 3) rfl ?_); refine bxE 3 #[.string a1_0, .int .i64 a1_1, .int .i64 a1_2, .slice A1_3 l1_3.length c1_3, .slice A1_4 l1_4.length c1_4] 59 ?_; intro gb381 hg w27 hbox hb; have BK381 := Aside0.mk (hbox); have GW381 := Aside0.mk ((szE w hg (Z30))); have GE381 := Aside0.mk ((szE w hg (Z30))); replace HB := Aside0.mk (below_step (Z30) hb); have NB380_381 := Aside0.mk ((nL BK380 hg (Z35))); have NB381_380 := Aside0.mk ((nG BK380 hg (Z35))); replace BK380 := Aside0.mk (kB BK380 (Z35) hb); clear hb hbox hg; have hnb28 := NB380_381.out; have hnc28 := NB381_380.out; obtain ⟨hcz29_0, hcz29_1, hcz29_2, hcz29_3, hcz29_4⟩ := bc5 BK380.out; obtain ⟨hfz29_0, hfz29_1, hfz29_2, hfz29_3, hfz29_4⟩ := bf5 BK380.out; obtain ⟨hcz30_0, hcz30_1, hcz30_2, hcz30_3, hcz30_4⟩ := bc5 BK381.out; obtain ⟨hfz30_0, hfz30_1, hfz30_2, hfz30_3, hfz30_4⟩ := bf5 BK381.out) | ((with_reducible refine gate_callee (f := 74) rfl ?_); refine goesL_ (some 24) rfl rfl Try.func74 (Z24) rfl #[.slice A0_3 l0_3.length c0_3, .slice A1_3 l1_3.length c1_3] rfl (Z1) ?_; (with_reducible refine (laws_eqStoredS.calls k _ _ l0_3 _ _ l1_3 false _ ?side1 ?side2 ?side3 ?side4 A6.out).mono ?_); (case side1 => have h_ := Kd.C_below HR0_3.out HB.out; exact tC); (case side2 => exact HC0_3.out); (case side3 => have h_ := Kd.C_below HR1_3.out HB.out; exact tC); (case side4 => exact HC1_3.out); rintro e w31 ⟨rfl, hb⟩; refine ⟨_, rfl, ?_⟩; replace BK380 := Aside0.mk (kB BK380 (Z35) hb); replace BK381 := Aside0.mk (kB BK381 (Z134) hb); replace HB := Aside0.mk (below_step (Z52) hb); (try clear hb)))
     go_ret
     exact ⟨Z2, Z52⟩
   ·rw [if_neg c5] at H
    have c5b0 := beq_eq_false_iff_ne.mpr c5
    have c5b1 := bne_iff_ne.mpr c5
    obtain rfl := Option.some.inj H
    go_enter Try.func46, Try.ntmps46
    go_wp2_with (first | ((with_reducible refine gate_dst (N := 2) rfl ?_); refine bxE 2 #[.string a0_0, .int .i64 a0_1, .int .i64 a0_2, .slice A0_3 l0_3.length c0_3, .slice A0_4 l0_4.length c0_4] 59 ?_; intro gb380 hg w32 hbox hb; have BK380 := Aside0.mk (hbox); have GW380 := Aside0.mk ((szE w hg (Z0))); have GE380 := Aside0.mk ((szE w hg (Z0))); replace HB := Aside0.mk (below_step (Z0) hb); clear hb hbox hg) | ((with_reducible refine gate_dst (N := 3) rfl ?_); refine bxE 3 #[.string a1_0, .int .i64 a1_1, .int .i64 a1_2, .slice A1_3 l1_3.length c1_3, .slice A1_4 l1_4.length c1_4] 59 ?_; intro gb381 hg w33 hbox hb; have BK381 := Aside0.mk (hbox); have GW381 := Aside0.mk ((szE w hg (Z30))); have GE381 := Aside0.mk ((szE w hg (Z30))); replace HB := Aside0.mk (below_step (Z30) hb); have NB380_381 := Aside0.mk ((nL BK380 hg (Z35))); have NB381_380 := Aside0.mk ((nG BK380 hg (Z35))); replace BK380 := Aside0.mk (kB BK380 (Z35) hb); clear hb hbox hg; have hnb34 := NB380_381.out; have hnc34 := NB381_380.out; obtain ⟨hcz35_0, hcz35_1, hcz35_2, hcz35_3, hcz35_4⟩ := bc5 BK380.out; obtain ⟨hfz35_0, hfz35_1, hfz35_2, hfz35_3, hfz35_4⟩ := bf5 BK380.out; obtain ⟨hcz36_0, hcz36_1, hcz36_2, hcz36_3, hcz36_4⟩ := bc5 BK381.out; obtain ⟨hfz36_0, hfz36_1, hfz36_2, hfz36_3, hfz36_4⟩ := bf5 BK381.out))
    go_ret
    exact ⟨Z2, Z52⟩
  ·rw [if_neg c4] at H
   have c4b0 := beq_eq_false_iff_ne.mpr c4
   have c4b1 := bne_iff_ne.mpr c4
   obtain rfl := Option.some.inj H
   go_enter Try.func46, Try.ntmps46
   go_wp2_with (first | ((with_reducible refine gate_dst (N := 2) rfl ?_); refine bxE 2 #[.string a0_0, .int .i64 a0_1, .int .i64 a0_2, .slice A0_3 l0_3.length c0_3, .slice A0_4 l0_4.length c0_4] 59 ?_; intro gb380 hg w37 hbox hb; have BK380 := Aside0.mk (hbox); have GW380 := Aside0.mk ((szE w hg (Z0))); have GE380 := Aside0.mk ((szE w hg (Z0))); replace HB := Aside0.mk (below_step (Z0) hb); clear hb hbox hg) | ((with_reducible refine gate_dst (N := 3) rfl ?_); refine bxE 3 #[.string a1_0, .int .i64 a1_1, .int .i64 a1_2, .slice A1_3 l1_3.length c1_3, .slice A1_4 l1_4.length c1_4] 59 ?_; intro gb381 hg w38 hbox hb; have BK381 := Aside0.mk (hbox); have GW381 := Aside0.mk ((szE w hg (Z30))); have GE381 := Aside0.mk ((szE w hg (Z30))); replace HB := Aside0.mk (below_step (Z30) hb); have NB380_381 := Aside0.mk ((nL BK380 hg (Z35))); have NB381_380 := Aside0.mk ((nG BK380 hg (Z35))); replace BK380 := Aside0.mk (kB BK380 (Z35) hb); clear hb hbox hg; have hnb39 := NB380_381.out; have hnc39 := NB381_380.out; obtain ⟨hcz40_0, hcz40_1, hcz40_2, hcz40_3, hcz40_4⟩ := bc5 BK380.out; obtain ⟨hfz40_0, hfz40_1, hfz40_2, hfz40_3, hfz40_4⟩ := bf5 BK380.out; obtain ⟨hcz41_0, hcz41_1, hcz41_2, hcz41_3, hcz41_4⟩ := bc5 BK381.out; obtain ⟨hfz41_0, hfz41_1, hfz41_2, hfz41_3, hfz41_4⟩ := bf5 BK381.out))
   go_ret
   exact ⟨Z2, Z52⟩
 ·rw [if_neg c3] at H
  have c3b0 := beq_eq_false_iff_ne.mpr c3
  have c3b1 := bne_iff_ne.mpr c3
  obtain rfl := Option.some.inj H
  go_enter Try.func46, Try.ntmps46
  go_wp2_with (first | ((with_reducible refine gate_dst (N := 2) rfl ?_); refine bxE 2 #[.string a0_0, .int .i64 a0_1, .int .i64 a0_2, .slice A0_3 l0_3.length c0_3, .slice A0_4 l0_4.length c0_4] 59 ?_; intro gb380 hg w42 hbox hb; have BK380 := Aside0.mk (hbox); have GW380 := Aside0.mk ((szE w hg (Z0))); have GE380 := Aside0.mk ((szE w hg (Z0))); replace HB := Aside0.mk (below_step (Z0) hb); clear hb hbox hg) | ((with_reducible refine gate_dst (N := 3) rfl ?_); refine bxE 3 #[.string a1_0, .int .i64 a1_1, .int .i64 a1_2, .slice A1_3 l1_3.length c1_3, .slice A1_4 l1_4.length c1_4] 59 ?_; intro gb381 hg w43 hbox hb; have BK381 := Aside0.mk (hbox); have GW381 := Aside0.mk ((szE w hg (Z30))); have GE381 := Aside0.mk ((szE w hg (Z30))); replace HB := Aside0.mk (below_step (Z30) hb); have NB380_381 := Aside0.mk ((nL BK380 hg (Z35))); have NB381_380 := Aside0.mk ((nG BK380 hg (Z35))); replace BK380 := Aside0.mk (kB BK380 (Z35) hb); clear hb hbox hg; have hnb44 := NB380_381.out; have hnc44 := NB381_380.out; obtain ⟨hcz45_0, hcz45_1, hcz45_2, hcz45_3, hcz45_4⟩ := bc5 BK380.out; obtain ⟨hfz45_0, hfz45_1, hfz45_2, hfz45_3, hfz45_4⟩ := bf5 BK380.out; obtain ⟨hcz46_0, hcz46_1, hcz46_2, hcz46_3, hcz46_4⟩ := bc5 BK381.out; obtain ⟨hfz46_0, hfz46_1, hfz46_2, hfz46_3, hfz46_4⟩ := bf5 BK381.out))
  go_ret
  exact ⟨Z2, Z52⟩

/-! ### laws_eqBoxS: function 24 -/
def laws_eqBoxS.l0 : Nat → List (S59) → List (S59) → Int → Option (Bool)
 | 0, _, _, _ => none
 | k + 1, x0, x1, x5 => if x5 < (x0.length : Int) then (if 0 ≤ x5 then (if x5 < (x1.length : Int) then ((laws_eqBox.f k ((rd_T59 x0 x5).f0) ((rd_T59 x0 x5).f1) ((rd_T59 x0 x5).f2) ((rd_T59 x0 x5).f3) ((rd_T59 x0 x5).f4) ((rd_T59 x1 x5).f0) ((rd_T59 x1 x5).f1) ((rd_T59 x1 x5).f2) ((rd_T59 x1 x5).f3) ((rd_T59 x1 x5).f4)).bind fun t386 => (if t386 = true then (laws_eqBoxS.l0 k x0 x1 (wrap64 (x5 + 1))) else (some false))) else (none)) else (none)) else (some true)
def laws_eqBoxS.f (k : Nat) (l0 : List (S59)) (l1 : List (S59)) : Option (Bool) := if (l0.length : Int) = (l1.length : Int) then (laws_eqBoxS.l0 k l0 l1 0) else (some false)
theorem laws_eqBoxS.mono_l : ∀ k, (∀ y0 y1 y2, LeO (laws_eqBoxS.l0 k y0 y1 y2) (laws_eqBoxS.l0 (k + 1) y0 y1 y2))
 | 0 => fun _ _ _ r h => by simp [laws_eqBoxS.l0] at h
 | k + 1 => by
  have ih0 := laws_eqBoxS.mono_l k
  ·intro y0 y1 y2
   unfold laws_eqBoxS.l0
   have m0 := @laws_eqBox.mono
   exact tM
theorem laws_eqBoxS.mono : ∀ a0 a1 k, LeO (laws_eqBoxS.f k a0 a1) (laws_eqBoxS.f (k + 1) a0 a1) := by
 intro a0 a1 k
 have ih0 := laws_eqBoxS.mono_l k
 unfold laws_eqBoxS.f
 have m0 := @laws_eqBox.mono
 exact tM
def laws_eqBoxS.T6 : Bool × List (List Nat × List Nat) := (true, [([], []), ([], []), ([0, 1], [0, 1]), ([2], [2]), ([], []), ([], []), ([4, 5], [4, 5]), ([6], [6]), ([3, 7], [3, 7]), ([8], [8])])
def laws_eqBoxS.B6 : List Nat := [0, 0, 3, 7, 0, 0, 48, 112, 255, 511]
theorem laws_eqBoxS.tab6 : rtab .any (opsOf Try.f24 6) = laws_eqBoxS.T6 := by kernel_rfl
theorem laws_eqBoxS.bits6 : waitsOk laws_eqBoxS.T6.2 laws_eqBoxS.B6 = true := by kernel_rfl
set_option maxHeartbeats 40000000 in
set_option maxRecDepth 100000 in
theorem laws_eqBoxS.calls (k : Nat) (A0 : Option Addr) (c0 : Nat) (l0 : List (S59)) (A1 : Option Addr) (c1 : Nat) (l1 : List (S59)) (r : Bool) (w : World) (hr0 : Kd.C k59 w A0 l0.length l0) (hc0 : l0.length ≤ c0) (hr1 : Kd.C k59 w A1 l1.length l1) (hc1 : l1.length ≤ c1) (h : laws_eqBoxS.f k l0 l1 = some r) :
  Calls Try.prog 24 #[.slice A0 l0.length c0, .slice A1 l1.length c1] w fun e w' => e = .returned (.bool r) ∧ Below w.heap.size w w' := by
 have hu59 := Try.underlying59
 have HR0 := Aside0.mk hr0
 have HC0 := Aside0.mk hc0
 clear hr0 hc0
 have HR1 := Aside0.mk hr1
 have HC1 := Aside0.mk hc1
 clear hr1 hc1
 have HB := Aside0.mk (Below.refl w.heap.size w)
 have H : (if (l0.length : Int) = (l1.length : Int) then (laws_eqBoxS.l0 k l0 l1 0) else (some false)) = some r := h
 clear h
 by_cases c3 : (l0.length : Int) = (l1.length : Int)
 ·rw [if_pos c3] at H
  have c3b0 := beq_iff_eq.mpr c3
  have c3b1 := bne_eq_false_iff_eq.mpr c3
  have c3b2 : (l0.length == l1.length) = true := by first | simpa using c3 | (simp at c3 ⊢; omega)
  clear c3
  have H' := Aside0.mk H
  clear H
  go_enter Try.func24, Try.ntmps24
  go_wp2
  go_loopg [5] k (fun kq v5 w' => ∃ (x5_1 : Int), v5 = .int .i64 x5_1 ∧ Aside0 (laws_eqBoxS.l0 kq l0 l1 x5_1 = some r) ∧ Aside0 (kq ≤ k) ∧ Aside0 (Below w.heap.size w w'))
  case atStart => exact ⟨(0), (Z3), H', ⟨Nat.le_refl _⟩, ⟨Z0⟩⟩
  case round =>
   clear H'
   (try clear c1); (try clear c3); (try clear c3b0); (try clear c3b1); (try clear c3b2)
   obtain ⟨x5_1, rfl, HA, HK1, HB⟩ := hrel
   cases gk with
   | zero => exact absurd HA.out (by simp [laws_eqBoxS.l0])
   | succ k1 =>
    have H := HA.out
    clear HA
    simp only [laws_eqBoxS.l0] at H
    by_cases c4 : x5_1 < (l0.length : Int)
    ·rw [if_pos c4] at H
     have c4b0 := decide_eq_true c4
     clear c4
     obtain ⟨c5, H⟩ := ifS H
     have c5b0 : decide (0 ≤ x5_1) = true := decide_eq_true c5
     clear c5
     obtain ⟨c6, H⟩ := ifS H
     have c6b0 : decide (x5_1 < (l1.length : Int)) = true := decide_eq_true c6
     clear c6
     obtain ⟨t386, A7, H⟩ := bindA H
     try dsimp only at H
     by_cases c8 : t386 = true
     ·subst c8
      replace H := ifT H
      have H' := Aside0.mk H
      clear H
      try go_wp2
      replace HB := Aside0.mk (below_drew1 HB.out)
      have p384 : 0 ≤ (x5_1 : Int) := of_decide_eq_true (Z4)
      have q384 : x5_1 < (l0.length : Int) := of_decide_eq_true (Z4)
      obtain ⟨ad384, A384_3, c384_3, A384_4, c384_4, e384, hx384_0, hx384_1, hx384_2, hx384_3, hx384_4, hl384_3, hi384_3, hl384_4, hi384_4⟩ := at_T59 HR0.out x5_1 p384 q384
      have hw384_4 := hx384_4
      have hw384_3 := hx384_3
      have hw384_2 := hx384_2
      have hw384_1 := hx384_1
      have hw384_0 := hx384_0
      cases e384
      replace hx384_0 := cB HB.out hx384_0
      replace hx384_1 := cB HB.out hx384_1
      replace hx384_2 := cB HB.out hx384_2
      replace hx384_3 := cB HB.out hx384_3
      replace hx384_4 := cB HB.out hx384_4
      have HR384_3 := Aside0.mk hi384_3
      have HC384_3 := Aside0.mk hl384_3
      clear hi384_3 hl384_3
      have HR384_4 := Aside0.mk hi384_4
      have HC384_4 := Aside0.mk hl384_4
      clear hi384_4 hl384_4
      replace p384 := eq_true p384
      replace q384 := eq_true q384
      have p385 : 0 ≤ (x5_1 : Int) := of_decide_eq_true (Z4)
      have q385 : x5_1 < (l1.length : Int) := of_decide_eq_true (Z4)
      obtain ⟨ad385, A385_3, c385_3, A385_4, c385_4, e385, hx385_0, hx385_1, hx385_2, hx385_3, hx385_4, hl385_3, hi385_3, hl385_4, hi385_4⟩ := at_T59 HR1.out x5_1 p385 q385
      have hw385_4 := hx385_4
      have hw385_3 := hx385_3
      have hw385_2 := hx385_2
      have hw385_1 := hx385_1
      have hw385_0 := hx385_0
      cases e385
      replace hx385_0 := cB HB.out hx385_0
      replace hx385_1 := cB HB.out hx385_1
      replace hx385_2 := cB HB.out hx385_2
      replace hx385_3 := cB HB.out hx385_3
      replace hx385_4 := cB HB.out hx385_4
      have HR385_3 := Aside0.mk hi385_3
      have HC385_3 := Aside0.mk hl385_3
      clear hi385_3 hl385_3
      have HR385_4 := Aside0.mk hi385_4
      have HC385_4 := Aside0.mk hl385_4
      clear hi385_4 hl385_4
      replace p385 := eq_true p385
      replace q385 := eq_true q385
      refine start_ (n := 10) (S := fun w' => w'.cell? (ad384.add ((x5_1).toNat * 5)) = some (.string ((rd_T59 l0 x5_1).f0)) ∧ w'.cell? ⟨(ad384.add ((x5_1).toNat * 5)).block, (ad384.add ((x5_1).toNat * 5)).off + 1, none⟩ = some (.int .i64 ((rd_T59 l0 x5_1).f1)) ∧ w'.cell? ⟨(ad384.add ((x5_1).toNat * 5)).block, (ad384.add ((x5_1).toNat * 5)).off + 2, none⟩ = some (.int .i64 ((rd_T59 l0 x5_1).f2)) ∧ w'.cell? ⟨(ad384.add ((x5_1).toNat * 5)).block, (ad384.add ((x5_1).toNat * 5)).off + 3, none⟩ = some (.slice A384_3 ((rd_T59 l0 x5_1).f3).length c384_3) ∧ w'.cell? ⟨(ad384.add ((x5_1).toNat * 5)).block, (ad384.add ((x5_1).toNat * 5)).off + 4, none⟩ = some (.slice A384_4 ((rd_T59 l0 x5_1).f4).length c384_4) ∧ w'.cell? (ad385.add ((x5_1).toNat * 5)) = some (.string ((rd_T59 l1 x5_1).f0)) ∧ w'.cell? ⟨(ad385.add ((x5_1).toNat * 5)).block, (ad385.add ((x5_1).toNat * 5)).off + 1, none⟩ = some (.int .i64 ((rd_T59 l1 x5_1).f1)) ∧ w'.cell? ⟨(ad385.add ((x5_1).toNat * 5)).block, (ad385.add ((x5_1).toNat * 5)).off + 2, none⟩ = some (.int .i64 ((rd_T59 l1 x5_1).f2)) ∧ w'.cell? ⟨(ad385.add ((x5_1).toNat * 5)).block, (ad385.add ((x5_1).toNat * 5)).off + 3, none⟩ = some (.slice A385_3 ((rd_T59 l1 x5_1).f3).length c385_3) ∧ w'.cell? ⟨(ad385.add ((x5_1).toNat * 5)).block, (ad385.add ((x5_1).toNat * 5)).off + 4, none⟩ = some (.slice A385_4 ((rd_T59 l1 x5_1).f4).length c385_4)) (ds := []) #[false, false, false, false, false, false, false, false, false, false] (Z24) rfl rfl ⟨(cB HB.out hw384_0 :), ⟨(cB HB.out hw384_1 :), ⟨(cB HB.out hw384_2 :), ⟨(cB HB.out hw384_3 :), ⟨(cB HB.out hw384_4 :), ⟨(cB HB.out hw385_0 :), ⟨(cB HB.out hw385_1 :), ⟨(cB HB.out hw385_2 :), ⟨(cB HB.out hw385_3 :), (cB HB.out hw385_4 :)⟩⟩⟩⟩⟩⟩⟩⟩⟩ (fun hHeld => ?_); refine with_tabW laws_eqBoxS.tab6 laws_eqBoxS.bits6 (fun HT_ HW_ => ?_)
      generalize wr.drew = w9 at HB HR384_3 HR384_4 HR385_3 HR385_4 hx384_0 hx384_1 hx384_2 hx384_3 hx384_4 hx385_0 hx385_1 hx385_2 hx385_3 hx385_4 hHeld ⊢
      refine pA 0 17 ?_
      refine pA 1 18 ?_
      refine pA 2 19 ?_
      refine pA 4 21 ?_
      refine pA 5 22 ?_
      refine pA 6 23 ?_
      refine tA 3 20 ?_
      refine tA 7 24 ?_
      refine oA 8 25 (fun K hK => ?_)
      refine goes_ Try.func46 (Z24) rfl #[.agg #[.string ((rd_T59 l0 x5_1).f0), .int .i64 ((rd_T59 l0 x5_1).f1), .int .i64 ((rd_T59 l0 x5_1).f2), .slice A384_3 ((rd_T59 l0 x5_1).f3).length c384_3, .slice A384_4 ((rd_T59 l0 x5_1).f4).length c384_4], .agg #[.string ((rd_T59 l1 x5_1).f0), .int .i64 ((rd_T59 l1 x5_1).f1), .int .i64 ((rd_T59 l1 x5_1).f2), .slice A385_3 ((rd_T59 l1 x5_1).f3).length c385_3, .slice A385_4 ((rd_T59 l1 x5_1).f4).length c385_4]] (Z102) rfl rfl (Z1) ?_
      with_reducible refine (laws_eqBox.calls k1 ((rd_T59 l0 x5_1).f0) ((rd_T59 l0 x5_1).f1) ((rd_T59 l0 x5_1).f2) _ _ ((rd_T59 l0 x5_1).f3) _ _ ((rd_T59 l0 x5_1).f4) ((rd_T59 l1 x5_1).f0) ((rd_T59 l1 x5_1).f1) ((rd_T59 l1 x5_1).f2) _ _ ((rd_T59 l1 x5_1).f3) _ _ ((rd_T59 l1 x5_1).f4) true _ ?side1 ?side2 ?side3 ?side4 ?side5 ?side6 ?side7 ?side8 A7.out).mono ?_
      (case side1 => have h_ := Kd.C_below HR384_3.out HB.out; exact tC)
      (case side2 => exact HC384_3.out)
      (case side3 => have h_ := Kd.C_below HR384_4.out HB.out; exact tC)
      (case side4 => exact HC384_4.out)
      (case side5 => have h_ := Kd.C_below HR385_3.out HB.out; exact tC)
      (case side6 => exact HC385_3.out)
      (case side7 => have h_ := Kd.C_below HR385_4.out HB.out; exact tC)
      (case side8 => exact HC385_4.out)
      rintro e w10 ⟨rfl, hb⟩
      refine ⟨_, rfl, ?_⟩
      replace HB := Aside0.mk (below_step (Z0) hb)
      (try clear hb)
      refine hK.out _ _ ⟨(cB HB.out hw384_0 :), ⟨(cB HB.out hw384_1 :), ⟨(cB HB.out hw384_2 :), ⟨(cB HB.out hw384_3 :), ⟨(cB HB.out hw384_4 :), ⟨(cB HB.out hw385_0 :), ⟨(cB HB.out hw385_1 :), ⟨(cB HB.out hw385_2 :), ⟨(cB HB.out hw385_3 :), (cB HB.out hw385_4 :)⟩⟩⟩⟩⟩⟩⟩⟩⟩ (fun hHeld => ?_)
      clear hK K
      refine nB 25 ?_
      refine pA 9 26 ?_
      refine done_ (done_of HT_.out (Z24)) ?_
      try go_wp2
      go_roundg k1
      case measure => have := HK1.out; omega
      case rel => exact ⟨(wrap64 (x5_1 + 1)), (Z3), H', ⟨Z110⟩, ⟨Z0⟩⟩
     ·replace c8 := Bool.eq_false_iff.mpr c8
      subst c8
      replace H := ifF H
      obtain rfl := Option.some.inj H
      try go_wp2
      replace HB := Aside0.mk (below_drew1 HB.out)
      have p384 : 0 ≤ (x5_1 : Int) := of_decide_eq_true (Z4)
      have q384 : x5_1 < (l0.length : Int) := of_decide_eq_true (Z4)
      obtain ⟨ad384, A384_3, c384_3, A384_4, c384_4, e384, hx384_0, hx384_1, hx384_2, hx384_3, hx384_4, hl384_3, hi384_3, hl384_4, hi384_4⟩ := at_T59 HR0.out x5_1 p384 q384
      have hw384_4 := hx384_4
      have hw384_3 := hx384_3
      have hw384_2 := hx384_2
      have hw384_1 := hx384_1
      have hw384_0 := hx384_0
      cases e384
      replace hx384_0 := cB HB.out hx384_0
      replace hx384_1 := cB HB.out hx384_1
      replace hx384_2 := cB HB.out hx384_2
      replace hx384_3 := cB HB.out hx384_3
      replace hx384_4 := cB HB.out hx384_4
      have HR384_3 := Aside0.mk hi384_3
      have HC384_3 := Aside0.mk hl384_3
      clear hi384_3 hl384_3
      have HR384_4 := Aside0.mk hi384_4
      have HC384_4 := Aside0.mk hl384_4
      clear hi384_4 hl384_4
      replace p384 := eq_true p384
      replace q384 := eq_true q384
      have p385 : 0 ≤ (x5_1 : Int) := of_decide_eq_true (Z4)
      have q385 : x5_1 < (l1.length : Int) := of_decide_eq_true (Z4)
      obtain ⟨ad385, A385_3, c385_3, A385_4, c385_4, e385, hx385_0, hx385_1, hx385_2, hx385_3, hx385_4, hl385_3, hi385_3, hl385_4, hi385_4⟩ := at_T59 HR1.out x5_1 p385 q385
      have hw385_4 := hx385_4
      have hw385_3 := hx385_3
      have hw385_2 := hx385_2
      have hw385_1 := hx385_1
      have hw385_0 := hx385_0
      cases e385
      replace hx385_0 := cB HB.out hx385_0
      replace hx385_1 := cB HB.out hx385_1
      replace hx385_2 := cB HB.out hx385_2
      replace hx385_3 := cB HB.out hx385_3
      replace hx385_4 := cB HB.out hx385_4
      have HR385_3 := Aside0.mk hi385_3
      have HC385_3 := Aside0.mk hl385_3
      clear hi385_3 hl385_3
      have HR385_4 := Aside0.mk hi385_4
      have HC385_4 := Aside0.mk hl385_4
      clear hi385_4 hl385_4
      replace p385 := eq_true p385
      replace q385 := eq_true q385
      refine start_ (n := 10) (S := fun w' => w'.cell? (ad384.add ((x5_1).toNat * 5)) = some (.string ((rd_T59 l0 x5_1).f0)) ∧ w'.cell? ⟨(ad384.add ((x5_1).toNat * 5)).block, (ad384.add ((x5_1).toNat * 5)).off + 1, none⟩ = some (.int .i64 ((rd_T59 l0 x5_1).f1)) ∧ w'.cell? ⟨(ad384.add ((x5_1).toNat * 5)).block, (ad384.add ((x5_1).toNat * 5)).off + 2, none⟩ = some (.int .i64 ((rd_T59 l0 x5_1).f2)) ∧ w'.cell? ⟨(ad384.add ((x5_1).toNat * 5)).block, (ad384.add ((x5_1).toNat * 5)).off + 3, none⟩ = some (.slice A384_3 ((rd_T59 l0 x5_1).f3).length c384_3) ∧ w'.cell? ⟨(ad384.add ((x5_1).toNat * 5)).block, (ad384.add ((x5_1).toNat * 5)).off + 4, none⟩ = some (.slice A384_4 ((rd_T59 l0 x5_1).f4).length c384_4) ∧ w'.cell? (ad385.add ((x5_1).toNat * 5)) = some (.string ((rd_T59 l1 x5_1).f0)) ∧ w'.cell? ⟨(ad385.add ((x5_1).toNat * 5)).block, (ad385.add ((x5_1).toNat * 5)).off + 1, none⟩ = some (.int .i64 ((rd_T59 l1 x5_1).f1)) ∧ w'.cell? ⟨(ad385.add ((x5_1).toNat * 5)).block, (ad385.add ((x5_1).toNat * 5)).off + 2, none⟩ = some (.int .i64 ((rd_T59 l1 x5_1).f2)) ∧ w'.cell? ⟨(ad385.add ((x5_1).toNat * 5)).block, (ad385.add ((x5_1).toNat * 5)).off + 3, none⟩ = some (.slice A385_3 ((rd_T59 l1 x5_1).f3).length c385_3) ∧ w'.cell? ⟨(ad385.add ((x5_1).toNat * 5)).block, (ad385.add ((x5_1).toNat * 5)).off + 4, none⟩ = some (.slice A385_4 ((rd_T59 l1 x5_1).f4).length c385_4)) (ds := []) #[false, false, false, false, false, false, false, false, false, false] (Z24) rfl rfl ⟨(cB HB.out hw384_0 :), ⟨(cB HB.out hw384_1 :), ⟨(cB HB.out hw384_2 :), ⟨(cB HB.out hw384_3 :), ⟨(cB HB.out hw384_4 :), ⟨(cB HB.out hw385_0 :), ⟨(cB HB.out hw385_1 :), ⟨(cB HB.out hw385_2 :), ⟨(cB HB.out hw385_3 :), (cB HB.out hw385_4 :)⟩⟩⟩⟩⟩⟩⟩⟩⟩ (fun hHeld => ?_); refine with_tabW laws_eqBoxS.tab6 laws_eqBoxS.bits6 (fun HT_ HW_ => ?_)
      generalize wr.drew = w11 at HB HR384_3 HR384_4 HR385_3 HR385_4 hx384_0 hx384_1 hx384_2 hx384_3 hx384_4 hx385_0 hx385_1 hx385_2 hx385_3 hx385_4 hHeld ⊢
      refine pA 0 17 ?_
      refine pA 1 18 ?_
      refine pA 2 19 ?_
      refine pA 4 21 ?_
      refine pA 5 22 ?_
      refine pA 6 23 ?_
      refine tA 3 20 ?_
      refine tA 7 24 ?_
      refine oA 8 25 (fun K hK => ?_)
      refine goes_ Try.func46 (Z24) rfl #[.agg #[.string ((rd_T59 l0 x5_1).f0), .int .i64 ((rd_T59 l0 x5_1).f1), .int .i64 ((rd_T59 l0 x5_1).f2), .slice A384_3 ((rd_T59 l0 x5_1).f3).length c384_3, .slice A384_4 ((rd_T59 l0 x5_1).f4).length c384_4], .agg #[.string ((rd_T59 l1 x5_1).f0), .int .i64 ((rd_T59 l1 x5_1).f1), .int .i64 ((rd_T59 l1 x5_1).f2), .slice A385_3 ((rd_T59 l1 x5_1).f3).length c385_3, .slice A385_4 ((rd_T59 l1 x5_1).f4).length c385_4]] (Z102) rfl rfl (Z1) ?_
      with_reducible refine (laws_eqBox.calls k1 ((rd_T59 l0 x5_1).f0) ((rd_T59 l0 x5_1).f1) ((rd_T59 l0 x5_1).f2) _ _ ((rd_T59 l0 x5_1).f3) _ _ ((rd_T59 l0 x5_1).f4) ((rd_T59 l1 x5_1).f0) ((rd_T59 l1 x5_1).f1) ((rd_T59 l1 x5_1).f2) _ _ ((rd_T59 l1 x5_1).f3) _ _ ((rd_T59 l1 x5_1).f4) false _ ?side1 ?side2 ?side3 ?side4 ?side5 ?side6 ?side7 ?side8 A7.out).mono ?_
      (case side1 => have h_ := Kd.C_below HR384_3.out HB.out; exact tC)
      (case side2 => exact HC384_3.out)
      (case side3 => have h_ := Kd.C_below HR384_4.out HB.out; exact tC)
      (case side4 => exact HC384_4.out)
      (case side5 => have h_ := Kd.C_below HR385_3.out HB.out; exact tC)
      (case side6 => exact HC385_3.out)
      (case side7 => have h_ := Kd.C_below HR385_4.out HB.out; exact tC)
      (case side8 => exact HC385_4.out)
      rintro e w12 ⟨rfl, hb⟩
      refine ⟨_, rfl, ?_⟩
      replace HB := Aside0.mk (below_step (Z0) hb)
      (try clear hb)
      refine hK.out _ _ ⟨(cB HB.out hw384_0 :), ⟨(cB HB.out hw384_1 :), ⟨(cB HB.out hw384_2 :), ⟨(cB HB.out hw384_3 :), ⟨(cB HB.out hw384_4 :), ⟨(cB HB.out hw385_0 :), ⟨(cB HB.out hw385_1 :), ⟨(cB HB.out hw385_2 :), ⟨(cB HB.out hw385_3 :), (cB HB.out hw385_4 :)⟩⟩⟩⟩⟩⟩⟩⟩⟩ (fun hHeld => ?_)
      clear hK K
      refine nB 25 ?_
      refine pA 9 26 ?_
      refine done_ (done_of HT_.out (Z24)) ?_
      try go_wp2
      go_ret
      exact ⟨Z2, Z0⟩
    ·rw [if_neg c4] at H
     have c4b0 := decide_eq_false c4
     clear c4
     obtain rfl := Option.some.inj H
     go_wp2
     go_ret
     exact ⟨Z2, Z0⟩
 ·rw [if_neg c3] at H
  have c3b0 := beq_eq_false_iff_ne.mpr c3
  have c3b1 := bne_iff_ne.mpr c3
  have c3b2 : (l0.length == l1.length) = false := by first | simpa using c3 | (simp at c3 ⊢; omega)
  obtain rfl := Option.some.inj H
  go_enter Try.func24, Try.ntmps24
  go_wp2
  go_ret
  exact ⟨Z2, Z0⟩

/-! ### laws_eqEngine: function 8 -/
def laws_eqEngine.f (k : Nat) (a0_0 : Int) (a0_1 : ByteArray) (a0_2 : Int) (l0_3 : List (S59)) (a1_0 : Int) (a1_1 : ByteArray) (a1_2 : Int) (l1_3 : List (S59)) : Option (Bool) := (laws_eqLog.f a0_0 a0_1 a0_2 a1_0 a1_1 a1_2).bind fun t389 => (if t389 = true then ((laws_eqBoxS.f k l0_3 l1_3).bind fun t390 => (if t390 = true then (some true) else (some false))) else (some false))
theorem laws_eqEngine.mono : ∀ a0 a1 a2 a3 a4 a5 a6 a7 k, LeO (laws_eqEngine.f k a0 a1 a2 a3 a4 a5 a6 a7) (laws_eqEngine.f (k + 1) a0 a1 a2 a3 a4 a5 a6 a7) := by
 intro a0 a1 a2 a3 a4 a5 a6 a7 k
 unfold laws_eqEngine.f
 have m0 := @laws_eqBoxS.mono
 exact tM
set_option maxHeartbeats 40000000 in
set_option maxRecDepth 100000 in
theorem laws_eqEngine.calls (k : Nat) (a0_0 : Int) (a0_1 : ByteArray) (a0_2 : Int) (A0_3 : Option Addr) (c0_3 : Nat) (l0_3 : List (S59)) (a1_0 : Int) (a1_1 : ByteArray) (a1_2 : Int) (A1_3 : Option Addr) (c1_3 : Nat) (l1_3 : List (S59)) (r : Bool) (w : World) (hr0_3 : Kd.C k59 w A0_3 l0_3.length l0_3) (hc0_3 : l0_3.length ≤ c0_3) (hr1_3 : Kd.C k59 w A1_3 l1_3.length l1_3) (hc1_3 : l1_3.length ≤ c1_3) (h : laws_eqEngine.f k a0_0 a0_1 a0_2 l0_3 a1_0 a1_1 a1_2 l1_3 = some r) :
  Calls Try.prog 8 #[.agg #[.int .i64 a0_0, .string a0_1, .int .i64 a0_2, .slice A0_3 l0_3.length c0_3], .agg #[.int .i64 a1_0, .string a1_1, .int .i64 a1_2, .slice A1_3 l1_3.length c1_3]] w fun e w' => e = .returned (.bool r) ∧ Below w.heap.size w w' := by
 have hu32 := Try.underlying32
 have hu29 := Try.underlying29
 have HR0_3 := Aside0.mk hr0_3
 have HC0_3 := Aside0.mk hc0_3
 clear hr0_3 hc0_3
 have HR1_3 := Aside0.mk hr1_3
 have HC1_3 := Aside0.mk hc1_3
 clear hr1_3 hc1_3
 have HB := Aside0.mk (Below.refl w.heap.size w)
 have H : ((laws_eqLog.f a0_0 a0_1 a0_2 a1_0 a1_1 a1_2).bind fun t389 => (if t389 = true then ((laws_eqBoxS.f k l0_3 l1_3).bind fun t390 => (if t390 = true then (some true) else (some false))) else (some false))) = some r := h
 clear h
 obtain ⟨t389, A3, H⟩ := bindA H
 try dsimp only at H
 by_cases c4 : t389 = true
 ·subst c4
  replace H := ifT H
  obtain ⟨t390, A5, H⟩ := bindA H
  try dsimp only at H
  by_cases c6 : t390 = true
  ·subst c6
   replace H := ifT H
   obtain rfl := Option.some.inj H
   go_enter Try.func8, Try.ntmps8
   go_wp2_with (first | ((with_reducible refine gate_dst (N := 2) rfl ?_); refine bxE 2 #[.int .i64 a0_0, .string a0_1, .int .i64 a0_2, .slice A0_3 l0_3.length c0_3] 32 ?_; intro gb387 hg w7 hbox hb; have BK387 := Aside0.mk (hbox); have GW387 := Aside0.mk ((szE w hg (Z0))); have GE387 := Aside0.mk ((szE w hg (Z0))); replace HB := Aside0.mk (below_step (Z0) hb); clear hb hbox hg) | ((with_reducible refine gate_dst (N := 3) rfl ?_); refine bxE 3 #[.int .i64 a1_0, .string a1_1, .int .i64 a1_2, .slice A1_3 l1_3.length c1_3] 32 ?_; intro gb388 hg w8 hbox hb; have BK388 := Aside0.mk (hbox); have GW388 := Aside0.mk ((szE w hg (Z60))); have GE388 := Aside0.mk ((szE w hg (Z60))); replace HB := Aside0.mk (below_step (Z60) hb); have NB387_388 := Aside0.mk ((nL BK387 hg (Z53))); have NB388_387 := Aside0.mk ((nG BK387 hg (Z53))); replace BK387 := Aside0.mk (kB BK387 (Z53) hb); clear hb hbox hg; have hnb9 := NB387_388.out; have hnc9 := NB388_387.out; obtain ⟨hcz10_0, hcz10_1, hcz10_2, hcz10_3⟩ := bc4 BK387.out; obtain ⟨hfz10_0, hfz10_1, hfz10_2, hfz10_3⟩ := bf4 BK387.out; obtain ⟨hcz11_0, hcz11_1, hcz11_2, hcz11_3⟩ := bc4 BK388.out; obtain ⟨hfz11_0, hfz11_1, hfz11_2, hfz11_3⟩ := bf4 BK388.out) | ((with_reducible refine gate_callee (f := 23) rfl ?_); refine goesL_ (some 9) rfl rfl Try.func23 (Z24) rfl #[.agg #[.int .i64 a0_0, .string a0_1, .int .i64 a0_2], .agg #[.int .i64 a1_0, .string a1_1, .int .i64 a1_2]] rfl (Z1) ?_; (with_reducible refine (laws_eqLog.calls a0_0 a0_1 a0_2 a1_0 a1_1 a1_2 true _ A3.out).mono ?_); rintro e w12 ⟨rfl, hb⟩; refine ⟨_, rfl, ?_⟩; replace BK387 := Aside0.mk (kB BK387 (Z53) hb); replace BK388 := Aside0.mk (kB BK388 (Z96) hb); replace HB := Aside0.mk (below_step (Z55) hb); (try clear hb); obtain ⟨hcz13_0, hcz13_1, hcz13_2, hcz13_3⟩ := bc4 BK387.out; obtain ⟨hfz13_0, hfz13_1, hfz13_2, hfz13_3⟩ := bf4 BK387.out; obtain ⟨hcz14_0, hcz14_1, hcz14_2, hcz14_3⟩ := bc4 BK388.out; obtain ⟨hfz14_0, hfz14_1, hfz14_2, hfz14_3⟩ := bf4 BK388.out) | ((with_reducible refine gate_callee (f := 24) rfl ?_); refine goesL_ (some 15) rfl rfl Try.func24 (Z24) rfl #[.slice A0_3 l0_3.length c0_3, .slice A1_3 l1_3.length c1_3] rfl (Z1) ?_; (with_reducible refine (laws_eqBoxS.calls k _ _ l0_3 _ _ l1_3 true _ ?side1 ?side2 ?side3 ?side4 A5.out).mono ?_); (case side1 => have h_ := Kd.C_below HR0_3.out HB.out; exact tC); (case side2 => exact HC0_3.out); (case side3 => have h_ := Kd.C_below HR1_3.out HB.out; exact tC); (case side4 => exact HC1_3.out); rintro e w15 ⟨rfl, hb⟩; refine ⟨_, rfl, ?_⟩; replace BK387 := Aside0.mk (kB BK387 (Z53) hb); replace BK388 := Aside0.mk (kB BK388 (Z96) hb); replace HB := Aside0.mk (below_step (Z55) hb); (try clear hb)))
   go_ret
   exact ⟨Z2, Z55⟩
  ·replace c6 := Bool.eq_false_iff.mpr c6
   subst c6
   replace H := ifF H
   obtain rfl := Option.some.inj H
   go_enter Try.func8, Try.ntmps8
   go_wp2_with (first | ((with_reducible refine gate_dst (N := 2) rfl ?_); refine bxE 2 #[.int .i64 a0_0, .string a0_1, .int .i64 a0_2, .slice A0_3 l0_3.length c0_3] 32 ?_; intro gb387 hg w16 hbox hb; have BK387 := Aside0.mk (hbox); have GW387 := Aside0.mk ((szE w hg (Z0))); have GE387 := Aside0.mk ((szE w hg (Z0))); replace HB := Aside0.mk (below_step (Z0) hb); clear hb hbox hg) | ((with_reducible refine gate_dst (N := 3) rfl ?_); refine bxE 3 #[.int .i64 a1_0, .string a1_1, .int .i64 a1_2, .slice A1_3 l1_3.length c1_3] 32 ?_; intro gb388 hg w17 hbox hb; have BK388 := Aside0.mk (hbox); have GW388 := Aside0.mk ((szE w hg (Z60))); have GE388 := Aside0.mk ((szE w hg (Z60))); replace HB := Aside0.mk (below_step (Z60) hb); have NB387_388 := Aside0.mk ((nL BK387 hg (Z53))); have NB388_387 := Aside0.mk ((nG BK387 hg (Z53))); replace BK387 := Aside0.mk (kB BK387 (Z53) hb); clear hb hbox hg; have hnb18 := NB387_388.out; have hnc18 := NB388_387.out; obtain ⟨hcz19_0, hcz19_1, hcz19_2, hcz19_3⟩ := bc4 BK387.out; obtain ⟨hfz19_0, hfz19_1, hfz19_2, hfz19_3⟩ := bf4 BK387.out; obtain ⟨hcz20_0, hcz20_1, hcz20_2, hcz20_3⟩ := bc4 BK388.out; obtain ⟨hfz20_0, hfz20_1, hfz20_2, hfz20_3⟩ := bf4 BK388.out) | ((with_reducible refine gate_callee (f := 23) rfl ?_); refine goesL_ (some 9) rfl rfl Try.func23 (Z24) rfl #[.agg #[.int .i64 a0_0, .string a0_1, .int .i64 a0_2], .agg #[.int .i64 a1_0, .string a1_1, .int .i64 a1_2]] rfl (Z1) ?_; (with_reducible refine (laws_eqLog.calls a0_0 a0_1 a0_2 a1_0 a1_1 a1_2 true _ A3.out).mono ?_); rintro e w21 ⟨rfl, hb⟩; refine ⟨_, rfl, ?_⟩; replace BK387 := Aside0.mk (kB BK387 (Z53) hb); replace BK388 := Aside0.mk (kB BK388 (Z96) hb); replace HB := Aside0.mk (below_step (Z55) hb); (try clear hb); obtain ⟨hcz22_0, hcz22_1, hcz22_2, hcz22_3⟩ := bc4 BK387.out; obtain ⟨hfz22_0, hfz22_1, hfz22_2, hfz22_3⟩ := bf4 BK387.out; obtain ⟨hcz23_0, hcz23_1, hcz23_2, hcz23_3⟩ := bc4 BK388.out; obtain ⟨hfz23_0, hfz23_1, hfz23_2, hfz23_3⟩ := bf4 BK388.out) | ((with_reducible refine gate_callee (f := 24) rfl ?_); refine goesL_ (some 15) rfl rfl Try.func24 (Z24) rfl #[.slice A0_3 l0_3.length c0_3, .slice A1_3 l1_3.length c1_3] rfl (Z1) ?_; (with_reducible refine (laws_eqBoxS.calls k _ _ l0_3 _ _ l1_3 false _ ?side1 ?side2 ?side3 ?side4 A5.out).mono ?_); (case side1 => have h_ := Kd.C_below HR0_3.out HB.out; exact tC); (case side2 => exact HC0_3.out); (case side3 => have h_ := Kd.C_below HR1_3.out HB.out; exact tC); (case side4 => exact HC1_3.out); rintro e w24 ⟨rfl, hb⟩; refine ⟨_, rfl, ?_⟩; replace BK387 := Aside0.mk (kB BK387 (Z53) hb); replace BK388 := Aside0.mk (kB BK388 (Z96) hb); replace HB := Aside0.mk (below_step (Z55) hb); (try clear hb)))
   go_ret
   exact ⟨Z2, Z55⟩
 ·replace c4 := Bool.eq_false_iff.mpr c4
  subst c4
  replace H := ifF H
  obtain rfl := Option.some.inj H
  go_enter Try.func8, Try.ntmps8
  go_wp2_with (first | ((with_reducible refine gate_dst (N := 2) rfl ?_); refine bxE 2 #[.int .i64 a0_0, .string a0_1, .int .i64 a0_2, .slice A0_3 l0_3.length c0_3] 32 ?_; intro gb387 hg w25 hbox hb; have BK387 := Aside0.mk (hbox); have GW387 := Aside0.mk ((szE w hg (Z0))); have GE387 := Aside0.mk ((szE w hg (Z0))); replace HB := Aside0.mk (below_step (Z0) hb); clear hb hbox hg) | ((with_reducible refine gate_dst (N := 3) rfl ?_); refine bxE 3 #[.int .i64 a1_0, .string a1_1, .int .i64 a1_2, .slice A1_3 l1_3.length c1_3] 32 ?_; intro gb388 hg w26 hbox hb; have BK388 := Aside0.mk (hbox); have GW388 := Aside0.mk ((szE w hg (Z60))); have GE388 := Aside0.mk ((szE w hg (Z60))); replace HB := Aside0.mk (below_step (Z60) hb); have NB387_388 := Aside0.mk ((nL BK387 hg (Z53))); have NB388_387 := Aside0.mk ((nG BK387 hg (Z53))); replace BK387 := Aside0.mk (kB BK387 (Z53) hb); clear hb hbox hg; have hnb27 := NB387_388.out; have hnc27 := NB388_387.out; obtain ⟨hcz28_0, hcz28_1, hcz28_2, hcz28_3⟩ := bc4 BK387.out; obtain ⟨hfz28_0, hfz28_1, hfz28_2, hfz28_3⟩ := bf4 BK387.out; obtain ⟨hcz29_0, hcz29_1, hcz29_2, hcz29_3⟩ := bc4 BK388.out; obtain ⟨hfz29_0, hfz29_1, hfz29_2, hfz29_3⟩ := bf4 BK388.out) | ((with_reducible refine gate_callee (f := 23) rfl ?_); refine goesL_ (some 9) rfl rfl Try.func23 (Z24) rfl #[.agg #[.int .i64 a0_0, .string a0_1, .int .i64 a0_2], .agg #[.int .i64 a1_0, .string a1_1, .int .i64 a1_2]] rfl (Z1) ?_; (with_reducible refine (laws_eqLog.calls a0_0 a0_1 a0_2 a1_0 a1_1 a1_2 false _ A3.out).mono ?_); rintro e w30 ⟨rfl, hb⟩; refine ⟨_, rfl, ?_⟩; replace BK387 := Aside0.mk (kB BK387 (Z53) hb); replace BK388 := Aside0.mk (kB BK388 (Z96) hb); replace HB := Aside0.mk (below_step (Z55) hb); (try clear hb)))
  go_ret
  exact ⟨Z2, Z55⟩

end Go.Proofs.Ytbikfhccfenkdaa.PFnExactEngineOK
