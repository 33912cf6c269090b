/- Contracts of functions that a statement reaches (wip/x/xprint.py, short.py, compact.py). -/
import Derived.Test.YtbikfhccfenkdaaPFnExactEngineOKx0
import Derived.Test.YtbikfhccfenkdaaPFnExactEngineOKx4
import Derived.Test.YtbikfhccfenkdaaPFnExactEngineOKx5
namespace Go.Proofs.Ytbikfhccfenkdaa.PFnExactEngineOK
open Go.RowKit Go.Proofs.YtbikfhccfenkdaaW.PrintWords Go.Proofs.YtbikfhccfenkdaaW.PrintLast Go.Proofs.YtbikfhccfenkdaaW.PrintMore Go.Proofs.Ytbikfhccfenkdaa.Mac
attribute [local go_sem] max2_int min2_int max_two min_two max_three min_three max_four min_four
set_option linter.unusedVariables false
set_option linter.unusedSimpArgs false

/-! ### spec_StoreOK: function 12 -/
def spec_StoreOK.l0 : Nat → List (S59) → Int → Option (Bool)
 | 0, _, _ => none
 | k + 1, x0, x3 => if x3 < (x0.length : Int) then (if 0 ≤ x3 then ((spec_BoxOK.f k ((rd_T59 x0 x3).f0) ((rd_T59 x0 x3).f1) ((rd_T59 x0 x3).f2) ((rd_T59 x0 x3).f3) ((rd_T59 x0 x3).f4)).bind fun t139 => (if t139 = true then (if ((rd_T59 x0 x3).f1) = (wrap64 (x3 + 1)) then (if x3 ≤ (x0.length : Int) then ((spec_l09Find.f k (x0.take (x3 : Int).toNat) ((rd_T59 x0 x3).f0)).bind fun t146 => (if t146 ≥ 0 then (some false) else (spec_StoreOK.l0 k x0 (wrap64 (x3 + 1))))) else (none)) else (some false)) else (some false))) else (none)) else (some true)
def spec_StoreOK.f (k : Nat) (l0 : List (S59)) : Option (Bool) := if (l0.length : Int) > 4096 then (some false) else (if (l0.length : Int) > 4 then (some false) else (spec_StoreOK.l0 k l0 0))
theorem spec_StoreOK.mono_l : ∀ k, (∀ y0 y1, LeO (spec_StoreOK.l0 k y0 y1) (spec_StoreOK.l0 (k + 1) y0 y1))
 | 0 => fun _ _ r h => by simp [spec_StoreOK.l0] at h
 | k + 1 => by
  have ih0 := spec_StoreOK.mono_l k
  ·intro y0 y1
   unfold spec_StoreOK.l0
   have m0 := @spec_BoxOK.mono
   have m1 := @spec_l09Find.mono
   exact tM
theorem spec_StoreOK.mono : ∀ a0 k, LeO (spec_StoreOK.f k a0) (spec_StoreOK.f (k + 1) a0) := by
 intro a0 k
 have ih0 := spec_StoreOK.mono_l k
 unfold spec_StoreOK.f
 have m0 := @spec_BoxOK.mono
 have m1 := @spec_l09Find.mono
 exact tM
def spec_StoreOK.T8 : Bool × List (List Nat × List Nat) := (true, [([], []), ([], []), ([0, 1], [0, 1]), ([2], [2]), ([3], [3]), ([4], [4]), ([5, 4], [5]), ([6], [6]), ([6], [6]), ([7, 8, 6], [6, 7, 8]), ([9, 6], [6, 9]), ([10, 6], [6, 10]), ([6], [6]), ([12, 6], [6, 12]), ([11, 13, 6], [6, 11, 13]), ([6, 14], [6, 14]), ([15, 6], [15]), ([16], [16]), ([16], [16]), ([17, 18, 16], [16, 17, 18]), ([16], [16]), ([16], [16]), ([20, 21, 16], [16, 20, 21]), ([22, 16], [16, 22]), ([23, 16], [16, 23]), ([19, 24, 16, 16], [16, 19, 24]), ([25, 16], [16, 25]), ([16, 26], [16, 26])])
def spec_StoreOK.B8 : List Nat := [0, 0, 3, 7, 15, 31, 63, 127, 127, 511, 1023, 2047, 127, 4223, 16383, 32767, 65535, 131071, 131071, 524287, 131071, 131071, 3276799, 7471103, 15859711, 33554431, 67108863, 134217727]
theorem spec_StoreOK.tab8 : rtab .any (opsOf Try.f12 8) = spec_StoreOK.T8 := by kernel_rfl
theorem spec_StoreOK.bits8 : waitsOk spec_StoreOK.T8.2 spec_StoreOK.B8 = true := by kernel_rfl
set_option maxHeartbeats 40000000 in
set_option maxRecDepth 100000 in
theorem spec_StoreOK.calls (k : Nat) (A0 : Option Addr) (c0 : Nat) (l0 : List (S59)) (r : Bool) (w : World) (hr0 : Kd.C k59 w A0 l0.length l0) (hc0 : l0.length ≤ c0) (h : spec_StoreOK.f k l0 = some r) :
  Calls Try.prog 12 #[.slice A0 l0.length c0] w fun e w' => e = .returned (.bool r) ∧ Below w.heap.size w w' := by
 have hu59 := Try.underlying59
 have HR0 := Aside0.mk hr0
 have HC0 := Aside0.mk hc0
 clear hr0 hc0
 have HB := Aside0.mk (Below.refl w.heap.size w)
 have H : (if (l0.length : Int) > 4096 then (some false) else (if (l0.length : Int) > 4 then (some false) else (spec_StoreOK.l0 k l0 0))) = some r := h
 clear h
 by_cases c2 : (l0.length : Int) > 4096
 ·rw [if_pos c2] at H
  have c2b0 : decide (4096 < (l0.length : Int)) = true := decide_eq_true c2
  have c2b1 : decide (4096 < l0.length) = true := decide_eq_true (Z43)
  clear c2
  obtain rfl := Option.some.inj H
  go_enter Try.func12, Try.ntmps12
  go_wp2
  go_ret
  exact ⟨Z2, Z0⟩
 ·rw [if_neg c2] at H
  have c2b0 : decide (4096 < (l0.length : Int)) = false := decide_eq_false c2
  have c2b1 : decide (4096 < l0.length) = false := decide_eq_false (Z43)
  clear c2
  by_cases c3 : (l0.length : Int) > 4
  ·rw [if_pos c3] at H
   have c3b0 : decide (4 < (l0.length : Int)) = true := decide_eq_true c3
   have c3b1 : decide (4 < l0.length) = true := decide_eq_true (Z43)
   clear c3
   obtain rfl := Option.some.inj H
   go_enter Try.func12, Try.ntmps12
   go_wp2
   go_ret
   exact ⟨Z2, Z0⟩
  ·rw [if_neg c3] at H
   have c3b0 : decide (4 < (l0.length : Int)) = false := decide_eq_false c3
   have c3b1 : decide (4 < l0.length) = false := decide_eq_false (Z43)
   clear c3
   have H' := Aside0.mk H
   clear H
   go_enter Try.func12, Try.ntmps12
   go_wp2
   go_loopg [3] k (fun kq v3 w' => ∃ (x3_1 : Int), v3 = .int .i64 x3_1 ∧ Aside0 (spec_StoreOK.l0 kq l0 x3_1 = some r) ∧ Aside0 (kq ≤ k) ∧ Aside0 (Below w.heap.size w w'))
   case atStart => exact ⟨(0), (Z3), H', ⟨Nat.le_refl _⟩, ⟨Z0⟩⟩
   case round =>
    clear H'
    (try clear c2); (try clear c2b0); (try clear c2b1); (try clear c3); (try clear c3b0); (try clear c3b1)
    obtain ⟨x3_1, rfl, HA, HK1, HB⟩ := hrel
    cases gk with
    | zero => exact absurd HA.out (by simp [spec_StoreOK.l0])
    | succ k1 =>
     have H := HA.out
     clear HA
     simp only [spec_StoreOK.l0] at H
     by_cases c4 : x3_1 < (l0.length : Int)
     ·rw [if_pos c4] at H
      have c4b0 := decide_eq_true c4
      clear c4
      obtain ⟨c5, H⟩ := ifS H
      have c5b0 : decide (0 ≤ x3_1) = true := decide_eq_true c5
      clear c5
      obtain ⟨t139, A6, H⟩ := bindA H
      try dsimp only at H
      by_cases c7 : t139 = true
      ·subst c7
       replace H := ifT H
       by_cases c8 : ((rd_T59 l0 x3_1).f1) = (wrap64 (x3_1 + 1))
       ·rw [if_pos c8] at H
        have c8b0 := beq_iff_eq.mpr c8
        have c8b1 := bne_eq_false_iff_eq.mpr c8
        clear c8
        have c9b0 := eq_true (of_decide_eq_true (Z4) : 0 ≤ x3_1)
        obtain ⟨c10, H⟩ := ifS H
        have c10b0 := eq_true c10
        have c10b1 : decide (x3_1 ≤ (l0.length : Int)) = true := decide_eq_true c10
        clear c10
        obtain ⟨y141, hy141⟩ : ∃ y_ : List (S59), y_ = (l0.take (x3_1 : Int).toNat) := ⟨_, rfl⟩
        replace H : ((spec_l09Find.f k1 y141 ((rd_T59 l0 x3_1).f0)).bind fun t146 => (if t146 ≥ 0 then (some false) else (spec_StoreOK.l0 k1 l0 (wrap64 (x3_1 + 1))))) = some r := by first | (rw [hy141]; with_reducible exact H) | (have H2_ := (Option.bind_some _ _).symm.trans H; rw [hy141]; with_reducible exact H2_) | (have H2_ := (Option.bind_some _ _).symm.trans H; with_reducible exact H2_) | with_reducible exact H | (rw [hy141]; exact H) | exact H
        have Ny141 := Aside0.mk hy141
        clear hy141
        obtain ⟨t146, A11, H⟩ := bindA H
        try dsimp only at H
        by_cases c12 : t146 ≥ 0
        ·rw [if_pos c12] at H
         have c12b0 : decide (0 ≤ t146) = true := decide_eq_true c12
         clear c12
         obtain rfl := Option.some.inj H
         try go_wp2
         replace HB := Aside0.mk (below_drew1 HB.out)
         have p138 : 0 ≤ (x3_1 : Int) := of_decide_eq_true (Z4)
         have q138 : x3_1 < (l0.length : Int) := of_decide_eq_true (Z4)
         obtain ⟨ad138, A138_3, c138_3, A138_4, c138_4, e138, hx138_0, hx138_1, hx138_2, hx138_3, hx138_4, hl138_3, hi138_3, hl138_4, hi138_4⟩ := at_T59 HR0.out x3_1 p138 q138
         have hw138_4 := hx138_4
         have hw138_3 := hx138_3
         have hw138_2 := hx138_2
         have hw138_1 := hx138_1
         have hw138_0 := hx138_0
         cases e138
         replace hx138_0 := cB HB.out hx138_0
         replace hx138_1 := cB HB.out hx138_1
         replace hx138_2 := cB HB.out hx138_2
         replace hx138_3 := cB HB.out hx138_3
         replace hx138_4 := cB HB.out hx138_4
         have HR138_3 := Aside0.mk hi138_3
         have HC138_3 := Aside0.mk hl138_3
         clear hi138_3 hl138_3
         have HR138_4 := Aside0.mk hi138_4
         have HC138_4 := Aside0.mk hl138_4
         clear hi138_4 hl138_4
         replace p138 := eq_true p138
         replace q138 := eq_true q138
         have p140 : 0 ≤ (x3_1 : Int) := of_decide_eq_true (Z4)
         have q140 : x3_1 < (l0.length : Int) := of_decide_eq_true (Z4)
         obtain ⟨ad140, A140_3, c140_3, A140_4, c140_4, e140, hx140_0, hx140_1, hx140_2, hx140_3, hx140_4, hl140_3, hi140_3, hl140_4, hi140_4⟩ := at_T59 HR0.out x3_1 p140 q140
         have hw140_4 := hx140_4
         have hw140_3 := hx140_3
         have hw140_2 := hx140_2
         have hw140_1 := hx140_1
         have hw140_0 := hx140_0
         obtain rfl : ad138 = ad140 := (by injection e140)
         replace hx140_0 := cB HB.out hx140_0
         replace hx140_1 := cB HB.out hx140_1
         replace hx140_2 := cB HB.out hx140_2
         replace hx140_3 := cB HB.out hx140_3
         replace hx140_4 := cB HB.out hx140_4
         have HR140_3 := Aside0.mk hi140_3
         have HC140_3 := Aside0.mk hl140_3
         clear hi140_3 hl140_3
         have HR140_4 := Aside0.mk hi140_4
         have HC140_4 := Aside0.mk hl140_4
         clear hi140_4 hl140_4
         replace p140 := eq_true p140
         replace q140 := eq_true q140
         have p145 : 0 ≤ (x3_1 : Int) := of_decide_eq_true (Z4)
         have q145 : x3_1 < (l0.length : Int) := of_decide_eq_true (Z4)
         obtain ⟨ad145, A145_3, c145_3, A145_4, c145_4, e145, hx145_0, hx145_1, hx145_2, hx145_3, hx145_4, hl145_3, hi145_3, hl145_4, hi145_4⟩ := at_T59 HR0.out x3_1 p145 q145
         have hw145_4 := hx145_4
         have hw145_3 := hx145_3
         have hw145_2 := hx145_2
         have hw145_1 := hx145_1
         have hw145_0 := hx145_0
         obtain rfl : ad138 = ad145 := (by injection e145)
         replace hx145_0 := cB HB.out hx145_0
         replace hx145_1 := cB HB.out hx145_1
         replace hx145_2 := cB HB.out hx145_2
         replace hx145_3 := cB HB.out hx145_3
         replace hx145_4 := cB HB.out hx145_4
         have HR145_3 := Aside0.mk hi145_3
         have HC145_3 := Aside0.mk hl145_3
         clear hi145_3 hl145_3
         have HR145_4 := Aside0.mk hi145_4
         have HC145_4 := Aside0.mk hl145_4
         clear hi145_4 hl145_4
         replace p145 := eq_true p145
         replace q145 := eq_true q145
         have ea_ := Option.some.inj (hx140_3.symm.trans hx145_3)
         injection ea_ with ea_ en_ ec_
         subst ea_
         subst ec_
         clear en_
         have ea_ := Option.some.inj (hx140_4.symm.trans hx145_4)
         injection ea_ with ea_ en_ ec_
         subst ea_
         subst ec_
         clear en_
         refine start_ (n := 28) (S := fun w' => w'.cell? (ad138.add ((x3_1).toNat * 5)) = some (.string ((rd_T59 l0 x3_1).f0)) ∧ w'.cell? ⟨(ad138.add ((x3_1).toNat * 5)).block, (ad138.add ((x3_1).toNat * 5)).off + 1, none⟩ = some (.int .i64 ((rd_T59 l0 x3_1).f1)) ∧ w'.cell? ⟨(ad138.add ((x3_1).toNat * 5)).block, (ad138.add ((x3_1).toNat * 5)).off + 2, none⟩ = some (.int .i64 ((rd_T59 l0 x3_1).f2)) ∧ w'.cell? ⟨(ad138.add ((x3_1).toNat * 5)).block, (ad138.add ((x3_1).toNat * 5)).off + 3, none⟩ = some (.slice A138_3 ((rd_T59 l0 x3_1).f3).length c138_3) ∧ w'.cell? ⟨(ad138.add ((x3_1).toNat * 5)).block, (ad138.add ((x3_1).toNat * 5)).off + 4, none⟩ = some (.slice A138_4 ((rd_T59 l0 x3_1).f4).length c138_4) ∧ w'.cell? (ad138.add ((x3_1).toNat * 5)) = some (.string ((rd_T59 l0 x3_1).f0)) ∧ w'.cell? ⟨(ad138.add ((x3_1).toNat * 5)).block, (ad138.add ((x3_1).toNat * 5)).off + 1, none⟩ = some (.int .i64 ((rd_T59 l0 x3_1).f1)) ∧ w'.cell? ⟨(ad138.add ((x3_1).toNat * 5)).block, (ad138.add ((x3_1).toNat * 5)).off + 2, none⟩ = some (.int .i64 ((rd_T59 l0 x3_1).f2)) ∧ w'.cell? ⟨(ad138.add ((x3_1).toNat * 5)).block, (ad138.add ((x3_1).toNat * 5)).off + 3, none⟩ = some (.slice A140_3 ((rd_T59 l0 x3_1).f3).length c140_3) ∧ w'.cell? ⟨(ad138.add ((x3_1).toNat * 5)).block, (ad138.add ((x3_1).toNat * 5)).off + 4, none⟩ = some (.slice A140_4 ((rd_T59 l0 x3_1).f4).length c140_4) ∧ w'.cell? (ad138.add ((x3_1).toNat * 5)) = some (.string ((rd_T59 l0 x3_1).f0)) ∧ w'.cell? ⟨(ad138.add ((x3_1).toNat * 5)).block, (ad138.add ((x3_1).toNat * 5)).off + 1, none⟩ = some (.int .i64 ((rd_T59 l0 x3_1).f1)) ∧ w'.cell? ⟨(ad138.add ((x3_1).toNat * 5)).block, (ad138.add ((x3_1).toNat * 5)).off + 2, none⟩ = some (.int .i64 ((rd_T59 l0 x3_1).f2)) ∧ w'.cell? ⟨(ad138.add ((x3_1).toNat * 5)).block, (ad138.add ((x3_1).toNat * 5)).off + 3, none⟩ = some (.slice A140_3 ((rd_T59 l0 x3_1).f3).length c140_3) ∧ w'.cell? ⟨(ad138.add ((x3_1).toNat * 5)).block, (ad138.add ((x3_1).toNat * 5)).off + 4, none⟩ = some (.slice A140_4 ((rd_T59 l0 x3_1).f4).length c140_4)) (ds := []) #[false, false, false, false, false, false, false, false, false, false, false, false, false, false, false, false, false, false, false, false, false, false, false, false, false, false, false, false] (Z24) rfl rfl ⟨(cB HB.out hw138_0 :), ⟨(cB HB.out hw138_1 :), ⟨(cB HB.out hw138_2 :), ⟨(cB HB.out hw138_3 :), ⟨(cB HB.out hw138_4 :), ⟨(cB HB.out hw140_0 :), ⟨(cB HB.out hw140_1 :), ⟨(cB HB.out hw140_2 :), ⟨(cB HB.out hw140_3 :), ⟨(cB HB.out hw140_4 :), ⟨(cB HB.out hw145_0 :), ⟨(cB HB.out hw145_1 :), ⟨(cB HB.out hw145_2 :), ⟨(cB HB.out hw145_3 :), (cB HB.out hw145_4 :)⟩⟩⟩⟩⟩⟩⟩⟩⟩⟩⟩⟩⟩⟩ (fun hHeld => ?_); refine with_tabW spec_StoreOK.tab8 spec_StoreOK.bits8 (fun HT_ HW_ => ?_)
         generalize wr.drew = w13 at HB HR138_3 HR138_4 HR140_3 HR140_4 HR145_3 HR145_4 hx138_0 hx138_1 hx138_2 hx138_3 hx138_4 hx140_0 hx140_1 hx140_2 hx140_3 hx140_4 hx145_0 hx145_1 hx145_2 hx145_3 hx145_4 hHeld ⊢
         refine pA 0 16 ?_
         refine pA 1 17 ?_
         refine pA 2 18 ?_
         refine tA 3 19 ?_
         refine oA 4 20 (fun K hK => ?_)
         refine goes_ Try.func27 (Z24) rfl #[.agg #[.string ((rd_T59 l0 x3_1).f0), .int .i64 ((rd_T59 l0 x3_1).f1), .int .i64 ((rd_T59 l0 x3_1).f2), .slice A138_3 ((rd_T59 l0 x3_1).f3).length c138_3, .slice A138_4 ((rd_T59 l0 x3_1).f4).length c138_4]] (Z102) rfl rfl (Z1) ?_
         with_reducible refine (spec_BoxOK.calls k1 ((rd_T59 l0 x3_1).f0) ((rd_T59 l0 x3_1).f1) ((rd_T59 l0 x3_1).f2) _ _ ((rd_T59 l0 x3_1).f3) _ _ ((rd_T59 l0 x3_1).f4) true _ ?side1 ?side2 ?side3 ?side4 A6.out).mono ?_
         (case side1 => have h_ := Kd.C_below HR138_3.out HB.out; exact tC)
         (case side2 => exact HC138_3.out)
         (case side3 => have h_ := Kd.C_below HR138_4.out HB.out; exact tC)
         (case side4 => exact HC138_4.out)
         rintro e w14 ⟨rfl, hb⟩
         refine ⟨_, rfl, ?_⟩
         replace HB := Aside0.mk (below_step (Z0) hb)
         (try clear hb)
         have q15 : (x3_1 : Int) ≤ ((l0.length : Int) : Int) := of_decide_eq_true (Z4)
         obtain ⟨i015, hi015, _, hsz15, _⟩ := info_parts info59
         have hroom15 : l0.length ≤ c0 := HC0.out
         have hC15 : Kd.C k59 _ (some ad138) l0.length l0 := HR0.out
         have hcut15 := cut_to (P := Try.prog) 30 59 .i64 Try.underlying30 hi015 (some ad138) l0.length c0 x3_1 (of_decide_eq_true (Z4)) q15 hroom15
         have hr15 := Kd.C_take (m := (x3_1 : Int).toNat) hC15 (Z43)
         have hy15 : y141.length = (x3_1 : Int).toNat := (by rw [Ny141.out, List.length_take]; omega)
         rw [← Ny141.out] at hr15
         rw [← hy15] at hcut15
         have HR144 := Aside0.mk hr15
         have HC144 := Aside0.mk (show y141.length ≤ c0 from by omega)
         clear hr15 hC15 hroom15 hi015 hsz15
         have KY15 := Aside0.mk hy15
         clear hy15
         replace q15 := eq_true q15
         refine hK.out _ _ ⟨(cB HB.out hw138_0 :), ⟨(cB HB.out hw138_1 :), ⟨(cB HB.out hw138_2 :), ⟨(cB HB.out hw138_3 :), ⟨(cB HB.out hw138_4 :), ⟨(cB HB.out hw140_0 :), ⟨(cB HB.out hw140_1 :), ⟨(cB HB.out hw140_2 :), ⟨(cB HB.out hw140_3 :), ⟨(cB HB.out hw140_4 :), ⟨(cB HB.out hw145_0 :), ⟨(cB HB.out hw145_1 :), ⟨(cB HB.out hw145_2 :), ⟨(cB HB.out hw145_3 :), (cB HB.out hw145_4 :)⟩⟩⟩⟩⟩⟩⟩⟩⟩⟩⟩⟩⟩⟩ (fun hHeld => ?_)
         clear hK K
         refine nB 20 ?_
         refine pA 5 21 ?_
         refine pA 6 22 ?_
         refine pA 7 23 ?_
         refine pA 8 24 ?_
         refine pA 9 25 ?_
         refine pA 10 26 ?_
         refine pA 12 28 ?_
         refine pA 13 29 ?_
         refine tA 11 27 ?_
         refine pA 14 30 ?_
         refine pA 15 31 ?_
         refine pA 16 32 ?_
         refine pA 17 33 ?_
         refine pA 18 34 ?_
         refine pA 19 35 ?_
         refine pA 20 36 ?_
         refine pA 21 37 ?_
         refine pA 22 38 ?_
         refine pA 23 39 ?_
         refine tA 24 40 ?_
         refine oA 25 41 (fun K hK => ?_)
         refine goes_ Try.func28 (Z24) rfl #[.slice (some ad138) y141.length c0, .string ((rd_T59 l0 x3_1).f0)] (Z102) rfl rfl (Z1) ?_
         with_reducible refine (spec_l09Find.calls k1 _ _ y141 ((rd_T59 l0 x3_1).f0) t146 _ ?side1 ?side2 A11.out).mono ?_
         (case side1 => have h_ := Kd.C_below HR144.out HB.out; exact tC)
         (case side2 => exact HC144.out)
         rintro e w' ⟨rfl, ⟨nd, rfl⟩⟩
         refine ⟨_, rfl, ?_⟩
         refine hK.out _ _ ⟨(cB HB.out hw138_0 :), ⟨(cB HB.out hw138_1 :), ⟨(cB HB.out hw138_2 :), ⟨(cB HB.out hw138_3 :), ⟨(cB HB.out hw138_4 :), ⟨(cB HB.out hw140_0 :), ⟨(cB HB.out hw140_1 :), ⟨(cB HB.out hw140_2 :), ⟨(cB HB.out hw140_3 :), ⟨(cB HB.out hw140_4 :), ⟨(cB HB.out hw145_0 :), ⟨(cB HB.out hw145_1 :), ⟨(cB HB.out hw145_2 :), ⟨(cB HB.out hw145_3 :), (cB HB.out hw145_4 :)⟩⟩⟩⟩⟩⟩⟩⟩⟩⟩⟩⟩⟩⟩ (fun hHeld => ?_)
         clear hK K
         refine nB 41 ?_
         refine pA 26 42 ?_
         refine pA 27 43 ?_
         refine done_ (done_of HT_.out (Z24)) ?_
         try go_wp2
         go_ret
         exact ⟨Z2, Z0⟩
        ·rw [if_neg c12] at H
         have c12b0 : decide (0 ≤ t146) = false := decide_eq_false c12
         clear c12
         have H' := Aside0.mk H
         clear H
         try go_wp2
         replace HB := Aside0.mk (below_drew1 HB.out)
         have p138 : 0 ≤ (x3_1 : Int) := of_decide_eq_true (Z4)
         have q138 : x3_1 < (l0.length : Int) := of_decide_eq_true (Z4)
         obtain ⟨ad138, A138_3, c138_3, A138_4, c138_4, e138, hx138_0, hx138_1, hx138_2, hx138_3, hx138_4, hl138_3, hi138_3, hl138_4, hi138_4⟩ := at_T59 HR0.out x3_1 p138 q138
         have hw138_4 := hx138_4
         have hw138_3 := hx138_3
         have hw138_2 := hx138_2
         have hw138_1 := hx138_1
         have hw138_0 := hx138_0
         cases e138
         replace hx138_0 := cB HB.out hx138_0
         replace hx138_1 := cB HB.out hx138_1
         replace hx138_2 := cB HB.out hx138_2
         replace hx138_3 := cB HB.out hx138_3
         replace hx138_4 := cB HB.out hx138_4
         have HR138_3 := Aside0.mk hi138_3
         have HC138_3 := Aside0.mk hl138_3
         clear hi138_3 hl138_3
         have HR138_4 := Aside0.mk hi138_4
         have HC138_4 := Aside0.mk hl138_4
         clear hi138_4 hl138_4
         replace p138 := eq_true p138
         replace q138 := eq_true q138
         have p140 : 0 ≤ (x3_1 : Int) := of_decide_eq_true (Z4)
         have q140 : x3_1 < (l0.length : Int) := of_decide_eq_true (Z4)
         obtain ⟨ad140, A140_3, c140_3, A140_4, c140_4, e140, hx140_0, hx140_1, hx140_2, hx140_3, hx140_4, hl140_3, hi140_3, hl140_4, hi140_4⟩ := at_T59 HR0.out x3_1 p140 q140
         have hw140_4 := hx140_4
         have hw140_3 := hx140_3
         have hw140_2 := hx140_2
         have hw140_1 := hx140_1
         have hw140_0 := hx140_0
         obtain rfl : ad138 = ad140 := (by injection e140)
         replace hx140_0 := cB HB.out hx140_0
         replace hx140_1 := cB HB.out hx140_1
         replace hx140_2 := cB HB.out hx140_2
         replace hx140_3 := cB HB.out hx140_3
         replace hx140_4 := cB HB.out hx140_4
         have HR140_3 := Aside0.mk hi140_3
         have HC140_3 := Aside0.mk hl140_3
         clear hi140_3 hl140_3
         have HR140_4 := Aside0.mk hi140_4
         have HC140_4 := Aside0.mk hl140_4
         clear hi140_4 hl140_4
         replace p140 := eq_true p140
         replace q140 := eq_true q140
         have p145 : 0 ≤ (x3_1 : Int) := of_decide_eq_true (Z4)
         have q145 : x3_1 < (l0.length : Int) := of_decide_eq_true (Z4)
         obtain ⟨ad145, A145_3, c145_3, A145_4, c145_4, e145, hx145_0, hx145_1, hx145_2, hx145_3, hx145_4, hl145_3, hi145_3, hl145_4, hi145_4⟩ := at_T59 HR0.out x3_1 p145 q145
         have hw145_4 := hx145_4
         have hw145_3 := hx145_3
         have hw145_2 := hx145_2
         have hw145_1 := hx145_1
         have hw145_0 := hx145_0
         obtain rfl : ad138 = ad145 := (by injection e145)
         replace hx145_0 := cB HB.out hx145_0
         replace hx145_1 := cB HB.out hx145_1
         replace hx145_2 := cB HB.out hx145_2
         replace hx145_3 := cB HB.out hx145_3
         replace hx145_4 := cB HB.out hx145_4
         have HR145_3 := Aside0.mk hi145_3
         have HC145_3 := Aside0.mk hl145_3
         clear hi145_3 hl145_3
         have HR145_4 := Aside0.mk hi145_4
         have HC145_4 := Aside0.mk hl145_4
         clear hi145_4 hl145_4
         replace p145 := eq_true p145
         replace q145 := eq_true q145
         have ea_ := Option.some.inj (hx140_3.symm.trans hx145_3)
         injection ea_ with ea_ en_ ec_
         subst ea_
         subst ec_
         clear en_
         have ea_ := Option.some.inj (hx140_4.symm.trans hx145_4)
         injection ea_ with ea_ en_ ec_
         subst ea_
         subst ec_
         clear en_
         refine start_ (n := 28) (S := fun w' => w'.cell? (ad138.add ((x3_1).toNat * 5)) = some (.string ((rd_T59 l0 x3_1).f0)) ∧ w'.cell? ⟨(ad138.add ((x3_1).toNat * 5)).block, (ad138.add ((x3_1).toNat * 5)).off + 1, none⟩ = some (.int .i64 ((rd_T59 l0 x3_1).f1)) ∧ w'.cell? ⟨(ad138.add ((x3_1).toNat * 5)).block, (ad138.add ((x3_1).toNat * 5)).off + 2, none⟩ = some (.int .i64 ((rd_T59 l0 x3_1).f2)) ∧ w'.cell? ⟨(ad138.add ((x3_1).toNat * 5)).block, (ad138.add ((x3_1).toNat * 5)).off + 3, none⟩ = some (.slice A138_3 ((rd_T59 l0 x3_1).f3).length c138_3) ∧ w'.cell? ⟨(ad138.add ((x3_1).toNat * 5)).block, (ad138.add ((x3_1).toNat * 5)).off + 4, none⟩ = some (.slice A138_4 ((rd_T59 l0 x3_1).f4).length c138_4) ∧ w'.cell? (ad138.add ((x3_1).toNat * 5)) = some (.string ((rd_T59 l0 x3_1).f0)) ∧ w'.cell? ⟨(ad138.add ((x3_1).toNat * 5)).block, (ad138.add ((x3_1).toNat * 5)).off + 1, none⟩ = some (.int .i64 ((rd_T59 l0 x3_1).f1)) ∧ w'.cell? ⟨(ad138.add ((x3_1).toNat * 5)).block, (ad138.add ((x3_1).toNat * 5)).off + 2, none⟩ = some (.int .i64 ((rd_T59 l0 x3_1).f2)) ∧ w'.cell? ⟨(ad138.add ((x3_1).toNat * 5)).block, (ad138.add ((x3_1).toNat * 5)).off + 3, none⟩ = some (.slice A140_3 ((rd_T59 l0 x3_1).f3).length c140_3) ∧ w'.cell? ⟨(ad138.add ((x3_1).toNat * 5)).block, (ad138.add ((x3_1).toNat * 5)).off + 4, none⟩ = some (.slice A140_4 ((rd_T59 l0 x3_1).f4).length c140_4) ∧ w'.cell? (ad138.add ((x3_1).toNat * 5)) = some (.string ((rd_T59 l0 x3_1).f0)) ∧ w'.cell? ⟨(ad138.add ((x3_1).toNat * 5)).block, (ad138.add ((x3_1).toNat * 5)).off + 1, none⟩ = some (.int .i64 ((rd_T59 l0 x3_1).f1)) ∧ w'.cell? ⟨(ad138.add ((x3_1).toNat * 5)).block, (ad138.add ((x3_1).toNat * 5)).off + 2, none⟩ = some (.int .i64 ((rd_T59 l0 x3_1).f2)) ∧ w'.cell? ⟨(ad138.add ((x3_1).toNat * 5)).block, (ad138.add ((x3_1).toNat * 5)).off + 3, none⟩ = some (.slice A140_3 ((rd_T59 l0 x3_1).f3).length c140_3) ∧ w'.cell? ⟨(ad138.add ((x3_1).toNat * 5)).block, (ad138.add ((x3_1).toNat * 5)).off + 4, none⟩ = some (.slice A140_4 ((rd_T59 l0 x3_1).f4).length c140_4)) (ds := []) #[false, false, false, false, false, false, false, false, false, false, false, false, false, false, false, false, false, false, false, false, false, false, false, false, false, false, false, false] (Z24) rfl rfl ⟨(cB HB.out hw138_0 :), ⟨(cB HB.out hw138_1 :), ⟨(cB HB.out hw138_2 :), ⟨(cB HB.out hw138_3 :), ⟨(cB HB.out hw138_4 :), ⟨(cB HB.out hw140_0 :), ⟨(cB HB.out hw140_1 :), ⟨(cB HB.out hw140_2 :), ⟨(cB HB.out hw140_3 :), ⟨(cB HB.out hw140_4 :), ⟨(cB HB.out hw145_0 :), ⟨(cB HB.out hw145_1 :), ⟨(cB HB.out hw145_2 :), ⟨(cB HB.out hw145_3 :), (cB HB.out hw145_4 :)⟩⟩⟩⟩⟩⟩⟩⟩⟩⟩⟩⟩⟩⟩ (fun hHeld => ?_); refine with_tabW spec_StoreOK.tab8 spec_StoreOK.bits8 (fun HT_ HW_ => ?_)
         generalize wr.drew = w16 at HB HR138_3 HR138_4 HR140_3 HR140_4 HR145_3 HR145_4 hx138_0 hx138_1 hx138_2 hx138_3 hx138_4 hx140_0 hx140_1 hx140_2 hx140_3 hx140_4 hx145_0 hx145_1 hx145_2 hx145_3 hx145_4 hHeld ⊢
         refine pA 0 16 ?_
         refine pA 1 17 ?_
         refine pA 2 18 ?_
         refine tA 3 19 ?_
         refine oA 4 20 (fun K hK => ?_)
         refine goes_ Try.func27 (Z24) rfl #[.agg #[.string ((rd_T59 l0 x3_1).f0), .int .i64 ((rd_T59 l0 x3_1).f1), .int .i64 ((rd_T59 l0 x3_1).f2), .slice A138_3 ((rd_T59 l0 x3_1).f3).length c138_3, .slice A138_4 ((rd_T59 l0 x3_1).f4).length c138_4]] (Z102) rfl rfl (Z1) ?_
         with_reducible refine (spec_BoxOK.calls k1 ((rd_T59 l0 x3_1).f0) ((rd_T59 l0 x3_1).f1) ((rd_T59 l0 x3_1).f2) _ _ ((rd_T59 l0 x3_1).f3) _ _ ((rd_T59 l0 x3_1).f4) true _ ?side1 ?side2 ?side3 ?side4 A6.out).mono ?_
         (case side1 => have h_ := Kd.C_below HR138_3.out HB.out; exact tC)
         (case side2 => exact HC138_3.out)
         (case side3 => have h_ := Kd.C_below HR138_4.out HB.out; exact tC)
         (case side4 => exact HC138_4.out)
         rintro e w17 ⟨rfl, hb⟩
         refine ⟨_, rfl, ?_⟩
         replace HB := Aside0.mk (below_step (Z0) hb)
         (try clear hb)
         have q18 : (x3_1 : Int) ≤ ((l0.length : Int) : Int) := of_decide_eq_true (Z4)
         obtain ⟨i018, hi018, _, hsz18, _⟩ := info_parts info59
         have hroom18 : l0.length ≤ c0 := HC0.out
         have hC18 : Kd.C k59 _ (some ad138) l0.length l0 := HR0.out
         have hcut18 := cut_to (P := Try.prog) 30 59 .i64 Try.underlying30 hi018 (some ad138) l0.length c0 x3_1 (of_decide_eq_true (Z4)) q18 hroom18
         have hr18 := Kd.C_take (m := (x3_1 : Int).toNat) hC18 (Z43)
         have hy18 : y141.length = (x3_1 : Int).toNat := (by rw [Ny141.out, List.length_take]; omega)
         rw [← Ny141.out] at hr18
         rw [← hy18] at hcut18
         have HR144 := Aside0.mk hr18
         have HC144 := Aside0.mk (show y141.length ≤ c0 from by omega)
         clear hr18 hC18 hroom18 hi018 hsz18
         have KY18 := Aside0.mk hy18
         clear hy18
         replace q18 := eq_true q18
         refine hK.out _ _ ⟨(cB HB.out hw138_0 :), ⟨(cB HB.out hw138_1 :), ⟨(cB HB.out hw138_2 :), ⟨(cB HB.out hw138_3 :), ⟨(cB HB.out hw138_4 :), ⟨(cB HB.out hw140_0 :), ⟨(cB HB.out hw140_1 :), ⟨(cB HB.out hw140_2 :), ⟨(cB HB.out hw140_3 :), ⟨(cB HB.out hw140_4 :), ⟨(cB HB.out hw145_0 :), ⟨(cB HB.out hw145_1 :), ⟨(cB HB.out hw145_2 :), ⟨(cB HB.out hw145_3 :), (cB HB.out hw145_4 :)⟩⟩⟩⟩⟩⟩⟩⟩⟩⟩⟩⟩⟩⟩ (fun hHeld => ?_)
         clear hK K
         refine nB 20 ?_
         refine pA 5 21 ?_
         refine pA 6 22 ?_
         refine pA 7 23 ?_
         refine pA 8 24 ?_
         refine pA 9 25 ?_
         refine pA 10 26 ?_
         refine pA 12 28 ?_
         refine pA 13 29 ?_
         refine tA 11 27 ?_
         refine pA 14 30 ?_
         refine pA 15 31 ?_
         refine pA 16 32 ?_
         refine pA 17 33 ?_
         refine pA 18 34 ?_
         refine pA 19 35 ?_
         refine pA 20 36 ?_
         refine pA 21 37 ?_
         refine pA 22 38 ?_
         refine pA 23 39 ?_
         refine tA 24 40 ?_
         refine oA 25 41 (fun K hK => ?_)
         refine goes_ Try.func28 (Z24) rfl #[.slice (some ad138) y141.length c0, .string ((rd_T59 l0 x3_1).f0)] (Z102) rfl rfl (Z1) ?_
         with_reducible refine (spec_l09Find.calls k1 _ _ y141 ((rd_T59 l0 x3_1).f0) t146 _ ?side1 ?side2 A11.out).mono ?_
         (case side1 => have h_ := Kd.C_below HR144.out HB.out; exact tC)
         (case side2 => exact HC144.out)
         rintro e w' ⟨rfl, ⟨nd, rfl⟩⟩
         refine ⟨_, rfl, ?_⟩
         refine hK.out _ _ ⟨(cB HB.out hw138_0 :), ⟨(cB HB.out hw138_1 :), ⟨(cB HB.out hw138_2 :), ⟨(cB HB.out hw138_3 :), ⟨(cB HB.out hw138_4 :), ⟨(cB HB.out hw140_0 :), ⟨(cB HB.out hw140_1 :), ⟨(cB HB.out hw140_2 :), ⟨(cB HB.out hw140_3 :), ⟨(cB HB.out hw140_4 :), ⟨(cB HB.out hw145_0 :), ⟨(cB HB.out hw145_1 :), ⟨(cB HB.out hw145_2 :), ⟨(cB HB.out hw145_3 :), (cB HB.out hw145_4 :)⟩⟩⟩⟩⟩⟩⟩⟩⟩⟩⟩⟩⟩⟩ (fun hHeld => ?_)
         clear hK K
         refine nB 41 ?_
         refine pA 26 42 ?_
         refine pA 27 43 ?_
         refine done_ (done_of HT_.out (Z24)) ?_
         try go_wp2
         go_roundg k1
         case measure => have := HK1.out; omega
         case rel => exact ⟨(wrap64 (x3_1 + 1)), (Z3), H', ⟨Z110⟩, ⟨Z0⟩⟩
       ·rw [if_neg c8] at H
        have c8b0 := beq_eq_false_iff_ne.mpr c8
        have c8b1 := bne_iff_ne.mpr c8
        obtain rfl := Option.some.inj H
        try go_wp2
        replace HB := Aside0.mk (below_drew1 HB.out)
        have p138 : 0 ≤ (x3_1 : Int) := of_decide_eq_true (Z4)
        have q138 : x3_1 < (l0.length : Int) := of_decide_eq_true (Z4)
        obtain ⟨ad138, A138_3, c138_3, A138_4, c138_4, e138, hx138_0, hx138_1, hx138_2, hx138_3, hx138_4, hl138_3, hi138_3, hl138_4, hi138_4⟩ := at_T59 HR0.out x3_1 p138 q138
        have hw138_4 := hx138_4
        have hw138_3 := hx138_3
        have hw138_2 := hx138_2
        have hw138_1 := hx138_1
        have hw138_0 := hx138_0
        cases e138
        replace hx138_0 := cB HB.out hx138_0
        replace hx138_1 := cB HB.out hx138_1
        replace hx138_2 := cB HB.out hx138_2
        replace hx138_3 := cB HB.out hx138_3
        replace hx138_4 := cB HB.out hx138_4
        have HR138_3 := Aside0.mk hi138_3
        have HC138_3 := Aside0.mk hl138_3
        clear hi138_3 hl138_3
        have HR138_4 := Aside0.mk hi138_4
        have HC138_4 := Aside0.mk hl138_4
        clear hi138_4 hl138_4
        replace p138 := eq_true p138
        replace q138 := eq_true q138
        have p140 : 0 ≤ (x3_1 : Int) := of_decide_eq_true (Z4)
        have q140 : x3_1 < (l0.length : Int) := of_decide_eq_true (Z4)
        obtain ⟨ad140, A140_3, c140_3, A140_4, c140_4, e140, hx140_0, hx140_1, hx140_2, hx140_3, hx140_4, hl140_3, hi140_3, hl140_4, hi140_4⟩ := at_T59 HR0.out x3_1 p140 q140
        have hw140_4 := hx140_4
        have hw140_3 := hx140_3
        have hw140_2 := hx140_2
        have hw140_1 := hx140_1
        have hw140_0 := hx140_0
        obtain rfl : ad138 = ad140 := (by injection e140)
        replace hx140_0 := cB HB.out hx140_0
        replace hx140_1 := cB HB.out hx140_1
        replace hx140_2 := cB HB.out hx140_2
        replace hx140_3 := cB HB.out hx140_3
        replace hx140_4 := cB HB.out hx140_4
        have HR140_3 := Aside0.mk hi140_3
        have HC140_3 := Aside0.mk hl140_3
        clear hi140_3 hl140_3
        have HR140_4 := Aside0.mk hi140_4
        have HC140_4 := Aside0.mk hl140_4
        clear hi140_4 hl140_4
        replace p140 := eq_true p140
        replace q140 := eq_true q140
        refine start_ (n := 28) (S := fun w' => w'.cell? (ad138.add ((x3_1).toNat * 5)) = some (.string ((rd_T59 l0 x3_1).f0)) ∧ w'.cell? ⟨(ad138.add ((x3_1).toNat * 5)).block, (ad138.add ((x3_1).toNat * 5)).off + 1, none⟩ = some (.int .i64 ((rd_T59 l0 x3_1).f1)) ∧ w'.cell? ⟨(ad138.add ((x3_1).toNat * 5)).block, (ad138.add ((x3_1).toNat * 5)).off + 2, none⟩ = some (.int .i64 ((rd_T59 l0 x3_1).f2)) ∧ w'.cell? ⟨(ad138.add ((x3_1).toNat * 5)).block, (ad138.add ((x3_1).toNat * 5)).off + 3, none⟩ = some (.slice A138_3 ((rd_T59 l0 x3_1).f3).length c138_3) ∧ w'.cell? ⟨(ad138.add ((x3_1).toNat * 5)).block, (ad138.add ((x3_1).toNat * 5)).off + 4, none⟩ = some (.slice A138_4 ((rd_T59 l0 x3_1).f4).length c138_4) ∧ w'.cell? (ad138.add ((x3_1).toNat * 5)) = some (.string ((rd_T59 l0 x3_1).f0)) ∧ w'.cell? ⟨(ad138.add ((x3_1).toNat * 5)).block, (ad138.add ((x3_1).toNat * 5)).off + 1, none⟩ = some (.int .i64 ((rd_T59 l0 x3_1).f1)) ∧ w'.cell? ⟨(ad138.add ((x3_1).toNat * 5)).block, (ad138.add ((x3_1).toNat * 5)).off + 2, none⟩ = some (.int .i64 ((rd_T59 l0 x3_1).f2)) ∧ w'.cell? ⟨(ad138.add ((x3_1).toNat * 5)).block, (ad138.add ((x3_1).toNat * 5)).off + 3, none⟩ = some (.slice A140_3 ((rd_T59 l0 x3_1).f3).length c140_3) ∧ w'.cell? ⟨(ad138.add ((x3_1).toNat * 5)).block, (ad138.add ((x3_1).toNat * 5)).off + 4, none⟩ = some (.slice A140_4 ((rd_T59 l0 x3_1).f4).length c140_4)) (ds := []) #[false, false, false, false, false, false, false, false, false, false, false, false, false, false, false, false, false, false, false, false, false, false, false, false, false, false, false, false] (Z24) rfl rfl ⟨(cB HB.out hw138_0 :), ⟨(cB HB.out hw138_1 :), ⟨(cB HB.out hw138_2 :), ⟨(cB HB.out hw138_3 :), ⟨(cB HB.out hw138_4 :), ⟨(cB HB.out hw140_0 :), ⟨(cB HB.out hw140_1 :), ⟨(cB HB.out hw140_2 :), ⟨(cB HB.out hw140_3 :), (cB HB.out hw140_4 :)⟩⟩⟩⟩⟩⟩⟩⟩⟩ (fun hHeld => ?_); refine with_tabW spec_StoreOK.tab8 spec_StoreOK.bits8 (fun HT_ HW_ => ?_)
        generalize wr.drew = w19 at HB HR138_3 HR138_4 HR140_3 HR140_4 hx138_0 hx138_1 hx138_2 hx138_3 hx138_4 hx140_0 hx140_1 hx140_2 hx140_3 hx140_4 hHeld ⊢
        refine pA 0 16 ?_
        refine pA 1 17 ?_
        refine pA 2 18 ?_
        refine tA 3 19 ?_
        refine oA 4 20 (fun K hK => ?_)
        refine goes_ Try.func27 (Z24) rfl #[.agg #[.string ((rd_T59 l0 x3_1).f0), .int .i64 ((rd_T59 l0 x3_1).f1), .int .i64 ((rd_T59 l0 x3_1).f2), .slice A138_3 ((rd_T59 l0 x3_1).f3).length c138_3, .slice A138_4 ((rd_T59 l0 x3_1).f4).length c138_4]] (Z102) rfl rfl (Z1) ?_
        with_reducible refine (spec_BoxOK.calls k1 ((rd_T59 l0 x3_1).f0) ((rd_T59 l0 x3_1).f1) ((rd_T59 l0 x3_1).f2) _ _ ((rd_T59 l0 x3_1).f3) _ _ ((rd_T59 l0 x3_1).f4) true _ ?side1 ?side2 ?side3 ?side4 A6.out).mono ?_
        (case side1 => have h_ := Kd.C_below HR138_3.out HB.out; exact tC)
        (case side2 => exact HC138_3.out)
        (case side3 => have h_ := Kd.C_below HR138_4.out HB.out; exact tC)
        (case side4 => exact HC138_4.out)
        rintro e w20 ⟨rfl, hb⟩
        refine ⟨_, rfl, ?_⟩
        replace HB := Aside0.mk (below_step (Z0) hb)
        (try clear hb)
        refine hK.out _ _ ⟨(cB HB.out hw138_0 :), ⟨(cB HB.out hw138_1 :), ⟨(cB HB.out hw138_2 :), ⟨(cB HB.out hw138_3 :), ⟨(cB HB.out hw138_4 :), ⟨(cB HB.out hw140_0 :), ⟨(cB HB.out hw140_1 :), ⟨(cB HB.out hw140_2 :), ⟨(cB HB.out hw140_3 :), (cB HB.out hw140_4 :)⟩⟩⟩⟩⟩⟩⟩⟩⟩ (fun hHeld => ?_)
        clear hK K
        refine nB 20 ?_
        refine pA 5 21 ?_
        refine pA 6 22 ?_
        refine pA 7 23 ?_
        refine pA 8 24 ?_
        refine pA 9 25 ?_
        refine pA 10 26 ?_
        refine pA 12 28 ?_
        refine pA 13 29 ?_
        refine tA 11 27 ?_
        refine pA 14 30 ?_
        refine pA 15 31 ?_
        refine pA 16 32 ?_
        refine pU 17 33 ?_
        refine pU 18 34 ?_
        refine pU 19 35 ?_
        refine pU 20 36 ?_
        refine pU 21 37 ?_
        refine pU 22 38 ?_
        refine pU 23 39 ?_
        refine pU 24 40 ?_
        refine pU 25 41 ?_
        refine pU 26 42 ?_
        refine pA 27 43 ?_
        refine done_ (done_of HT_.out (Z24)) ?_
        try go_wp2
        go_ret
        exact ⟨Z2, Z0⟩
      ·replace c7 := Bool.eq_false_iff.mpr c7
       subst c7
       replace H := ifF H
       obtain rfl := Option.some.inj H
       try go_wp2
       replace HB := Aside0.mk (below_drew1 HB.out)
       have p138 : 0 ≤ (x3_1 : Int) := of_decide_eq_true (Z4)
       have q138 : x3_1 < (l0.length : Int) := of_decide_eq_true (Z4)
       obtain ⟨ad138, A138_3, c138_3, A138_4, c138_4, e138, hx138_0, hx138_1, hx138_2, hx138_3, hx138_4, hl138_3, hi138_3, hl138_4, hi138_4⟩ := at_T59 HR0.out x3_1 p138 q138
       have hw138_4 := hx138_4
       have hw138_3 := hx138_3
       have hw138_2 := hx138_2
       have hw138_1 := hx138_1
       have hw138_0 := hx138_0
       cases e138
       replace hx138_0 := cB HB.out hx138_0
       replace hx138_1 := cB HB.out hx138_1
       replace hx138_2 := cB HB.out hx138_2
       replace hx138_3 := cB HB.out hx138_3
       replace hx138_4 := cB HB.out hx138_4
       have HR138_3 := Aside0.mk hi138_3
       have HC138_3 := Aside0.mk hl138_3
       clear hi138_3 hl138_3
       have HR138_4 := Aside0.mk hi138_4
       have HC138_4 := Aside0.mk hl138_4
       clear hi138_4 hl138_4
       replace p138 := eq_true p138
       replace q138 := eq_true q138
       refine start_ (n := 28) (S := fun w' => w'.cell? (ad138.add ((x3_1).toNat * 5)) = some (.string ((rd_T59 l0 x3_1).f0)) ∧ w'.cell? ⟨(ad138.add ((x3_1).toNat * 5)).block, (ad138.add ((x3_1).toNat * 5)).off + 1, none⟩ = some (.int .i64 ((rd_T59 l0 x3_1).f1)) ∧ w'.cell? ⟨(ad138.add ((x3_1).toNat * 5)).block, (ad138.add ((x3_1).toNat * 5)).off + 2, none⟩ = some (.int .i64 ((rd_T59 l0 x3_1).f2)) ∧ w'.cell? ⟨(ad138.add ((x3_1).toNat * 5)).block, (ad138.add ((x3_1).toNat * 5)).off + 3, none⟩ = some (.slice A138_3 ((rd_T59 l0 x3_1).f3).length c138_3) ∧ w'.cell? ⟨(ad138.add ((x3_1).toNat * 5)).block, (ad138.add ((x3_1).toNat * 5)).off + 4, none⟩ = some (.slice A138_4 ((rd_T59 l0 x3_1).f4).length c138_4)) (ds := []) #[false, false, false, false, false, false, false, false, false, false, false, false, false, false, false, false, false, false, false, false, false, false, false, false, false, false, false, false] (Z24) rfl rfl ⟨(cB HB.out hw138_0 :), ⟨(cB HB.out hw138_1 :), ⟨(cB HB.out hw138_2 :), ⟨(cB HB.out hw138_3 :), (cB HB.out hw138_4 :)⟩⟩⟩⟩ (fun hHeld => ?_); refine with_tabW spec_StoreOK.tab8 spec_StoreOK.bits8 (fun HT_ HW_ => ?_)
       generalize wr.drew = w21 at HB HR138_3 HR138_4 hx138_0 hx138_1 hx138_2 hx138_3 hx138_4 hHeld ⊢
       refine pA 0 16 ?_
       refine pA 1 17 ?_
       refine pA 2 18 ?_
       refine tA 3 19 ?_
       refine oA 4 20 (fun K hK => ?_)
       refine goes_ Try.func27 (Z24) rfl #[.agg #[.string ((rd_T59 l0 x3_1).f0), .int .i64 ((rd_T59 l0 x3_1).f1), .int .i64 ((rd_T59 l0 x3_1).f2), .slice A138_3 ((rd_T59 l0 x3_1).f3).length c138_3, .slice A138_4 ((rd_T59 l0 x3_1).f4).length c138_4]] (Z102) rfl rfl (Z1) ?_
       with_reducible refine (spec_BoxOK.calls k1 ((rd_T59 l0 x3_1).f0) ((rd_T59 l0 x3_1).f1) ((rd_T59 l0 x3_1).f2) _ _ ((rd_T59 l0 x3_1).f3) _ _ ((rd_T59 l0 x3_1).f4) false _ ?side1 ?side2 ?side3 ?side4 A6.out).mono ?_
       (case side1 => have h_ := Kd.C_below HR138_3.out HB.out; exact tC)
       (case side2 => exact HC138_3.out)
       (case side3 => have h_ := Kd.C_below HR138_4.out HB.out; exact tC)
       (case side4 => exact HC138_4.out)
       rintro e w22 ⟨rfl, hb⟩
       refine ⟨_, rfl, ?_⟩
       replace HB := Aside0.mk (below_step (Z0) hb)
       (try clear hb)
       refine hK.out _ _ ⟨(cB HB.out hw138_0 :), ⟨(cB HB.out hw138_1 :), ⟨(cB HB.out hw138_2 :), ⟨(cB HB.out hw138_3 :), (cB HB.out hw138_4 :)⟩⟩⟩⟩ (fun hHeld => ?_)
       clear hK K
       refine nB 20 ?_
       refine pA 5 21 ?_
       refine pA 6 22 ?_
       refine pU 7 23 ?_
       refine pU 8 24 ?_
       refine pU 9 25 ?_
       refine pU 10 26 ?_
       refine pU 11 27 ?_
       refine pU 12 28 ?_
       refine pU 13 29 ?_
       refine pU 14 30 ?_
       refine pA 15 31 ?_
       refine pA 16 32 ?_
       refine pU 17 33 ?_
       refine pU 18 34 ?_
       refine pU 19 35 ?_
       refine pU 20 36 ?_
       refine pU 21 37 ?_
       refine pU 22 38 ?_
       refine pU 23 39 ?_
       refine pU 24 40 ?_
       refine pU 25 41 ?_
       refine pU 26 42 ?_
       refine pA 27 43 ?_
       refine done_ (done_of HT_.out (Z24)) ?_
       try go_wp2
       go_ret
       exact ⟨Z2, Z0⟩
     ·rw [if_neg c4] at H
      have c4b0 := decide_eq_false c4
      clear c4
      obtain rfl := Option.some.inj H
      go_wp2
      go_ret
      exact ⟨Z2, Z0⟩

end Go.Proofs.Ytbikfhccfenkdaa.PFnExactEngineOK
