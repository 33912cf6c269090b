import Derived.Test.YtcmnndnigjkldaaGreatDoorPFnExactFetchTextxA
import Derived.Test.YtcmnndnigjkldaaGreatDoorPFnExactFetchTextx7
import Derived.Test.YtcmnndnigjkldaaGreatDoorPFnExactFetchTextx8
import Derived.Test.YtcmnndnigjkldaaGreatDoorPFnExactFetchTextx11
namespace Go.Proofs.YtcmnndnigjkldaaGreatDoor.PFnExactFetchText
open Go.RowKit Go.Proofs.YtcmnndnigjkldaaGreatDoorW.PrintWords Go.Proofs.YtcmnndnigjkldaaGreatDoorW.PrintLast Go.Proofs.YtcmnndnigjkldaaGreatDoorW.PrintMore Go.Proofs.YtcmnndnigjkldaaGreatDoor.Mac
attribute [local go_sem] max2_int min2_int max_two min_two max_three min_three max_four min_four
set_option linter.unusedVariables false
set_option linter.unusedSimpArgs false

/-! ### impl_FetchText: function 9 -/
def impl_FetchText.j0 : Nat → Int → List ByteArray → Bool → Bool → Int → Int → ByteArray → Option (ByteArray × Bool × Int)
 | 0, _, _, _, _, _, _, _ => none
 | k + 1, x1, x2, x3, x19, x310000, x310001, x310002 => if x19 = true then (some ((⟨#[]⟩ : ByteArray), false, 1)) else ((impl_within.f x1 1 4294967295).bind fun t312 => (if t312 = true then ((impl_itemsOf.f k x2).bind fun bt313 => (if bt313.2 = true then ((impl_fetchText.f k x310000 x310001 x310002 x1 bt313.1 x3).bind fun bt317 => (if bt317.2 = true then ((impl_sees.f bt313.1).bind fun t319 => (if t319 = true then (some (bt317.1, ((Go.bits .and .i64 x310001 1) == 0), 0)) else (some (bt317.1, false, 0)))) else (some ((⟨#[]⟩ : ByteArray), false, 3)))) else (some ((⟨#[]⟩ : ByteArray), false, 3)))) else (some ((⟨#[]⟩ : ByteArray), false, 4))))
def impl_FetchText.f (k : Nat) (a0_0 : Int) (a0_1 : Int) (a0_2 : ByteArray) (a1 : Int) (l2 : List ByteArray) (a3 : Bool) : Option (ByteArray × Bool × Int) := if (l2.length : Int) > 4096 then (some ((⟨#[]⟩ : ByteArray), false, 2)) else (if (l2.length : Int) > 30 then (impl_FetchText.j0 k a1 l2 a3 true a0_0 a0_1 a0_2) else ((impl_within.f a0_0 1 1000).bind fun t310 => (if t310 = true then ((impl_within.f a0_1 0 31).bind fun t311 => (if t311 = true then (impl_FetchText.j0 k a1 l2 a3 (decide ((a0_2.size : Int) > 4000)) a0_0 a0_1 a0_2) else (impl_FetchText.j0 k a1 l2 a3 true a0_0 a0_1 a0_2))) else (impl_FetchText.j0 k a1 l2 a3 true a0_0 a0_1 a0_2))))
theorem impl_FetchText.mono_l : ∀ k, (∀ y0 y1 y2 y3 y4 y5 y6, LeO (impl_FetchText.j0 k y0 y1 y2 y3 y4 y5 y6) (impl_FetchText.j0 (k + 1) y0 y1 y2 y3 y4 y5 y6))
 | 0 => fun _ _ _ _ _ _ _ r h => by simp [impl_FetchText.j0] at h
 | k + 1 => by
  have ih0 := impl_FetchText.mono_l k
  ·intro y0 y1 y2 y3 y4 y5 y6
   unfold impl_FetchText.j0
   have m0 := @impl_fetchText.mono
   have m1 := @impl_itemsOf.mono
   exact tM
theorem impl_FetchText.mono : ∀ a0 a1 a2 a3 a4 a5 k, LeO (impl_FetchText.f k a0 a1 a2 a3 a4 a5) (impl_FetchText.f (k + 1) a0 a1 a2 a3 a4 a5) := by
 intro a0 a1 a2 a3 a4 a5 k
 have ih0 := impl_FetchText.mono_l k
 unfold impl_FetchText.f
 have m0 := @impl_fetchText.mono
 have m1 := @impl_itemsOf.mono
 exact tM
def impl_FetchText.T13 : Bool × List (List Nat × List Nat) := (true, [([], []), ([], []), ([1], [1]), ([2, 2], [2]), ([3], [3]), ([4, 3], [3, 4]), ([5, 3], [3, 5]), ([6, 3], [3, 6]), ([3, 7], [3, 7]), ([0, 3, 0], [0]), ([8, 9, 0, 1, 2, 3, 4, 5, 6, 7, 8, 9], [8]), ([10, 0, 1, 2, 3, 4, 5, 6, 7, 8, 9, 10], [])])
def impl_FetchText.B13 : List Nat := [0, 0, 2, 6, 14, 30, 62, 126, 254, 15, 1023, 2047]
theorem impl_FetchText.tab13 : rtab .any (opsOf Tryz.f9 13) = impl_FetchText.T13 := by kernel_rfl
theorem impl_FetchText.bits13 : waitsOk impl_FetchText.T13.2 impl_FetchText.B13 = true := by kernel_rfl
set_option maxHeartbeats 40000000 in
set_option maxRecDepth 100000 in
theorem impl_FetchText.calls (k : Nat) (a0_0 : Int) (a0_1 : Int) (a0_2 : ByteArray) (a1 : Int) (A2 : Option Addr) (c2 : Nat) (l2 : List ByteArray) (a3 : Bool) (r1 : ByteArray) (r2 : Bool) (r3 : Int) (w : World) (hr2 : Kd.C Kd.string w A2 l2.length l2) (hc2 : l2.length ≤ c2) (HG : Aside0 (Glob w)) (h : impl_FetchText.f k a0_0 a0_1 a0_2 a1 l2 a3 = some (r1, r2, r3)) :
  Calls Tryz.prog 9 #[.agg #[.int .i64 a0_0, .int .i64 a0_1, .string a0_2], .int .i64 a1, .slice A2 l2.length c2, .bool a3] w fun e w' => e = .returned (.tuple #[.string r1, .bool r2, .int .i64 r3]) ∧ Below w.heap.size w w' := by
 have hu29 := Tryz.underlying29
 have HR2 := Aside0.mk hr2
 have HC2 := Aside0.mk hc2
 clear hr2 hc2
 have HB := Aside0.mk (Below.refl w.heap.size w)
 have H : (if (l2.length : Int) > 4096 then (some ((⟨#[]⟩ : ByteArray), false, 2)) else (if (l2.length : Int) > 30 then (impl_FetchText.j0 k a1 l2 a3 true a0_0 a0_1 a0_2) else ((impl_within.f a0_0 1 1000).bind fun t310 => (if t310 = true then ((impl_within.f a0_1 0 31).bind fun t311 => (if t311 = true then (impl_FetchText.j0 k a1 l2 a3 (decide ((a0_2.size : Int) > 4000)) a0_0 a0_1 a0_2) else (impl_FetchText.j0 k a1 l2 a3 true a0_0 a0_1 a0_2))) else (impl_FetchText.j0 k a1 l2 a3 true a0_0 a0_1 a0_2))))) = some (r1, r2, r3) := h
 clear h
 by_cases c5 : (l2.length : Int) > 4096
 ·rw [if_pos c5] at H
  have c5b0 : decide (4096 < (l2.length : Int)) = true := decide_eq_true c5
  have c5b1 : decide (4096 < l2.length) = true := decide_eq_true (Z46)
  clear c5
  simp only [Option.some.injEq, Prod.mk.injEq] at H
  obtain ⟨rfl, rfl, rfl⟩ := H
  go_enter Tryz.func9, Tryz.ntmps9
  go_wp2_with (first | ((with_reducible refine gate_dst (N := 4) rfl ?_); (try (refine gate_guard (by rfl) ?_; dsimp only)); refine bxE 4 #[.int .i64 a0_0, .int .i64 a0_1, .string a0_2] 29 ?_; intro gb309 hg w6 hbox hb; have BK309 := Aside0.mk (hbox); have GW309 := Aside0.mk ((szE w hg (Z0))); have GE309 := Aside0.mk ((szE w hg (Z0))); replace HB := Aside0.mk (below_step (Z0) hb); clear hb hbox hg))
  go_ret3
  exact ⟨Z3, Z9⟩
 ·rw [if_neg c5] at H
  have c5b0 : decide (4096 < (l2.length : Int)) = false := decide_eq_false c5
  have c5b1 : decide (4096 < l2.length) = false := decide_eq_false (Z46)
  clear c5
  have HC7 := Aside0.mk H
  clear H
  go_enter Tryz.func9, Tryz.ntmps9
  go_upto_region 3 with (first | ((with_reducible refine gate_dst (N := 4) rfl ?_); (try (refine gate_guard (by rfl) ?_; dsimp only)); refine bxE 4 #[.int .i64 a0_0, .int .i64 a0_1, .string a0_2] 29 ?_; intro gb309 hg w8 hbox hb; have BK309 := Aside0.mk (hbox); have GW309 := Aside0.mk ((szE w hg (Z0))); have GE309 := Aside0.mk ((szE w hg (Z0))); replace HB := Aside0.mk (below_step (Z0) hb); clear hb hbox hg))
  (try simp only [Act.put, List.setIfInBounds_toArray, List.set_cons_zero, List.set_cons_succ])
  go_cut [19] (fun v19 wc => ∃ (kq : Nat) (x19_6 : Bool), v19 = .bool x19_6 ∧ Aside0 (impl_FetchText.j0 kq a1 l2 a3 x19_6 a0_0 a0_1 a0_2 = some (r1, r2, r3)) ∧ Aside0 (kq ≤ k) ∧ Aside0 (wc.heap[gb309]? = some (.cells #[.int .i64 a0_0, .int .i64 a0_1, .string a0_2] 29 (0, 0))) ∧ Aside0 (Below w.heap.size w wc))
  case first =>
   have H := HC7.out
   clear HC7
   by_cases c9 : (l2.length : Int) > 30
   ·rw [if_pos c9] at H
    have c9b0 : decide (30 < (l2.length : Int)) = true := decide_eq_true c9
    have c9b1 : decide (30 < l2.length) = true := decide_eq_true (Z46)
    clear c9
    (first | rw [c9b0] | rw [c9b1] | (simp only [i64_w, i32_w]; rw [c9b0]) | skip)
    have H' := Aside0.mk H
    clear H
    go_wp2
    go_meet
    case rel => exact ⟨_, (true), (Z2), H', ⟨Z40⟩, ⟨Z28⟩, ⟨Z9⟩⟩
   ·rw [if_neg c9] at H
    have c9b0 : decide (30 < (l2.length : Int)) = false := decide_eq_false c9
    have c9b1 : decide (30 < l2.length) = false := decide_eq_false (Z46)
    clear c9
    (first | rw [c9b0] | rw [c9b1] | (simp only [i64_w, i32_w]; rw [c9b0]) | skip)
    obtain ⟨t310, A10, H⟩ := bindA H
    try dsimp only at H
    by_cases c11 : t310 = true
    ·subst c11
     replace H := ifT H
     obtain ⟨t311, A12, H⟩ := bindA H
     try dsimp only at H
     by_cases c13 : t311 = true
     ·subst c13
      replace H := ifT H
      have H' := Aside0.mk H
      clear H
      obtain ⟨hcz14_0, hcz14_1, hcz14_2⟩ := bc3 BK309.out
      obtain ⟨hfz14_0, hfz14_1, hfz14_2⟩ := bf3 BK309.out
      go_wp2_with (first | (go_at_call 13; (with_reducible refine (impl_within.calls a0_0 1 1000 true _ A10.out).mono ?_); rintro e w' ⟨rfl, ⟨nd, rfl⟩⟩) | (go_at_call 13; (with_reducible refine (impl_within.calls a0_1 0 31 true _ A12.out).mono ?_); rintro e w' ⟨rfl, ⟨nd, rfl⟩⟩))
      go_meet
      case rel => exact ⟨_, (decide ((a0_2.size : Int) > 4000)), (Z2), H', ⟨Z40⟩, ⟨Z28⟩, ⟨Z9⟩⟩
     ·replace c13 := Bool.eq_false_iff.mpr c13
      subst c13
      replace H := ifF H
      have H' := Aside0.mk H
      clear H
      obtain ⟨hcz15_0, hcz15_1, hcz15_2⟩ := bc3 BK309.out
      obtain ⟨hfz15_0, hfz15_1, hfz15_2⟩ := bf3 BK309.out
      go_wp2_with (first | (go_at_call 13; (with_reducible refine (impl_within.calls a0_0 1 1000 true _ A10.out).mono ?_); rintro e w' ⟨rfl, ⟨nd, rfl⟩⟩) | (go_at_call 13; (with_reducible refine (impl_within.calls a0_1 0 31 false _ A12.out).mono ?_); rintro e w' ⟨rfl, ⟨nd, rfl⟩⟩))
      go_meet
      case rel => exact ⟨_, (true), (Z2), H', ⟨Z40⟩, ⟨Z28⟩, ⟨Z9⟩⟩
    ·replace c11 := Bool.eq_false_iff.mpr c11
     subst c11
     replace H := ifF H
     have H' := Aside0.mk H
     clear H
     obtain ⟨hcz16_0, hcz16_1, hcz16_2⟩ := bc3 BK309.out
     obtain ⟨hfz16_0, hfz16_1, hfz16_2⟩ := bf3 BK309.out
     go_wp2_with (first | (go_at_call 13; (with_reducible refine (impl_within.calls a0_0 1 1000 false _ A10.out).mono ?_); rintro e w' ⟨rfl, ⟨nd, rfl⟩⟩))
     go_meet
     case rel => exact ⟨_, (true), (Z2), H', ⟨Z40⟩, ⟨Z28⟩, ⟨Z9⟩⟩
  case rest =>
   clear HC7
   (try clear c2); (try clear c5); (try clear c5b0); (try clear c5b1)
   obtain ⟨kq, x19_6, rfl, HA, HJ6, BK309, HB⟩ := hcut
   cases kq with
   | zero => exact absurd HA.out (by simp [impl_FetchText.j0])
   | succ kj6 =>
    have H := HA.out
    clear HA
    simp only [impl_FetchText.j0] at H
    by_cases c17 : x19_6 = true
    ·subst c17
     replace H := ifT H
     simp only [Option.some.injEq, Prod.mk.injEq] at H
     obtain ⟨rfl, rfl, rfl⟩ := H
     go_wp2
     go_ret3
     exact ⟨Z3, Z9⟩
    ·replace c17 := Bool.eq_false_iff.mpr c17
     subst c17
     replace H := ifF H
     obtain ⟨t312, A18, H⟩ := bindA H
     try dsimp only at H
     by_cases c19 : t312 = true
     ·subst c19
      replace H := ifT H
      obtain ⟨⟨t313, t314⟩, A20, H⟩ := bindA H
      try dsimp only at H
      by_cases c21 : t314 = true
      ·subst c21
       replace H := ifT H
       obtain ⟨⟨t317, t318⟩, A22, H⟩ := bindA H
       try dsimp only at H
       by_cases c23 : t318 = true
       ·subst c23
        replace H := ifT H
        obtain ⟨t319, A24, H⟩ := bindA H
        try dsimp only at H
        by_cases c25 : t319 = true
        ·subst c25
         replace H := ifT H
         simp only [Option.some.injEq, Prod.mk.injEq] at H
         obtain ⟨rfl, rfl, rfl⟩ := H
         try go_wp2_with (first | ((with_reducible refine gate_callee (f := 13) rfl ?_); refine goesL_ (some 43) rfl rfl Tryz.func13 (Z20) rfl #[.int .i64 a1, .int .i64 1, .int .i64 4294967295] rfl (Z1) ?_; (with_reducible refine (impl_within.calls a1 1 4294967295 true _ A18.out).mono ?_); rintro e w' ⟨rfl, ⟨nd, rfl⟩⟩; refine ⟨_, rfl, ?_⟩) | ((with_reducible refine gate_callee (f := 14) rfl ?_); refine goesL_ (some 47) rfl rfl Tryz.func14 (Z20) rfl #[.slice A2 l2.length c2] rfl (Z1) ?_; (with_reducible refine (impl_itemsOf.calls kj6 _ _ l2 t313 true _ ?side1 ?side2 ?side3 A20.out).mono ?_); (case side1 => repeat (first | exact (Kd.C_below HR2.out (Z9)) | (with_reducible refine Kd.C_alloc ?_ _) | (with_reducible refine Kd.C_drewN ?_ _) | (with_reducible refine Kd.C_drew ?_))); (case side2 => exact HC2.out); (case side3 => first | exact HG | exact ⟨HG.out.of rfl⟩ | (refine ⟨HG.out.on ?_⟩; (repeat (first | (with_reducible first | exact HB.out | apply below_alloc | apply pw_below_drewN | apply below_drew1 | refine below_set ?_ GE309.out) | exact HB.out)); done) | exact ⟨HG.out.on HBW.out⟩); rintro e w26 ⟨v315, rfl, ho0, hb⟩; refine ⟨_, rfl, ?_⟩; have HO316 := Aside0.mk (Kd.R_lower ho0 (below_size (Z9))); replace BK309 := Aside0.mk (kB BK309 (Z28) hb); replace HB := Aside0.mk (below_step (Z9) hb); (try clear hb); (try clear ho0); obtain ⟨hcz27_0, hcz27_1, hcz27_2⟩ := bc3 BK309.out; obtain ⟨hfz27_0, hfz27_1, hfz27_2⟩ := bf3 BK309.out; obtain ⟨Ao28, co28, eo28⟩ := Kd.R_slice HO316.out; subst eo28) | ((with_reducible refine gate_callee (f := 15) rfl ?_); refine goesL_ (some 57) rfl rfl Tryz.func15 (Z20) rfl #[.agg #[.int .i64 a0_0, .int .i64 a0_1, .string a0_2], .int .i64 a1, .slice Ao28 t313.length co28, .bool a3] rfl (Z1) ?_; (with_reducible refine (impl_fetchText.calls kj6 a0_0 a0_1 a0_2 a1 _ _ t313 a3 t317 true _ ?side1 ?side2 ?side3 A22.out).mono ?_); (case side1 => have h_ := (Kd.R_reads' HO316.out).2.2; exact tC); (case side2 => exact (Kd.R_reads' HO316.out).2.1); (case side3 => first | exact HG | exact ⟨HG.out.of rfl⟩ | (refine ⟨HG.out.on ?_⟩; (repeat (first | (with_reducible first | exact HB.out | apply below_alloc | apply pw_below_drewN | apply below_drew1 | refine below_set ?_ GE309.out) | exact HB.out)); done) | exact ⟨HG.out.on HBW.out⟩); rintro e w29 ⟨rfl, hb⟩; refine ⟨_, rfl, ?_⟩; replace HO316 := Aside0.mk (Kd.R_below (Z53) hb); replace BK309 := Aside0.mk (kB BK309 (Z28) hb); replace HB := Aside0.mk (below_step (Z9) hb); (try clear hb)))
         replace HO316 := Aside0.mk (Kd.R_drew HO316.out)
         replace BK309 := Aside0.mk (blk_drew BK309.out)
         replace HB := Aside0.mk (below_drew1 HB.out)
         refine start_ (n := 12) (S := fun w' => w'.cell? ⟨gb309, 0, none⟩ = some (.int .i64 a0_0) ∧ w'.cell? ⟨gb309, 1, none⟩ = some (.int .i64 a0_1) ∧ w'.cell? ⟨gb309, 2, none⟩ = some (.string a0_2)) (ds := []) #[false, false, false, false, false, false, false, false, false, false, false, false] (Z20) rfl rfl (bc3 BK309.out) (fun hHeld => ?_); refine with_tabW impl_FetchText.tab13 impl_FetchText.bits13 (fun HT_ HW_ => ?_)
         generalize w29.drew = w30 at HO316 BK309 HB hHeld ⊢
         refine pA 0 62 ?_
         refine pA 1 63 ?_
         refine oA 2 64 (fun K hK => ?_)
         refine goes_ Tryz.func16 (Z20) rfl #[.slice Ao28 t313.length co28] (by rfl) rfl rfl (Z1) ?_
         with_reducible refine (impl_sees.calls _ _ t313 true _ ?side1 ?side2 A24.out).mono ?_
         (case side1 => have h_ := (Kd.R_reads' HO316.out).2.2; exact tC)
         (case side2 => exact (Kd.R_reads' HO316.out).2.1)
         rintro e w31 ⟨rfl, hb⟩
         refine ⟨_, rfl, ?_⟩
         replace HO316 := Aside0.mk (Kd.R_below (Z53) hb)
         replace BK309 := Aside0.mk (kB BK309 (Z28) hb)
         replace HB := Aside0.mk (below_step (Z9) hb)
         (try clear hb); (try clear hb2); (try clear hk); (try clear hi)
         refine hK.out _ _ (bc3 BK309.out) (fun hHeld => ?_)
         clear hK K
         refine nB 64 ?_
         refine pA 3 65 ?_
         refine pA 4 66 ?_
         refine pA 9 8 ?_
         refine tA 5 67 ?_
         refine pA 6 68 ?_
         refine pA 7 69 ?_
         refine pA 8 70 ?_
         refine pA 10 9 ?_
         refine pA 11 10 ?_
         refine done_ (done_of HT_.out (Z20)) ?_
         try go_wp2
         go_ret3
         exact ⟨Z3, Z9⟩
        ·replace c25 := Bool.eq_false_iff.mpr c25
         subst c25
         replace H := ifF H
         simp only [Option.some.injEq, Prod.mk.injEq] at H
         obtain ⟨rfl, rfl, rfl⟩ := H
         try go_wp2_with (first | ((with_reducible refine gate_callee (f := 13) rfl ?_); refine goesL_ (some 43) rfl rfl Tryz.func13 (Z20) rfl #[.int .i64 a1, .int .i64 1, .int .i64 4294967295] rfl (Z1) ?_; (with_reducible refine (impl_within.calls a1 1 4294967295 true _ A18.out).mono ?_); rintro e w' ⟨rfl, ⟨nd, rfl⟩⟩; refine ⟨_, rfl, ?_⟩) | ((with_reducible refine gate_callee (f := 14) rfl ?_); refine goesL_ (some 47) rfl rfl Tryz.func14 (Z20) rfl #[.slice A2 l2.length c2] rfl (Z1) ?_; (with_reducible refine (impl_itemsOf.calls kj6 _ _ l2 t313 true _ ?side1 ?side2 ?side3 A20.out).mono ?_); (case side1 => repeat (first | exact (Kd.C_below HR2.out (Z9)) | (with_reducible refine Kd.C_alloc ?_ _) | (with_reducible refine Kd.C_drewN ?_ _) | (with_reducible refine Kd.C_drew ?_))); (case side2 => exact HC2.out); (case side3 => first | exact HG | exact ⟨HG.out.of rfl⟩ | (refine ⟨HG.out.on ?_⟩; (repeat (first | (with_reducible first | exact HB.out | apply below_alloc | apply pw_below_drewN | apply below_drew1 | refine below_set ?_ GE309.out) | exact HB.out)); done) | exact ⟨HG.out.on HBW.out⟩); rintro e w32 ⟨v315, rfl, ho0, hb⟩; refine ⟨_, rfl, ?_⟩; have HO316 := Aside0.mk (Kd.R_lower ho0 (below_size (Z9))); replace BK309 := Aside0.mk (kB BK309 (Z28) hb); replace HB := Aside0.mk (below_step (Z9) hb); (try clear hb); (try clear ho0); obtain ⟨hcz33_0, hcz33_1, hcz33_2⟩ := bc3 BK309.out; obtain ⟨hfz33_0, hfz33_1, hfz33_2⟩ := bf3 BK309.out; obtain ⟨Ao34, co34, eo34⟩ := Kd.R_slice HO316.out; subst eo34) | ((with_reducible refine gate_callee (f := 15) rfl ?_); refine goesL_ (some 57) rfl rfl Tryz.func15 (Z20) rfl #[.agg #[.int .i64 a0_0, .int .i64 a0_1, .string a0_2], .int .i64 a1, .slice Ao34 t313.length co34, .bool a3] rfl (Z1) ?_; (with_reducible refine (impl_fetchText.calls kj6 a0_0 a0_1 a0_2 a1 _ _ t313 a3 t317 true _ ?side1 ?side2 ?side3 A22.out).mono ?_); (case side1 => have h_ := (Kd.R_reads' HO316.out).2.2; exact tC); (case side2 => exact (Kd.R_reads' HO316.out).2.1); (case side3 => first | exact HG | exact ⟨HG.out.of rfl⟩ | (refine ⟨HG.out.on ?_⟩; (repeat (first | (with_reducible first | exact HB.out | apply below_alloc | apply pw_below_drewN | apply below_drew1 | refine below_set ?_ GE309.out) | exact HB.out)); done) | exact ⟨HG.out.on HBW.out⟩); rintro e w35 ⟨rfl, hb⟩; refine ⟨_, rfl, ?_⟩; replace HO316 := Aside0.mk (Kd.R_below (Z53) hb); replace BK309 := Aside0.mk (kB BK309 (Z28) hb); replace HB := Aside0.mk (below_step (Z9) hb); (try clear hb)))
         replace HO316 := Aside0.mk (Kd.R_drew HO316.out)
         replace BK309 := Aside0.mk (blk_drew BK309.out)
         replace HB := Aside0.mk (below_drew1 HB.out)
         refine start_ (n := 12) (S := fun w' => True) (ds := []) #[false, false, false, false, false, false, false, false, false, false, false, false] (Z20) rfl rfl trivial (fun hHeld => ?_); refine with_tabW impl_FetchText.tab13 impl_FetchText.bits13 (fun HT_ HW_ => ?_)
         generalize w35.drew = w36 at HO316 BK309 HB hHeld ⊢
         refine pA 0 62 ?_
         refine pA 1 63 ?_
         refine oA 2 64 (fun K hK => ?_)
         refine goes_ Tryz.func16 (Z20) rfl #[.slice Ao34 t313.length co34] (by rfl) rfl rfl (Z1) ?_
         with_reducible refine (impl_sees.calls _ _ t313 false _ ?side1 ?side2 A24.out).mono ?_
         (case side1 => have h_ := (Kd.R_reads' HO316.out).2.2; exact tC)
         (case side2 => exact (Kd.R_reads' HO316.out).2.1)
         rintro e w37 ⟨rfl, hb⟩
         refine ⟨_, rfl, ?_⟩
         replace HO316 := Aside0.mk (Kd.R_below (Z53) hb)
         replace BK309 := Aside0.mk (kB BK309 (Z28) hb)
         replace HB := Aside0.mk (below_step (Z9) hb)
         (try clear hb); (try clear hb2); (try clear hk); (try clear hi)
         refine hK.out _ _ trivial (fun hHeld => ?_)
         clear hK K
         refine nB 64 ?_
         refine pA 3 65 ?_
         refine pU 4 66 ?_
         refine pU 5 67 ?_
         refine pU 6 68 ?_
         refine pU 7 69 ?_
         refine pA 8 70 ?_
         refine pA 9 8 ?_
         refine pA 10 9 ?_
         refine pA 11 10 ?_
         refine done_ (done_of HT_.out (Z20)) ?_
         try go_wp2
         go_ret3
         exact ⟨Z3, Z9⟩
       ·replace c23 := Bool.eq_false_iff.mpr c23
        subst c23
        replace H := ifF H
        simp only [Option.some.injEq, Prod.mk.injEq] at H
        obtain ⟨rfl, rfl, rfl⟩ := H
        go_wp2_with (first | ((with_reducible refine gate_callee (f := 13) rfl ?_); refine goesL_ (some 43) rfl rfl Tryz.func13 (Z20) rfl #[.int .i64 a1, .int .i64 1, .int .i64 4294967295] rfl (Z1) ?_; (with_reducible refine (impl_within.calls a1 1 4294967295 true _ A18.out).mono ?_); rintro e w' ⟨rfl, ⟨nd, rfl⟩⟩; refine ⟨_, rfl, ?_⟩) | ((with_reducible refine gate_callee (f := 14) rfl ?_); refine goesL_ (some 47) rfl rfl Tryz.func14 (Z20) rfl #[.slice A2 l2.length c2] rfl (Z1) ?_; (with_reducible refine (impl_itemsOf.calls kj6 _ _ l2 t313 true _ ?side1 ?side2 ?side3 A20.out).mono ?_); (case side1 => repeat (first | exact (Kd.C_below HR2.out (Z9)) | (with_reducible refine Kd.C_alloc ?_ _) | (with_reducible refine Kd.C_drewN ?_ _) | (with_reducible refine Kd.C_drew ?_))); (case side2 => exact HC2.out); (case side3 => first | exact HG | exact ⟨HG.out.of rfl⟩ | (refine ⟨HG.out.on ?_⟩; (repeat (first | (with_reducible first | exact HB.out | apply below_alloc | apply pw_below_drewN | apply below_drew1 | refine below_set ?_ GE309.out) | exact HB.out)); done) | exact ⟨HG.out.on HBW.out⟩); rintro e w38 ⟨v315, rfl, ho0, hb⟩; refine ⟨_, rfl, ?_⟩; have HO316 := Aside0.mk (Kd.R_lower ho0 (below_size (Z9))); replace BK309 := Aside0.mk (kB BK309 (Z28) hb); replace HB := Aside0.mk (below_step (Z9) hb); (try clear hb); (try clear ho0); obtain ⟨hcz39_0, hcz39_1, hcz39_2⟩ := bc3 BK309.out; obtain ⟨hfz39_0, hfz39_1, hfz39_2⟩ := bf3 BK309.out; obtain ⟨Ao40, co40, eo40⟩ := Kd.R_slice HO316.out; subst eo40) | ((with_reducible refine gate_callee (f := 15) rfl ?_); refine goesL_ (some 57) rfl rfl Tryz.func15 (Z20) rfl #[.agg #[.int .i64 a0_0, .int .i64 a0_1, .string a0_2], .int .i64 a1, .slice Ao40 t313.length co40, .bool a3] rfl (Z1) ?_; (with_reducible refine (impl_fetchText.calls kj6 a0_0 a0_1 a0_2 a1 _ _ t313 a3 t317 false _ ?side1 ?side2 ?side3 A22.out).mono ?_); (case side1 => have h_ := (Kd.R_reads' HO316.out).2.2; exact tC); (case side2 => exact (Kd.R_reads' HO316.out).2.1); (case side3 => first | exact HG | exact ⟨HG.out.of rfl⟩ | (refine ⟨HG.out.on ?_⟩; (repeat (first | (with_reducible first | exact HB.out | apply below_alloc | apply pw_below_drewN | apply below_drew1 | refine below_set ?_ GE309.out) | exact HB.out)); done) | exact ⟨HG.out.on HBW.out⟩); rintro e w41 ⟨rfl, hb⟩; refine ⟨_, rfl, ?_⟩; replace HO316 := Aside0.mk (Kd.R_below (Z53) hb); replace BK309 := Aside0.mk (kB BK309 (Z28) hb); replace HB := Aside0.mk (below_step (Z9) hb); (try clear hb)))
        go_ret3
        exact ⟨Z3, Z9⟩
      ·replace c21 := Bool.eq_false_iff.mpr c21
       subst c21
       replace H := ifF H
       simp only [Option.some.injEq, Prod.mk.injEq] at H
       obtain ⟨rfl, rfl, rfl⟩ := H
       go_wp2_with (first | ((with_reducible refine gate_callee (f := 13) rfl ?_); refine goesL_ (some 43) rfl rfl Tryz.func13 (Z20) rfl #[.int .i64 a1, .int .i64 1, .int .i64 4294967295] rfl (Z1) ?_; (with_reducible refine (impl_within.calls a1 1 4294967295 true _ A18.out).mono ?_); rintro e w' ⟨rfl, ⟨nd, rfl⟩⟩; refine ⟨_, rfl, ?_⟩) | ((with_reducible refine gate_callee (f := 14) rfl ?_); refine goesL_ (some 47) rfl rfl Tryz.func14 (Z20) rfl #[.slice A2 l2.length c2] rfl (Z1) ?_; (with_reducible refine (impl_itemsOf.calls kj6 _ _ l2 t313 false _ ?side1 ?side2 ?side3 A20.out).mono ?_); (case side1 => repeat (first | exact (Kd.C_below HR2.out (Z9)) | (with_reducible refine Kd.C_alloc ?_ _) | (with_reducible refine Kd.C_drewN ?_ _) | (with_reducible refine Kd.C_drew ?_))); (case side2 => exact HC2.out); (case side3 => first | exact HG | exact ⟨HG.out.of rfl⟩ | (refine ⟨HG.out.on ?_⟩; (repeat (first | (with_reducible first | exact HB.out | apply below_alloc | apply pw_below_drewN | apply below_drew1 | refine below_set ?_ GE309.out) | exact HB.out)); done) | exact ⟨HG.out.on HBW.out⟩); rintro e w42 ⟨v315, rfl, ho0, hb⟩; refine ⟨_, rfl, ?_⟩; have HO316 := Aside0.mk (Kd.R_lower ho0 (below_size (Z9))); replace BK309 := Aside0.mk (kB BK309 (Z28) hb); replace HB := Aside0.mk (below_step (Z9) hb); (try clear hb); (try clear ho0)))
       go_ret3
       exact ⟨Z3, Z9⟩
     ·replace c19 := Bool.eq_false_iff.mpr c19
      subst c19
      replace H := ifF H
      simp only [Option.some.injEq, Prod.mk.injEq] at H
      obtain ⟨rfl, rfl, rfl⟩ := H
      go_wp2_with (first | ((with_reducible refine gate_callee (f := 13) rfl ?_); refine goesL_ (some 43) rfl rfl Tryz.func13 (Z20) rfl #[.int .i64 a1, .int .i64 1, .int .i64 4294967295] rfl (Z1) ?_; (with_reducible refine (impl_within.calls a1 1 4294967295 false _ A18.out).mono ?_); rintro e w' ⟨rfl, ⟨nd, rfl⟩⟩; refine ⟨_, rfl, ?_⟩))
      go_ret3
      exact ⟨Z3, Z9⟩

/-! ### laws_eqStringS: function 10 -/
def laws_eqStringS.l0 : Nat → List ByteArray → List ByteArray → Int → Option (Bool)
 | 0, _, _, _ => none
 | k + 1, x0, x1, x5 => if x5 < (x0.length : Int) then (if 0 ≤ x5 then (if x5 < (x1.length : Int) then (if (rdOf ByteArray.empty x0 x5).toList = (rdOf ByteArray.empty x1 x5).toList then (laws_eqStringS.l0 k x0 x1 (wrap64 (x5 + 1))) else (some false)) else (none)) else (none)) else (some true)
def laws_eqStringS.f (k : Nat) (l0 : List ByteArray) (l1 : List ByteArray) : Option (Bool) := if (l0.length : Int) = (l1.length : Int) then (laws_eqStringS.l0 k l0 l1 0) else (some false)
theorem laws_eqStringS.mono_l : ∀ k, (∀ y0 y1 y2, LeO (laws_eqStringS.l0 k y0 y1 y2) (laws_eqStringS.l0 (k + 1) y0 y1 y2))
 | 0 => fun _ _ _ r h => by simp [laws_eqStringS.l0] at h
 | k + 1 => by
  have ih0 := laws_eqStringS.mono_l k
  ·intro y0 y1 y2
   unfold laws_eqStringS.l0
   exact tM
theorem laws_eqStringS.mono : ∀ a0 a1 k, LeO (laws_eqStringS.f k a0 a1) (laws_eqStringS.f (k + 1) a0 a1) := by
 intro a0 a1 k
 have ih0 := laws_eqStringS.mono_l k
 unfold laws_eqStringS.f
 exact tM
set_option maxHeartbeats 40000000 in
set_option maxRecDepth 100000 in
theorem laws_eqStringS.calls (k : Nat) (A0 : Option Addr) (c0 : Nat) (l0 : List ByteArray) (A1 : Option Addr) (c1 : Nat) (l1 : List ByteArray) (r : Bool) (w : World) (hr0 : Kd.C Kd.string w A0 l0.length l0) (hc0 : l0.length ≤ c0) (hr1 : Kd.C Kd.string w A1 l1.length l1) (hc1 : l1.length ≤ c1) (h : laws_eqStringS.f k l0 l1 = some r) :
  Calls Tryz.prog 10 #[.slice A0 l0.length c0, .slice A1 l1.length c1] w fun e w' => e = .returned (.bool r) ∧ Drawn0 w w' := by
 have HR0 := Aside0.mk hr0
 have HC0 := Aside0.mk hc0
 clear hr0 hc0
 have HR1 := Aside0.mk hr1
 have HC1 := Aside0.mk hc1
 clear hr1 hc1
 have H : (if (l0.length : Int) = (l1.length : Int) then (laws_eqStringS.l0 k l0 l1 0) else (some false)) = some r := h
 clear h
 by_cases c3 : (l0.length : Int) = (l1.length : Int)
 ·rw [if_pos c3] at H
  have c3b0 := beq_iff_eq.mpr c3
  have c3b1 := bne_eq_false_iff_eq.mpr c3
  have c3b2 : (l0.length == l1.length) = true := by first | simpa using c3 | (simp at c3 ⊢; omega)
  clear c3
  have H' := Aside0.mk H
  clear H
  go_enter Tryz.func10, Tryz.ntmps10
  go_wp2
  repeat (go_quiet (fail); try go_wp2)
  go_loopg [5] k (fun kq v5 w' => ∃ (x5_1 : Int), v5 = .int .i64 x5_1 ∧ Aside0 (laws_eqStringS.l0 kq l0 l1 x5_1 = some r) ∧ Aside0 (kq ≤ k) ∧ Drawn0 w w')
  case atStart => exact ⟨(0), (Z2), H', ⟨Nat.le_refl _⟩, Z11⟩
  case round =>
   clear H'
   (try clear c1); (try clear c3); (try clear c3b0); (try clear c3b1); (try clear c3b2)
   obtain ⟨x5_1, rfl, HA, HK1, ⟨m1, rfl⟩⟩ := hrel
   cases gk with
   | zero => exact absurd HA.out (by simp [laws_eqStringS.l0])
   | succ k1 =>
    have H := HA.out
    clear HA
    simp only [laws_eqStringS.l0] at H
    by_cases c4 : x5_1 < (l0.length : Int)
    ·rw [if_pos c4] at H
     have c4b0 := decide_eq_true c4
     clear c4
     obtain ⟨c5, H⟩ := ifS H
     have c5b0 := decide_eq_true c5
     clear c5
     obtain ⟨c6, H⟩ := ifS H
     have c6b0 := decide_eq_true c6
     clear c6
     by_cases c7 : (rdOf ByteArray.empty l0 x5_1).toList = (rdOf ByteArray.empty l1 x5_1).toList
     ·rw [if_pos c7] at H
      have c7b0 := beq_iff_eq.mpr c7
      have c7b1 := bne_eq_false_iff_eq.mpr c7
      clear c7
      have H' := Aside0.mk H
      clear H
      have p320 : 0 ≤ (x5_1 : Int) := of_decide_eq_true (Z4)
      have q320 : x5_1 < (l0.length : Int) := of_decide_eq_true (Z4)
      obtain ⟨ad320, e320, hx320_0⟩ := Kd.at_string HR0.out x5_1 p320 q320
      cases e320
      replace p320 := eq_true p320
      replace q320 := eq_true q320
      have p321 : 0 ≤ (x5_1 : Int) := of_decide_eq_true (Z4)
      have q321 : x5_1 < (l1.length : Int) := of_decide_eq_true (Z4)
      obtain ⟨ad321, e321, hx321_0⟩ := Kd.at_string HR1.out x5_1 p321 q321
      cases e321
      replace p321 := eq_true p321
      replace q321 := eq_true q321
      go_wp2
      repeat (go_quiet (fail); try go_wp2)
      go_roundg k1
      case measure => have := HK1.out; omega
      case rel => exact ⟨(wrap64 (x5_1 + 1)), (Z2), H', ⟨Z59⟩, Z11⟩
     ·rw [if_neg c7] at H
      have c7b0 := beq_eq_false_iff_ne.mpr c7
      have c7b1 := bne_iff_ne.mpr c7
      obtain rfl := Option.some.inj H
      have p320 : 0 ≤ (x5_1 : Int) := of_decide_eq_true (Z4)
      have q320 : x5_1 < (l0.length : Int) := of_decide_eq_true (Z4)
      obtain ⟨ad320, e320, hx320_0⟩ := Kd.at_string HR0.out x5_1 p320 q320
      cases e320
      replace p320 := eq_true p320
      replace q320 := eq_true q320
      have p321 : 0 ≤ (x5_1 : Int) := of_decide_eq_true (Z4)
      have q321 : x5_1 < (l1.length : Int) := of_decide_eq_true (Z4)
      obtain ⟨ad321, e321, hx321_0⟩ := Kd.at_string HR1.out x5_1 p321 q321
      cases e321
      replace p321 := eq_true p321
      replace q321 := eq_true q321
      go_wp2
      repeat (go_quiet (fail); try go_wp2)
      go_ret
      exact ⟨Z2, Z11⟩
    ·rw [if_neg c4] at H
     have c4b0 := decide_eq_false c4
     clear c4
     obtain rfl := Option.some.inj H
     go_wp2
     repeat (go_quiet (fail); try go_wp2)
     go_ret
     exact ⟨Z2, Z11⟩
 ·rw [if_neg c3] at H
  have c3b0 := beq_eq_false_iff_ne.mpr c3
  have c3b1 := bne_iff_ne.mpr c3
  have c3b2 : (l0.length == l1.length) = false := by first | simpa using c3 | (simp at c3 ⊢; omega)
  obtain rfl := Option.some.inj H
  go_enter Tryz.func10, Tryz.ntmps10
  go_wp2
  repeat (go_quiet (fail); try go_wp2)
  go_ret
  exact ⟨Z2, Z11⟩
attribute [local go_sem] max2_int min2_int max_two min_two max_three min_three max_four min_four
set_option linter.unusedVariables false
set_option linter.unusedSimpArgs false

/-! ### laws_FnExactFetchText: function 3 -/
def laws_FnExactFetchText.j0 : Nat → List ByteArray → List ByteArray → Bool → Option (Bool)
 | 0, _, _, _ => none
 | k + 1, x2, x13, x62 => if x62 = true then (some false) else ((laws_toStringS.f k x2).bind fun t343 => ((laws_eqStringS.f k x13 t343).bind fun t346 => (if t346 = true then (some true) else (some false))))
def laws_FnExactFetchText.f (k : Nat) (a0_0 : Int) (a0_1 : Int) (a0_2 : ByteArray) (a1 : Int) (l2 : List ByteArray) (a3 : Bool) : Option (Bool) := (laws_szStored.f a0_0 a0_1 a0_2 1048576).bind fun t323 => (if t323 < 0 then (some true) else ((laws_szStringS.f k l2 t323).bind fun t324 => (if t324 < 0 then (some true) else ((laws_toStored.f a0_0 a0_1 a0_2).bind fun bt325 => ((laws_toStringS.f k l2).bind fun t328 => ((spec_FetchText.f k bt325.1 bt325.2.1 bt325.2.2 a1 t328 a3).bind fun bt331 => ((laws_toStringS.f k l2).bind fun t334 => ((laws_toStored.f a0_0 a0_1 a0_2).bind fun bt337 => ((impl_FetchText.f k bt337.1 bt337.2.1 bt337.2.2 a1 t334 a3).bind fun bt340 => (if bt340.1.toList = bt331.1.toList then (if (bt340.2.1 != bt331.2.1) = true then (laws_FnExactFetchText.j0 k l2 t334 true) else (laws_FnExactFetchText.j0 k l2 t334 (bt340.2.2 != bt331.2.2))) else (laws_FnExactFetchText.j0 k l2 t334 true)))))))))))
theorem laws_FnExactFetchText.mono_l : ∀ k, (∀ y0 y1 y2, LeO (laws_FnExactFetchText.j0 k y0 y1 y2) (laws_FnExactFetchText.j0 (k + 1) y0 y1 y2))
 | 0 => fun _ _ _ r h => by simp [laws_FnExactFetchText.j0] at h
 | k + 1 => by
  have ih0 := laws_FnExactFetchText.mono_l k
  ·intro y0 y1 y2
   unfold laws_FnExactFetchText.j0
   have m0 := @impl_FetchText.mono
   have m1 := @laws_eqStringS.mono
   have m2 := @laws_szStringS.mono
   have m3 := @laws_toStringS.mono
   have m4 := @spec_FetchText.mono
   exact tM
theorem laws_FnExactFetchText.mono : ∀ a0 a1 a2 a3 a4 a5 k, LeO (laws_FnExactFetchText.f k a0 a1 a2 a3 a4 a5) (laws_FnExactFetchText.f (k + 1) a0 a1 a2 a3 a4 a5) := by
 intro a0 a1 a2 a3 a4 a5 k
 have ih0 := laws_FnExactFetchText.mono_l k
 unfold laws_FnExactFetchText.f
 have m0 := @impl_FetchText.mono
 have m1 := @laws_eqStringS.mono
 have m2 := @laws_szStringS.mono
 have m3 := @laws_toStringS.mono
 have m4 := @spec_FetchText.mono
 exact tM
set_option maxHeartbeats 40000000 in
set_option maxRecDepth 100000 in
theorem laws_FnExactFetchText.calls (k : Nat) (a0_0 : Int) (a0_1 : Int) (a0_2 : ByteArray) (a1 : Int) (A2 : Option Addr) (c2 : Nat) (l2 : List ByteArray) (a3 : Bool) (r : Bool) (w : World) (hr2 : Kd.C Kd.string w A2 l2.length l2) (hc2 : l2.length ≤ c2) (HG : Aside0 (Glob w)) (h : laws_FnExactFetchText.f k a0_0 a0_1 a0_2 a1 l2 a3 = some r) :
  Calls Tryz.prog 3 #[.agg #[.int .i64 a0_0, .int .i64 a0_1, .string a0_2], .int .i64 a1, .slice A2 l2.length c2, .bool a3] w fun e w' => e = .returned (.bool r) ∧ Below w.heap.size w w' := by
 have hu23 := Tryz.underlying23
 have HR2 := Aside0.mk hr2
 have HC2 := Aside0.mk hc2
 clear hr2 hc2
 have HB := Aside0.mk (Below.refl w.heap.size w)
 have H : ((laws_szStored.f a0_0 a0_1 a0_2 1048576).bind fun t323 => (if t323 < 0 then (some true) else ((laws_szStringS.f k l2 t323).bind fun t324 => (if t324 < 0 then (some true) else ((laws_toStored.f a0_0 a0_1 a0_2).bind fun bt325 => ((laws_toStringS.f k l2).bind fun t328 => ((spec_FetchText.f k bt325.1 bt325.2.1 bt325.2.2 a1 t328 a3).bind fun bt331 => ((laws_toStringS.f k l2).bind fun t334 => ((laws_toStored.f a0_0 a0_1 a0_2).bind fun bt337 => ((impl_FetchText.f k bt337.1 bt337.2.1 bt337.2.2 a1 t334 a3).bind fun bt340 => (if bt340.1.toList = bt331.1.toList then (if (bt340.2.1 != bt331.2.1) = true then (laws_FnExactFetchText.j0 k l2 t334 true) else (laws_FnExactFetchText.j0 k l2 t334 (bt340.2.2 != bt331.2.2))) else (laws_FnExactFetchText.j0 k l2 t334 true)))))))))))) = some r := h
 clear h
 obtain ⟨t323, A5, H⟩ := bindA H
 try dsimp only at H
 by_cases c6 : t323 < 0
 ·rw [if_pos c6] at H
  have c6b0 := decide_eq_true c6
  clear c6
  obtain rfl := Option.some.inj H
  go_enter Tryz.func3, Tryz.ntmps3
  go_wp2_with (first | ((with_reducible refine gate_dst (N := 4) rfl ?_); refine bxE 4 #[.int .i64 a0_0, .int .i64 a0_1, .string a0_2] 23 ?_; intro gb322 hg w7 hbox hb; have BK322 := Aside0.mk (hbox); have GW322 := Aside0.mk ((szE w hg (Z0))); have GE322 := Aside0.mk ((szE w hg (Z0))); replace HB := Aside0.mk (below_step (Z0) hb); clear hb hbox hg; obtain ⟨hcz8_0, hcz8_1, hcz8_2⟩ := bc3 BK322.out; obtain ⟨hfz8_0, hfz8_1, hfz8_2⟩ := bf3 BK322.out) | ((with_reducible refine gate_callee (f := 4) rfl ?_); refine goesL_ (some 19) rfl rfl Tryz.func4 (Z20) rfl #[.agg #[.int .i64 a0_0, .int .i64 a0_1, .string a0_2], .int .i64 1048576] rfl (Z1) ?_; (with_reducible refine (laws_szStored.calls a0_0 a0_1 a0_2 1048576 t323 _ A5.out).mono ?_); rintro e w9 ⟨rfl, hb⟩; refine ⟨_, rfl, ?_⟩; replace BK322 := Aside0.mk (kB BK322 (Z26) hb); replace HB := Aside0.mk (below_step (Z14) hb); (try clear hb)))
  go_ret
  exact ⟨Z3, Z14⟩
 ·rw [if_neg c6] at H
  have c6b0 := decide_eq_false c6
  clear c6
  obtain ⟨t324, A10, H⟩ := bindA H
  try dsimp only at H
  by_cases c11 : t324 < 0
  ·rw [if_pos c11] at H
   have c11b0 := decide_eq_true c11
   clear c11
   obtain rfl := Option.some.inj H
   go_enter Tryz.func3, Tryz.ntmps3
   go_wp2_with (first | ((with_reducible refine gate_dst (N := 4) rfl ?_); refine bxE 4 #[.int .i64 a0_0, .int .i64 a0_1, .string a0_2] 23 ?_; intro gb322 hg w12 hbox hb; have BK322 := Aside0.mk (hbox); have GW322 := Aside0.mk ((szE w hg (Z0))); have GE322 := Aside0.mk ((szE w hg (Z0))); replace HB := Aside0.mk (below_step (Z0) hb); clear hb hbox hg; obtain ⟨hcz13_0, hcz13_1, hcz13_2⟩ := bc3 BK322.out; obtain ⟨hfz13_0, hfz13_1, hfz13_2⟩ := bf3 BK322.out) | ((with_reducible refine gate_callee (f := 4) rfl ?_); refine goesL_ (some 19) rfl rfl Tryz.func4 (Z20) rfl #[.agg #[.int .i64 a0_0, .int .i64 a0_1, .string a0_2], .int .i64 1048576] rfl (Z1) ?_; (with_reducible refine (laws_szStored.calls a0_0 a0_1 a0_2 1048576 t323 _ A5.out).mono ?_); rintro e w14 ⟨rfl, hb⟩; refine ⟨_, rfl, ?_⟩; replace BK322 := Aside0.mk (kB BK322 (Z26) hb); replace HB := Aside0.mk (below_step (Z14) hb); (try clear hb)) | ((with_reducible refine gate_callee (f := 5) rfl ?_); refine goesL_ (some 24) rfl rfl Tryz.func5 (Z20) rfl #[.slice A2 l2.length c2, .int .i64 t323] rfl (Z1) ?_; (with_reducible refine (laws_szStringS.calls k _ _ l2 t323 t324 _ ?side1 ?side2 A10.out).mono ?_); (case side1 => have h_ := Kd.C_below HR2.out HB.out; exact tC); (case side2 => exact HC2.out); rintro e w' ⟨rfl, ⟨nd, rfl⟩⟩; refine ⟨_, rfl, ?_⟩))
   go_ret
   exact ⟨Z3, Z14⟩
  ·rw [if_neg c11] at H
   have c11b0 := decide_eq_false c11
   clear c11
   obtain ⟨⟨t325, t326, t327⟩, A15, H⟩ := bindA H
   try dsimp only at H
   obtain ⟨t328, A16, H⟩ := bindA H
   try dsimp only at H
   obtain ⟨⟨t331, t332, t333⟩, A17, H⟩ := bindA H
   try dsimp only at H
   obtain ⟨t334, A18, H⟩ := bindA H
   try dsimp only at H
   obtain ⟨⟨t337, t338, t339⟩, A19, H⟩ := bindA H
   try dsimp only at H
   obtain ⟨⟨t340, t341, t342⟩, A20, H⟩ := bindA H
   try dsimp only at H
   have HC21 := Aside0.mk H
   clear H
   go_enter Tryz.func3, Tryz.ntmps3
   go_upto_region 11 with (first | ((with_reducible refine gate_dst (N := 4) rfl ?_); refine bxE 4 #[.int .i64 a0_0, .int .i64 a0_1, .string a0_2] 23 ?_; intro gb322 hg w22 hbox hb; have BK322 := Aside0.mk (hbox); have GW322 := Aside0.mk ((szE w hg (Z0))); have GE322 := Aside0.mk ((szE w hg (Z0))); replace HB := Aside0.mk (below_step (Z0) hb); clear hb hbox hg; obtain ⟨hcz23_0, hcz23_1, hcz23_2⟩ := bc3 BK322.out; obtain ⟨hfz23_0, hfz23_1, hfz23_2⟩ := bf3 BK322.out) | ((with_reducible refine gate_callee (f := 4) rfl ?_); refine goesL_ (some 19) rfl rfl Tryz.func4 (Z20) rfl #[.agg #[.int .i64 a0_0, .int .i64 a0_1, .string a0_2], .int .i64 1048576] rfl (Z1) ?_; (with_reducible refine (laws_szStored.calls a0_0 a0_1 a0_2 1048576 t323 _ A5.out).mono ?_); rintro e w24 ⟨rfl, hb⟩; refine ⟨_, rfl, ?_⟩; replace BK322 := Aside0.mk (kB BK322 (Z26) hb); replace HB := Aside0.mk (below_step (Z14) hb); (try clear hb)) | ((with_reducible refine gate_callee (f := 5) rfl ?_); refine goesL_ (some 24) rfl rfl Tryz.func5 (Z20) rfl #[.slice A2 l2.length c2, .int .i64 t323] rfl (Z1) ?_; (with_reducible refine (laws_szStringS.calls k _ _ l2 t323 t324 _ ?side1 ?side2 A10.out).mono ?_); (case side1 => have h_ := Kd.C_below HR2.out HB.out; exact tC); (case side2 => exact HC2.out); rintro e w' ⟨rfl, ⟨nd, rfl⟩⟩; refine ⟨_, rfl, ?_⟩; obtain ⟨hcz25_0, hcz25_1, hcz25_2⟩ := bc3 BK322.out; obtain ⟨hfz25_0, hfz25_1, hfz25_2⟩ := bf3 BK322.out) | ((with_reducible refine gate_callee (f := 7) rfl ?_); refine goesL_ (some 29) rfl rfl Tryz.func7 (Z20) rfl #[.agg #[.int .i64 a0_0, .int .i64 a0_1, .string a0_2]] rfl (Z1) ?_; (with_reducible refine (laws_toStored.calls a0_0 a0_1 a0_2 t325 t326 t327 _ A15.out).mono ?_); rintro e w26 ⟨rfl, hb⟩; refine ⟨_, rfl, ?_⟩; replace BK322 := Aside0.mk (kB BK322 (Z26) hb); replace HB := Aside0.mk (below_step (Z14) hb); (try clear hb)) | ((with_reducible refine gate_callee (f := 8) rfl ?_); refine goesL_ (some 32) rfl rfl Tryz.func8 (Z20) rfl #[.slice A2 l2.length c2] rfl (Z1) ?_; (with_reducible refine (laws_toStringS.calls k _ _ l2 t328 _ ?side1 ?side2 A16.out).mono ?_); (case side1 => have h_ := Kd.C_below HR2.out HB.out; exact tC); (case side2 => exact HC2.out); rintro e w27 ⟨v329, rfl, ho0, hb⟩; refine ⟨_, rfl, ?_⟩; have HO330 := Aside0.mk (Kd.R_lower ho0 (below_size (Z14))); replace BK322 := Aside0.mk (kB BK322 (Z26) hb); replace HB := Aside0.mk (below_step (Z14) hb); (try clear hb); (try clear ho0); obtain ⟨Ao28, co28, eo28⟩ := Kd.R_slice HO330.out; subst eo28) | ((with_reducible refine gate_callee (f := 6) rfl ?_); refine goesL_ (some 34) rfl rfl Tryz.func6 (Z20) rfl #[.agg #[.int .i64 t325, .int .i64 t326, .string t327], .int .i64 a1, .slice Ao28 t328.length co28, .bool a3] rfl (Z1) ?_; (with_reducible refine (spec_FetchText.calls k t325 t326 t327 a1 _ _ t328 a3 t331 t332 t333 _ ?side1 ?side2 A17.out).mono ?_); (case side1 => have h_ := (Kd.R_reads' HO330.out).2.2; exact tC); (case side2 => exact (Kd.R_reads' HO330.out).2.1); rintro e w29 ⟨rfl, hb⟩; refine ⟨_, rfl, ?_⟩; replace HO330 := Aside0.mk (Kd.R_below (Z54) hb); replace BK322 := Aside0.mk (kB BK322 (Z26) hb); replace HB := Aside0.mk (below_step (Z14) hb); (try clear hb)) | ((with_reducible refine gate_callee (f := 8) rfl ?_); refine goesL_ (some 39) rfl rfl Tryz.func8 (Z20) rfl #[.slice A2 l2.length c2] rfl (Z1) ?_; (with_reducible refine (laws_toStringS.calls k _ _ l2 t334 _ ?side1 ?side2 A18.out).mono ?_); (case side1 => have h_ := Kd.C_below HR2.out HB.out; exact tC); (case side2 => exact HC2.out); rintro e w30 ⟨v335, rfl, ho0, hb⟩; refine ⟨_, rfl, ?_⟩; have HO336 := Aside0.mk (Kd.R_lower (Kd.R_new' ho0 (Kd.R_lt (Z54))) (below_size (Z14))); replace HO330 := Aside0.mk (Kd.R_elder' (Z54) (Kd.R_base ho0) hb); replace BK322 := Aside0.mk (kB BK322 (Z26) hb); replace HB := Aside0.mk (below_step (Z14) hb); (try clear hb); (try clear ho0); obtain ⟨hcz31_0, hcz31_1, hcz31_2⟩ := bc3 BK322.out; obtain ⟨hfz31_0, hfz31_1, hfz31_2⟩ := bf3 BK322.out) | ((with_reducible refine gate_callee (f := 7) rfl ?_); refine goesL_ (some 42) rfl rfl Tryz.func7 (Z20) rfl #[.agg #[.int .i64 a0_0, .int .i64 a0_1, .string a0_2]] rfl (Z1) ?_; (with_reducible refine (laws_toStored.calls a0_0 a0_1 a0_2 t337 t338 t339 _ A19.out).mono ?_); rintro e w32 ⟨rfl, hb⟩; refine ⟨_, rfl, ?_⟩; replace HO330 := Aside0.mk (Kd.R_below (Z54) hb); replace HO336 := Aside0.mk (Kd.R_below (by (with_reducible repeat (first | apply Kd.R_alloc | apply Kd.R_drewN | apply Kd.R_drew)); exact HO336.out) hb); replace BK322 := Aside0.mk (kB BK322 (Z26) hb); replace HB := Aside0.mk (below_step (Z14) hb); (try clear hb); obtain ⟨Ao33, co33, eo33⟩ := Kd.R_slice HO336.out; subst eo33) | ((with_reducible refine gate_callee (f := 9) rfl ?_); refine goesL_ (some 46) rfl rfl Tryz.func9 (Z20) rfl #[.agg #[.int .i64 t337, .int .i64 t338, .string t339], .int .i64 a1, .slice Ao33 t334.length co33, .bool a3] rfl (Z1) ?_; (with_reducible refine (impl_FetchText.calls k t337 t338 t339 a1 _ _ t334 a3 t340 t341 t342 _ ?side1 ?side2 ?side3 A20.out).mono ?_); (case side1 => have h_ := (Kd.R_reads' HO336.out).2.2; exact tC); (case side2 => exact (Kd.R_reads' HO336.out).2.1); (case side3 => first | exact HG | exact ⟨HG.out.of rfl⟩ | (refine ⟨HG.out.on ?_⟩; (repeat (first | (with_reducible first | exact HB.out | apply below_alloc | apply pw_below_drewN | apply below_drew1 | refine below_set ?_ GE322.out) | exact HB.out)); done) | exact ⟨HG.out.on HBW.out⟩); rintro e w34 ⟨rfl, hb⟩; refine ⟨_, rfl, ?_⟩; replace HO330 := Aside0.mk (Kd.R_below (Z54) hb); replace HO336 := Aside0.mk (Kd.R_below (by (with_reducible repeat (first | apply Kd.R_alloc | apply Kd.R_drewN | apply Kd.R_drew)); exact HO336.out) hb); replace BK322 := Aside0.mk (kB BK322 (Z26) hb); replace HB := Aside0.mk (below_step (Z14) hb); (try clear hb)))
   (try simp only [Act.put, List.setIfInBounds_toArray, List.set_cons_zero, List.set_cons_succ])
   go_cut [62] (fun v62 wc => ∃ (kq : Nat) (x62_20 : Bool), v62 = .bool x62_20 ∧ Aside0 (laws_FnExactFetchText.j0 kq l2 t334 x62_20 = some r) ∧ Aside0 (kq ≤ k) ∧ Aside0 (Kd.R Kd.string 9 wc w.heap.size (fun _ => True) (.slice Ao33 t334.length co33) t334) ∧ Aside0 (wc.heap[gb322]? = some (.cells #[.int .i64 a0_0, .int .i64 a0_1, .string a0_2] 23 (0, 0))) ∧ Aside0 (Below w.heap.size w wc))
   case first =>
    have H := HC21.out
    clear HC21
    by_cases c35 : t340.toList = t331.toList
    ·rw [if_pos c35] at H
     have c35b0 := beq_iff_eq.mpr c35
     have c35b1 := bne_eq_false_iff_eq.mpr c35
     clear c35
     (first | rw [c35b0] | rw [c35b1] | (simp only [i64_w, i32_w]; rw [c35b0]) | skip)
     by_cases c36 : (t341 != t332) = true
     ·rw [if_pos c36] at H
      have c36b0 : (t341 != t332) = true := c36
      (try (have c36b1 : decide (t341 = t332) = false := by simpa using c36))
      (try (have c36b2 : (t341 == t332) = false := by simpa using c36))
      (try (have c36b3 : ¬ (t341 = t332) := by simpa using c36))
      clear c36
      have H' := Aside0.mk H
      clear H
      go_wp2
      go_meet
      case rel => exact ⟨_, (true), (Z2), H', ⟨Z40⟩, ⟨Z62⟩, ⟨Z26⟩, ⟨Z14⟩⟩
     ·rw [if_neg c36] at H
      have c36b0 : (t341 != t332) = false := by simpa using c36
      (try (have c36b1 : decide (t341 = t332) = true := by simpa using c36))
      (try (have c36b2 : (t341 == t332) = true := by simpa using c36))
      clear c36
      have H' := Aside0.mk H
      clear H
      go_wp2
      go_meet
      case rel => exact ⟨_, ((t342 != t333)), (Z2), H', ⟨Z40⟩, ⟨Z62⟩, ⟨Z26⟩, ⟨Z14⟩⟩
    ·rw [if_neg c35] at H
     have c35b0 := beq_eq_false_iff_ne.mpr c35
     have c35b1 := bne_iff_ne.mpr c35
     (first | rw [c35b0] | rw [c35b1] | (simp only [i64_w, i32_w]; rw [c35b0]) | skip)
     have H' := Aside0.mk H
     clear H
     go_wp2
     go_meet
     case rel => exact ⟨_, (true), (Z2), H', ⟨Z40⟩, ⟨Z62⟩, ⟨Z26⟩, ⟨Z14⟩⟩
   case rest =>
    clear HC21
    (try clear c2); (try clear c6); (try clear c6b0); (try clear c11); (try clear c11b0); (try clear hcz23_0); (try clear hcz23_1); (try clear hcz23_2); (try clear hcz25_0); (try clear hcz25_1); (try clear hcz25_2); (try clear hcz31_0); (try clear hcz31_1); (try clear hcz31_2); (try clear hfz23_0); (try clear hfz23_1); (try clear hfz23_2); (try clear hfz25_0); (try clear hfz25_1); (try clear hfz25_2); (try clear hfz31_0); (try clear hfz31_1); (try clear hfz31_2)
    obtain ⟨kq, x62_20, rfl, HA, HJ20, HO_13, BK322, HB⟩ := hcut
    cases kq with
    | zero => exact absurd HA.out (by simp [laws_FnExactFetchText.j0])
    | succ kj20 =>
     have H := HA.out
     clear HA
     simp only [laws_FnExactFetchText.j0] at H
     by_cases c37 : x62_20 = true
     ·subst c37
      replace H := ifT H
      obtain rfl := Option.some.inj H
      go_wp2
      go_ret
      exact ⟨Z3, Z14⟩
     ·replace c37 := Bool.eq_false_iff.mpr c37
      subst c37
      replace H := ifF H
      obtain ⟨t343, A38, H⟩ := bindA H
      try dsimp only at H
      obtain ⟨t346, A39, H⟩ := bindA H
      try dsimp only at H
      by_cases c40 : t346 = true
      ·subst c40
       replace H := ifT H
       obtain rfl := Option.some.inj H
       go_wp2_with (first | ((with_reducible refine gate_callee (f := 8) rfl ?_); refine goesL_ (some 65) rfl rfl Tryz.func8 (Z20) rfl #[.slice A2 l2.length c2] rfl (Z1) ?_; (with_reducible refine (laws_toStringS.calls kj20 _ _ l2 t343 _ ?side1 ?side2 A38.out).mono ?_); (case side1 => have h_ := Kd.C_below HR2.out HB.out; exact tC); (case side2 => exact HC2.out); rintro e w41 ⟨v344, rfl, ho0, hb⟩; refine ⟨_, rfl, ?_⟩; have HO345 := Aside0.mk (Kd.R_lower (Kd.R_new' ho0 (Kd.R_lt (Z61))) (below_size (Z14))); replace HO_13 := Aside0.mk (Kd.R_elder' (Z61) (Kd.R_base ho0) hb); replace BK322 := Aside0.mk (kB BK322 (Z26) hb); replace HB := Aside0.mk (below_step (Z14) hb); (try clear hb); (try clear ho0); obtain ⟨Ao42, co42, eo42⟩ := Kd.R_slice HO345.out; subst eo42) | ((with_reducible refine gate_callee (f := 10) rfl ?_); refine goesL_ (some 66) rfl rfl Tryz.func10 (Z20) rfl #[.slice Ao33 t334.length co33, .slice Ao42 t343.length co42] rfl (Z1) ?_; (with_reducible refine (laws_eqStringS.calls kj20 _ _ t334 _ _ t343 true _ ?side1 ?side2 ?side3 ?side4 A39.out).mono ?_); (case side1 => have h_ := (Kd.R_reads' HO_13.out).2.2; exact tC); (case side2 => exact (Kd.R_reads' HO_13.out).2.1); (case side3 => have h_ := (Kd.R_reads' HO345.out).2.2; exact tC); (case side4 => exact (Kd.R_reads' HO345.out).2.1); rintro e w' ⟨rfl, ⟨nd, rfl⟩⟩; refine ⟨_, rfl, ?_⟩))
       go_ret
       exact ⟨Z3, Z14⟩
      ·replace c40 := Bool.eq_false_iff.mpr c40
       subst c40
       replace H := ifF H
       obtain rfl := Option.some.inj H
       go_wp2_with (first | ((with_reducible refine gate_callee (f := 8) rfl ?_); refine goesL_ (some 65) rfl rfl Tryz.func8 (Z20) rfl #[.slice A2 l2.length c2] rfl (Z1) ?_; (with_reducible refine (laws_toStringS.calls kj20 _ _ l2 t343 _ ?side1 ?side2 A38.out).mono ?_); (case side1 => have h_ := Kd.C_below HR2.out HB.out; exact tC); (case side2 => exact HC2.out); rintro e w43 ⟨v344, rfl, ho0, hb⟩; refine ⟨_, rfl, ?_⟩; have HO345 := Aside0.mk (Kd.R_lower (Kd.R_new' ho0 (Kd.R_lt (Z61))) (below_size (Z14))); replace HO_13 := Aside0.mk (Kd.R_elder' (Z61) (Kd.R_base ho0) hb); replace BK322 := Aside0.mk (kB BK322 (Z26) hb); replace HB := Aside0.mk (below_step (Z14) hb); (try clear hb); (try clear ho0); obtain ⟨Ao44, co44, eo44⟩ := Kd.R_slice HO345.out; subst eo44) | ((with_reducible refine gate_callee (f := 10) rfl ?_); refine goesL_ (some 66) rfl rfl Tryz.func10 (Z20) rfl #[.slice Ao33 t334.length co33, .slice Ao44 t343.length co44] rfl (Z1) ?_; (with_reducible refine (laws_eqStringS.calls kj20 _ _ t334 _ _ t343 false _ ?side1 ?side2 ?side3 ?side4 A39.out).mono ?_); (case side1 => have h_ := (Kd.R_reads' HO_13.out).2.2; exact tC); (case side2 => exact (Kd.R_reads' HO_13.out).2.1); (case side3 => have h_ := (Kd.R_reads' HO345.out).2.2; exact tC); (case side4 => exact (Kd.R_reads' HO345.out).2.1); rintro e w' ⟨rfl, ⟨nd, rfl⟩⟩; refine ⟨_, rfl, ?_⟩))
       go_ret
       exact ⟨Z3, Z14⟩
end Go.Proofs.YtcmnndnigjkldaaGreatDoor.PFnExactFetchText
