/- Contracts of functions that a statement reaches (wip/x/xprint.py, short.py, compact.py). -/
import Derived.Test.YtbikfhccfenkdaaPFnExactEngineOKx0
import Derived.Test.YtbikfhccfenkdaaPFnExactEngineOKx17
import Derived.Test.YtbikfhccfenkdaaPFnExactEngineOKx19
import Derived.Test.YtbikfhccfenkdaaPFnExactEngineOKx21
namespace Go.Proofs.Ytbikfhccfenkdaa.PFnExactEngineOK
open Go.RowKit Go.Proofs.YtbikfhccfenkdaaW.PrintWords Go.Proofs.YtbikfhccfenkdaaW.PrintLast Go.Proofs.YtbikfhccfenkdaaW.PrintMore Go.Proofs.Ytbikfhccfenkdaa.Mac
attribute [local go_sem] max2_int min2_int max_two min_two max_three min_three max_four min_four
set_option linter.unusedVariables false
set_option linter.unusedSimpArgs false

/-! ### impl_EngineOK: function 7 -/
def impl_EngineOK.j0 : Nat → Bool → Int → ByteArray → Int → List (S59) → Option (Bool)
 | 0, _, _, _, _, _ => none
 | k + 1, x28, x358000, x358001, x358002, x358003 => if x28 = true then (some false) else ((impl_Log_records.f x358000 x358001 x358002).bind fun bt360 => (if bt360.2.2 = 0 then ((impl_Log_replay.f k x358000 x358001 x358002).bind fun bt365 => (if bt365.2.2 = 0 then ((impl_sameStore.f k bt365.1 x358003).bind fun t370 => (some t370)) else (some false))) else (some false)))
def impl_EngineOK.f (k : Nat) (a0_0 : Int) (a0_1 : ByteArray) (a0_2 : Int) (l0_3 : List (S59)) : Option (Bool) := (impl_LogOK.f a0_0 a0_1 a0_2).bind fun t358 => (if t358 = true then (if a0_2 = (a0_1.size : Int) then ((impl_StoreOK.f k l0_3).bind fun t359 => (impl_EngineOK.j0 k (!t359) a0_0 a0_1 a0_2 l0_3)) else (impl_EngineOK.j0 k true a0_0 a0_1 a0_2 l0_3)) else (impl_EngineOK.j0 k true a0_0 a0_1 a0_2 l0_3))
theorem impl_EngineOK.mono_l : ∀ k, (∀ y0 y1 y2 y3 y4, LeO (impl_EngineOK.j0 k y0 y1 y2 y3 y4) (impl_EngineOK.j0 (k + 1) y0 y1 y2 y3 y4))
 | 0 => fun _ _ _ _ _ r h => by simp [impl_EngineOK.j0] at h
 | k + 1 => by
  have ih0 := impl_EngineOK.mono_l k
  ·intro y0 y1 y2 y3 y4
   unfold impl_EngineOK.j0
   have m0 := @impl_Log_replay.mono
   have m1 := @impl_StoreOK.mono
   have m2 := @impl_sameStore.mono
   exact tM
theorem impl_EngineOK.mono : ∀ a0 a1 a2 a3 k, LeO (impl_EngineOK.f k a0 a1 a2 a3) (impl_EngineOK.f (k + 1) a0 a1 a2 a3) := by
 intro a0 a1 a2 a3 k
 have ih0 := impl_EngineOK.mono_l k
 unfold impl_EngineOK.f
 have m0 := @impl_Log_replay.mono
 have m1 := @impl_StoreOK.mono
 have m2 := @impl_sameStore.mono
 exact tM
set_option maxHeartbeats 40000000 in
set_option maxRecDepth 100000 in
theorem impl_EngineOK.calls (k : Nat) (a0_0 : Int) (a0_1 : ByteArray) (a0_2 : Int) (A0_3 : Option Addr) (c0_3 : Nat) (l0_3 : List (S59)) (r : Bool) (w : World) (hr0_3 : Kd.C k59 w A0_3 l0_3.length l0_3) (hc0_3 : l0_3.length ≤ c0_3) (h : impl_EngineOK.f k a0_0 a0_1 a0_2 l0_3 = some r) :
  Calls Try.prog 7 #[.agg #[.int .i64 a0_0, .string a0_1, .int .i64 a0_2, .slice A0_3 l0_3.length c0_3]] w fun e w' => e = .returned (.bool r) ∧ Below w.heap.size w w' := by
 have hu32 := Try.underlying32
 have hu29 := Try.underlying29
 have HR0_3 := Aside0.mk hr0_3
 have HC0_3 := Aside0.mk hc0_3
 clear hr0_3 hc0_3
 have HB := Aside0.mk (Below.refl w.heap.size w)
 have H : ((impl_LogOK.f a0_0 a0_1 a0_2).bind fun t358 => (if t358 = true then (if a0_2 = (a0_1.size : Int) then ((impl_StoreOK.f k l0_3).bind fun t359 => (impl_EngineOK.j0 k (!t359) a0_0 a0_1 a0_2 l0_3)) else (impl_EngineOK.j0 k true a0_0 a0_1 a0_2 l0_3)) else (impl_EngineOK.j0 k true a0_0 a0_1 a0_2 l0_3))) = some r := h
 clear h
 have HC2 := Aside0.mk H
 clear H
 go_enter Try.func7, Try.ntmps7
 go_upto_region 1 with (first | ((with_reducible refine gate_dst (N := 1) rfl ?_); (try (refine gate_guard (Z102) ?_; dsimp only)); refine bxE 1 #[.int .i64 a0_0, .string a0_1, .int .i64 a0_2, .slice A0_3 l0_3.length c0_3] 32 ?_; intro gb357 hg w3 hbox hb; have BK357 := Aside0.mk (hbox); have GW357 := Aside0.mk ((szE w hg (Z0))); have GE357 := Aside0.mk ((szE w hg (Z0))); replace HB := Aside0.mk (below_step (Z0) hb); clear hb hbox hg))
 (try simp only [Act.put, List.setIfInBounds_toArray, List.set_cons_zero, List.set_cons_succ])
 go_cut [28] (fun v28 wc => ∃ (kq : Nat) (x28_1 : Bool), v28 = .bool x28_1 ∧ Aside0 (impl_EngineOK.j0 kq x28_1 a0_0 a0_1 a0_2 l0_3 = some r) ∧ Aside0 (kq ≤ k) ∧ Aside0 (wc.heap[gb357]? = some (.cells #[.int .i64 a0_0, .string a0_1, .int .i64 a0_2, (.slice A0_3 l0_3.length c0_3)] 32 (0, 0))) ∧ Aside0 (Below w.heap.size w wc))
 case first =>
  have H := HC2.out
  clear HC2
  obtain ⟨t358, A4, H⟩ := bindA H
  try dsimp only at H
  by_cases c5 : t358 = true
  ·subst c5
   replace H := ifT H
   by_cases c6 : a0_2 = (a0_1.size : Int)
   ·rw [if_pos c6] at H
    have c6b0 := beq_iff_eq.mpr c6
    have c6b1 := bne_eq_false_iff_eq.mpr c6
    clear c6
    (first | rw [c6b0] | rw [c6b1] | (simp only [i64_w, i32_w]; rw [c6b0]) | skip)
    obtain ⟨t359, A7, H⟩ := bindA H
    try dsimp only at H
    have H' := Aside0.mk H
    clear H
    obtain ⟨hcz8_0, hcz8_1, hcz8_2, hcz8_3⟩ := bc4 BK357.out
    obtain ⟨hfz8_0, hfz8_1, hfz8_2, hfz8_3⟩ := bf4 BK357.out
    go_wp2_with (first | ((with_reducible refine gate_callee (f := 18) rfl ?_); refine goesL_ (some 11) rfl rfl Try.func18 (Z24) rfl #[.agg #[.int .i64 a0_0, .string a0_1, .int .i64 a0_2]] rfl (Z1) ?_; (with_reducible refine (impl_LogOK.calls a0_0 a0_1 a0_2 true _ A4.out).mono ?_); rintro e w9 ⟨rfl, hb⟩; refine ⟨_, rfl, ?_⟩; replace BK357 := Aside0.mk (kB BK357 (Z57) hb); replace HB := Aside0.mk (below_step (Z23) hb); (try clear hb); obtain ⟨hcz10_0, hcz10_1, hcz10_2, hcz10_3⟩ := bc4 BK357.out; obtain ⟨hfz10_0, hfz10_1, hfz10_2, hfz10_3⟩ := bf4 BK357.out) | (go_at_call 19; (with_reducible refine (impl_StoreOK.calls k _ _ l0_3 t359 _ ?side1 ?side2 A7.out).mono ?_); (case side1 => have h_ := Kd.C_below HR0_3.out HB.out; exact tC); (case side2 => exact HC0_3.out); rintro e w11 ⟨rfl, hb⟩; replace BK357 := Aside0.mk (kB BK357 (Z57) hb); replace HB := Aside0.mk (below_step (Z23) hb); (try clear hb)))
    go_meet
    case rel => exact ⟨_, (!t359), (Z3), H', ⟨Z74⟩, ⟨Z57⟩, ⟨Z23⟩⟩
   ·rw [if_neg c6] at H
    have c6b0 := beq_eq_false_iff_ne.mpr c6
    have c6b1 := bne_iff_ne.mpr c6
    (first | rw [c6b0] | rw [c6b1] | (simp only [i64_w, i32_w]; rw [c6b0]) | skip)
    have H' := Aside0.mk H
    clear H
    obtain ⟨hcz12_0, hcz12_1, hcz12_2, hcz12_3⟩ := bc4 BK357.out
    obtain ⟨hfz12_0, hfz12_1, hfz12_2, hfz12_3⟩ := bf4 BK357.out
    go_wp2_with (first | ((with_reducible refine gate_callee (f := 18) rfl ?_); refine goesL_ (some 11) rfl rfl Try.func18 (Z24) rfl #[.agg #[.int .i64 a0_0, .string a0_1, .int .i64 a0_2]] rfl (Z1) ?_; (with_reducible refine (impl_LogOK.calls a0_0 a0_1 a0_2 true _ A4.out).mono ?_); rintro e w13 ⟨rfl, hb⟩; refine ⟨_, rfl, ?_⟩; replace BK357 := Aside0.mk (kB BK357 (Z57) hb); replace HB := Aside0.mk (below_step (Z23) hb); (try clear hb); obtain ⟨hcz14_0, hcz14_1, hcz14_2, hcz14_3⟩ := bc4 BK357.out; obtain ⟨hfz14_0, hfz14_1, hfz14_2, hfz14_3⟩ := bf4 BK357.out))
    go_meet
    case rel => exact ⟨_, (true), (Z3), H', ⟨Z74⟩, ⟨Z57⟩, ⟨Z23⟩⟩
  ·replace c5 := Bool.eq_false_iff.mpr c5
   subst c5
   replace H := ifF H
   have H' := Aside0.mk H
   clear H
   obtain ⟨hcz15_0, hcz15_1, hcz15_2, hcz15_3⟩ := bc4 BK357.out
   obtain ⟨hfz15_0, hfz15_1, hfz15_2, hfz15_3⟩ := bf4 BK357.out
   go_wp2_with (first | ((with_reducible refine gate_callee (f := 18) rfl ?_); refine goesL_ (some 11) rfl rfl Try.func18 (Z24) rfl #[.agg #[.int .i64 a0_0, .string a0_1, .int .i64 a0_2]] rfl (Z1) ?_; (with_reducible refine (impl_LogOK.calls a0_0 a0_1 a0_2 false _ A4.out).mono ?_); rintro e w16 ⟨rfl, hb⟩; refine ⟨_, rfl, ?_⟩; replace BK357 := Aside0.mk (kB BK357 (Z57) hb); replace HB := Aside0.mk (below_step (Z23) hb); (try clear hb)))
   go_meet
   case rel => exact ⟨_, (true), (Z3), H', ⟨Z74⟩, ⟨Z57⟩, ⟨Z23⟩⟩
 case rest =>
  clear HC2
  obtain ⟨kq, x28_1, rfl, HA, HJ1, BK357, HB⟩ := hcut
  cases kq with
  | zero => exact absurd HA.out (by simp [impl_EngineOK.j0])
  | succ kj1 =>
   have H := HA.out
   clear HA
   simp only [impl_EngineOK.j0] at H
   by_cases c17 : x28_1 = true
   ·subst c17
    replace H := ifT H
    obtain rfl := Option.some.inj H
    go_wp2
    go_ret
    exact ⟨Z2, Z23⟩
   ·replace c17 := Bool.eq_false_iff.mpr c17
    subst c17
    replace H := ifF H
    obtain ⟨⟨t360, t363, t364⟩, A18, H⟩ := bindA H
    try dsimp only at H
    by_cases c19 : t364 = 0
    ·rw [if_pos c19] at H
     have c19b0 := beq_iff_eq.mpr c19
     have c19b1 := bne_eq_false_iff_eq.mpr c19
     clear c19
     obtain ⟨⟨t365, t368, t369⟩, A20, H⟩ := bindA H
     try dsimp only at H
     by_cases c21 : t369 = 0
     ·rw [if_pos c21] at H
      have c21b0 := beq_iff_eq.mpr c21
      have c21b1 := bne_eq_false_iff_eq.mpr c21
      clear c21
      obtain ⟨t370, A22, H⟩ := bindA H
      try dsimp only at H
      obtain rfl := Option.some.inj H
      obtain ⟨hcz23_0, hcz23_1, hcz23_2, hcz23_3⟩ := bc4 BK357.out
      obtain ⟨hfz23_0, hfz23_1, hfz23_2, hfz23_3⟩ := bf4 BK357.out
      go_wp2_with (first | ((with_reducible refine gate_callee (f := 20) rfl ?_); refine goesL_ (some 32) rfl rfl Try.func20 (Z24) rfl #[.agg #[.int .i64 a0_0, .string a0_1, .int .i64 a0_2]] rfl (Z1) ?_; (with_reducible refine (impl_Log_records.calls a0_0 a0_1 a0_2 t360 t363 t364 _ A18.out).mono ?_); rintro e w24 ⟨v361, rfl, ho0, hb⟩; refine ⟨_, rfl, ?_⟩; have HO362 := Aside0.mk (Kd.R_lower ho0 (below_size (Z23))); replace BK357 := Aside0.mk (kB BK357 (Z57) hb); replace HB := Aside0.mk (below_step (Z23) hb); (try clear hb); (try clear ho0); obtain ⟨hcz25_0, hcz25_1, hcz25_2, hcz25_3⟩ := bc4 BK357.out; obtain ⟨hfz25_0, hfz25_1, hfz25_2, hfz25_3⟩ := bf4 BK357.out) | ((with_reducible refine gate_callee (f := 21) rfl ?_); refine goesL_ (some 41) rfl rfl Try.func21 (Z24) rfl #[.agg #[.int .i64 a0_0, .string a0_1, .int .i64 a0_2]] rfl (Z1) ?_; (with_reducible refine (impl_Log_replay.calls kj1 a0_0 a0_1 a0_2 t365 t368 t369 _ A20.out).mono ?_); rintro e w26 ⟨v366, rfl, ho0, hb⟩; refine ⟨_, rfl, ?_⟩; have HO367 := Aside0.mk (Kd.S_lower (Kd.S_new' ho0 (Kd.R_lt (Z107))) (below_size (Z23))); replace HO362 := Aside0.mk (Kd.R_below (Z107) hb); replace BK357 := Aside0.mk (kB BK357 (Z57) hb); replace HB := Aside0.mk (below_step (Z23) hb); (try clear hb); (try clear ho0); obtain ⟨hcz27_0, hcz27_1, hcz27_2, hcz27_3⟩ := bc4 BK357.out; obtain ⟨hfz27_0, hfz27_1, hfz27_2, hfz27_3⟩ := bf4 BK357.out; obtain ⟨Ao28, co28, eo28⟩ := Kd.S_slice HO367.out; subst eo28) | (go_at_call 22; (with_reducible refine (impl_sameStore.calls kj1 _ _ t365 _ _ l0_3 t370 _ ?side1 ?side2 ?side3 ?side4 A22.out).mono ?_); (case side1 => have h_ := (Kd.S_reads' HO367.out).2.2; exact tC); (case side2 => exact (Kd.S_reads' HO367.out).2.1); (case side3 => have h_ := Kd.C_below HR0_3.out HB.out; exact tC); (case side4 => exact HC0_3.out); rintro e w29 ⟨rfl, hb⟩; replace HO362 := Aside0.mk (Kd.R_below (Z107) hb); replace HO367 := Aside0.mk (Kd.S_below (by (with_reducible repeat (first | apply Kd.S_alloc | apply Kd.S_drewN | apply Kd.S_drew)); exact HO367.out) hb); replace BK357 := Aside0.mk (kB BK357 (Z57) hb); replace HB := Aside0.mk (below_step (Z23) hb); (try clear hb)))
      go_ret
      exact ⟨Z2, Z23⟩
     ·rw [if_neg c21] at H
      have c21b0 := beq_eq_false_iff_ne.mpr c21
      have c21b1 := bne_iff_ne.mpr c21
      obtain rfl := Option.some.inj H
      obtain ⟨hcz30_0, hcz30_1, hcz30_2, hcz30_3⟩ := bc4 BK357.out
      obtain ⟨hfz30_0, hfz30_1, hfz30_2, hfz30_3⟩ := bf4 BK357.out
      go_wp2_with (first | ((with_reducible refine gate_callee (f := 20) rfl ?_); refine goesL_ (some 32) rfl rfl Try.func20 (Z24) rfl #[.agg #[.int .i64 a0_0, .string a0_1, .int .i64 a0_2]] rfl (Z1) ?_; (with_reducible refine (impl_Log_records.calls a0_0 a0_1 a0_2 t360 t363 t364 _ A18.out).mono ?_); rintro e w31 ⟨v361, rfl, ho0, hb⟩; refine ⟨_, rfl, ?_⟩; have HO362 := Aside0.mk (Kd.R_lower ho0 (below_size (Z23))); replace BK357 := Aside0.mk (kB BK357 (Z57) hb); replace HB := Aside0.mk (below_step (Z23) hb); (try clear hb); (try clear ho0); obtain ⟨hcz32_0, hcz32_1, hcz32_2, hcz32_3⟩ := bc4 BK357.out; obtain ⟨hfz32_0, hfz32_1, hfz32_2, hfz32_3⟩ := bf4 BK357.out) | ((with_reducible refine gate_callee (f := 21) rfl ?_); refine goesL_ (some 41) rfl rfl Try.func21 (Z24) rfl #[.agg #[.int .i64 a0_0, .string a0_1, .int .i64 a0_2]] rfl (Z1) ?_; (with_reducible refine (impl_Log_replay.calls kj1 a0_0 a0_1 a0_2 t365 t368 t369 _ A20.out).mono ?_); rintro e w33 ⟨v366, rfl, ho0, hb⟩; refine ⟨_, rfl, ?_⟩; have HO367 := Aside0.mk (Kd.S_lower (Kd.S_new' ho0 (Kd.R_lt (Z107))) (below_size (Z23))); replace HO362 := Aside0.mk (Kd.R_below (Z107) hb); replace BK357 := Aside0.mk (kB BK357 (Z57) hb); replace HB := Aside0.mk (below_step (Z23) hb); (try clear hb); (try clear ho0)))
      go_ret
      exact ⟨Z2, Z23⟩
    ·rw [if_neg c19] at H
     have c19b0 := beq_eq_false_iff_ne.mpr c19
     have c19b1 := bne_iff_ne.mpr c19
     obtain rfl := Option.some.inj H
     obtain ⟨hcz34_0, hcz34_1, hcz34_2, hcz34_3⟩ := bc4 BK357.out
     obtain ⟨hfz34_0, hfz34_1, hfz34_2, hfz34_3⟩ := bf4 BK357.out
     go_wp2_with (first | ((with_reducible refine gate_callee (f := 20) rfl ?_); refine goesL_ (some 32) rfl rfl Try.func20 (Z24) rfl #[.agg #[.int .i64 a0_0, .string a0_1, .int .i64 a0_2]] rfl (Z1) ?_; (with_reducible refine (impl_Log_records.calls a0_0 a0_1 a0_2 t360 t363 t364 _ A18.out).mono ?_); rintro e w35 ⟨v361, rfl, ho0, hb⟩; refine ⟨_, rfl, ?_⟩; have HO362 := Aside0.mk (Kd.R_lower ho0 (below_size (Z23))); replace BK357 := Aside0.mk (kB BK357 (Z57) hb); replace HB := Aside0.mk (below_step (Z23) hb); (try clear hb); (try clear ho0)))
     go_ret
     exact ⟨Z2, Z23⟩

/-! ### laws_eqLog: function 23 -/
def laws_eqLog.f (a0_0 : Int) (a0_1 : ByteArray) (a0_2 : Int) (a1_0 : Int) (a1_1 : ByteArray) (a1_2 : Int) : Option (Bool) := if a0_0 = a1_0 then (if a0_1.toList = a1_1.toList then (if a0_2 = a1_2 then (some true) else (some false)) else (some false)) else (some false)
set_option maxHeartbeats 40000000 in
set_option maxRecDepth 100000 in
theorem laws_eqLog.calls (a0_0 : Int) (a0_1 : ByteArray) (a0_2 : Int) (a1_0 : Int) (a1_1 : ByteArray) (a1_2 : Int) (r : Bool) (w : World) (h : laws_eqLog.f a0_0 a0_1 a0_2 a1_0 a1_1 a1_2 = some r) :
  Calls Try.prog 23 #[.agg #[.int .i64 a0_0, .string a0_1, .int .i64 a0_2], .agg #[.int .i64 a1_0, .string a1_1, .int .i64 a1_2]] w fun e w' => e = .returned (.bool r) ∧ Below w.heap.size w w' := by
 have hu29 := Try.underlying29
 have HB := Aside0.mk (Below.refl w.heap.size w)
 have H : (if a0_0 = a1_0 then (if a0_1.toList = a1_1.toList then (if a0_2 = a1_2 then (some true) else (some false)) else (some false)) else (some false)) = some r := h
 clear h
 by_cases c3 : a0_0 = a1_0
 ·rw [if_pos c3] at H
  have c3b0 := beq_iff_eq.mpr c3
  have c3b1 := bne_eq_false_iff_eq.mpr c3
  clear c3
  by_cases c4 : a0_1.toList = a1_1.toList
  ·rw [if_pos c4] at H
   have c4b0 := beq_iff_eq.mpr c4
   have c4b1 := bne_eq_false_iff_eq.mpr c4
   clear c4
   by_cases c5 : a0_2 = a1_2
   ·rw [if_pos c5] at H
    have c5b0 := beq_iff_eq.mpr c5
    have c5b1 := bne_eq_false_iff_eq.mpr c5
    clear c5
    obtain rfl := Option.some.inj H
    go_enter Try.func23, Try.ntmps23
    go_wp2_with (first | ((with_reducible refine gate_dst (N := 2) rfl ?_); refine bxE 2 #[.int .i64 a0_0, .string a0_1, .int .i64 a0_2] 29 ?_; intro gb371 hg w6 hbox hb; have BK371 := Aside0.mk (hbox); have GW371 := Aside0.mk ((szE w hg (Z0))); have GE371 := Aside0.mk ((szE w hg (Z0))); replace HB := Aside0.mk (below_step (Z0) hb); clear hb hbox hg) | ((with_reducible refine gate_dst (N := 3) rfl ?_); refine bxE 3 #[.int .i64 a1_0, .string a1_1, .int .i64 a1_2] 29 ?_; intro gb372 hg w7 hbox hb; have BK372 := Aside0.mk (hbox); have GW372 := Aside0.mk ((szE w hg (Z40))); have GE372 := Aside0.mk ((szE w hg (Z40))); replace HB := Aside0.mk (below_step (Z40) hb); have NB371_372 := Aside0.mk ((nL BK371 hg (Z61))); have NB372_371 := Aside0.mk ((nG BK371 hg (Z61))); replace BK371 := Aside0.mk (kB BK371 (Z61) hb); clear hb hbox hg; have hnb8 := NB371_372.out; have hnc8 := NB372_371.out; obtain ⟨hcz9_0, hcz9_1, hcz9_2⟩ := bc3 BK371.out; obtain ⟨hfz9_0, hfz9_1, hfz9_2⟩ := bf3 BK371.out; obtain ⟨hcz10_0, hcz10_1, hcz10_2⟩ := bc3 BK372.out; obtain ⟨hfz10_0, hfz10_1, hfz10_2⟩ := bf3 BK372.out))
    go_ret
    exact ⟨Z2, Z81⟩
   ·rw [if_neg c5] at H
    have c5b0 := beq_eq_false_iff_ne.mpr c5
    have c5b1 := bne_iff_ne.mpr c5
    obtain rfl := Option.some.inj H
    go_enter Try.func23, Try.ntmps23
    go_wp2_with (first | ((with_reducible refine gate_dst (N := 2) rfl ?_); refine bxE 2 #[.int .i64 a0_0, .string a0_1, .int .i64 a0_2] 29 ?_; intro gb371 hg w11 hbox hb; have BK371 := Aside0.mk (hbox); have GW371 := Aside0.mk ((szE w hg (Z0))); have GE371 := Aside0.mk ((szE w hg (Z0))); replace HB := Aside0.mk (below_step (Z0) hb); clear hb hbox hg) | ((with_reducible refine gate_dst (N := 3) rfl ?_); refine bxE 3 #[.int .i64 a1_0, .string a1_1, .int .i64 a1_2] 29 ?_; intro gb372 hg w12 hbox hb; have BK372 := Aside0.mk (hbox); have GW372 := Aside0.mk ((szE w hg (Z40))); have GE372 := Aside0.mk ((szE w hg (Z40))); replace HB := Aside0.mk (below_step (Z40) hb); have NB371_372 := Aside0.mk ((nL BK371 hg (Z61))); have NB372_371 := Aside0.mk ((nG BK371 hg (Z61))); replace BK371 := Aside0.mk (kB BK371 (Z61) hb); clear hb hbox hg; have hnb13 := NB371_372.out; have hnc13 := NB372_371.out; obtain ⟨hcz14_0, hcz14_1, hcz14_2⟩ := bc3 BK371.out; obtain ⟨hfz14_0, hfz14_1, hfz14_2⟩ := bf3 BK371.out; obtain ⟨hcz15_0, hcz15_1, hcz15_2⟩ := bc3 BK372.out; obtain ⟨hfz15_0, hfz15_1, hfz15_2⟩ := bf3 BK372.out))
    go_ret
    exact ⟨Z2, Z81⟩
  ·rw [if_neg c4] at H
   have c4b0 := beq_eq_false_iff_ne.mpr c4
   have c4b1 := bne_iff_ne.mpr c4
   obtain rfl := Option.some.inj H
   go_enter Try.func23, Try.ntmps23
   go_wp2_with (first | ((with_reducible refine gate_dst (N := 2) rfl ?_); refine bxE 2 #[.int .i64 a0_0, .string a0_1, .int .i64 a0_2] 29 ?_; intro gb371 hg w16 hbox hb; have BK371 := Aside0.mk (hbox); have GW371 := Aside0.mk ((szE w hg (Z0))); have GE371 := Aside0.mk ((szE w hg (Z0))); replace HB := Aside0.mk (below_step (Z0) hb); clear hb hbox hg) | ((with_reducible refine gate_dst (N := 3) rfl ?_); refine bxE 3 #[.int .i64 a1_0, .string a1_1, .int .i64 a1_2] 29 ?_; intro gb372 hg w17 hbox hb; have BK372 := Aside0.mk (hbox); have GW372 := Aside0.mk ((szE w hg (Z40))); have GE372 := Aside0.mk ((szE w hg (Z40))); replace HB := Aside0.mk (below_step (Z40) hb); have NB371_372 := Aside0.mk ((nL BK371 hg (Z61))); have NB372_371 := Aside0.mk ((nG BK371 hg (Z61))); replace BK371 := Aside0.mk (kB BK371 (Z61) hb); clear hb hbox hg; have hnb18 := NB371_372.out; have hnc18 := NB372_371.out; obtain ⟨hcz19_0, hcz19_1, hcz19_2⟩ := bc3 BK371.out; obtain ⟨hfz19_0, hfz19_1, hfz19_2⟩ := bf3 BK371.out; obtain ⟨hcz20_0, hcz20_1, hcz20_2⟩ := bc3 BK372.out; obtain ⟨hfz20_0, hfz20_1, hfz20_2⟩ := bf3 BK372.out))
   go_ret
   exact ⟨Z2, Z81⟩
 ·rw [if_neg c3] at H
  have c3b0 := beq_eq_false_iff_ne.mpr c3
  have c3b1 := bne_iff_ne.mpr c3
  obtain rfl := Option.some.inj H
  go_enter Try.func23, Try.ntmps23
  go_wp2_with (first | ((with_reducible refine gate_dst (N := 2) rfl ?_); refine bxE 2 #[.int .i64 a0_0, .string a0_1, .int .i64 a0_2] 29 ?_; intro gb371 hg w21 hbox hb; have BK371 := Aside0.mk (hbox); have GW371 := Aside0.mk ((szE w hg (Z0))); have GE371 := Aside0.mk ((szE w hg (Z0))); replace HB := Aside0.mk (below_step (Z0) hb); clear hb hbox hg) | ((with_reducible refine gate_dst (N := 3) rfl ?_); refine bxE 3 #[.int .i64 a1_0, .string a1_1, .int .i64 a1_2] 29 ?_; intro gb372 hg w22 hbox hb; have BK372 := Aside0.mk (hbox); have GW372 := Aside0.mk ((szE w hg (Z40))); have GE372 := Aside0.mk ((szE w hg (Z40))); replace HB := Aside0.mk (below_step (Z40) hb); have NB371_372 := Aside0.mk ((nL BK371 hg (Z61))); have NB372_371 := Aside0.mk ((nG BK371 hg (Z61))); replace BK371 := Aside0.mk (kB BK371 (Z61) hb); clear hb hbox hg; have hnb23 := NB371_372.out; have hnc23 := NB372_371.out; obtain ⟨hcz24_0, hcz24_1, hcz24_2⟩ := bc3 BK371.out; obtain ⟨hfz24_0, hfz24_1, hfz24_2⟩ := bf3 BK371.out; obtain ⟨hcz25_0, hcz25_1, hcz25_2⟩ := bc3 BK372.out; obtain ⟨hfz25_0, hfz25_1, hfz25_2⟩ := bf3 BK372.out))
  go_ret
  exact ⟨Z2, Z81⟩

/-! ### laws_eqStored: function 89 -/
def laws_eqStored.f (a0_0 : Int) (a0_1 : Int) (a0_2 : ByteArray) (a1_0 : Int) (a1_1 : Int) (a1_2 : ByteArray) : Option (Bool) := if a0_0 = a1_0 then (if a0_1 = a1_1 then (if a0_2.toList = a1_2.toList then (some true) else (some false)) else (some false)) else (some false)
set_option maxHeartbeats 40000000 in
set_option maxRecDepth 100000 in
theorem laws_eqStored.calls (a0_0 : Int) (a0_1 : Int) (a0_2 : ByteArray) (a1_0 : Int) (a1_1 : Int) (a1_2 : ByteArray) (r : Bool) (w : World) (h : laws_eqStored.f a0_0 a0_1 a0_2 a1_0 a1_1 a1_2 = some r) :
  Calls Try.prog 89 #[.agg #[.int .i64 a0_0, .int .i64 a0_1, .string a0_2], .agg #[.int .i64 a1_0, .int .i64 a1_1, .string a1_2]] w fun e w' => e = .returned (.bool r) ∧ Below w.heap.size w w' := by
 have hu71 := Try.underlying71
 have HB := Aside0.mk (Below.refl w.heap.size w)
 have H : (if a0_0 = a1_0 then (if a0_1 = a1_1 then (if a0_2.toList = a1_2.toList then (some true) else (some false)) else (some false)) else (some false)) = some r := h
 clear h
 by_cases c3 : a0_0 = a1_0
 ·rw [if_pos c3] at H
  have c3b0 := beq_iff_eq.mpr c3
  have c3b1 := bne_eq_false_iff_eq.mpr c3
  clear c3
  by_cases c4 : a0_1 = a1_1
  ·rw [if_pos c4] at H
   have c4b0 := beq_iff_eq.mpr c4
   have c4b1 := bne_eq_false_iff_eq.mpr c4
   clear c4
   by_cases c5 : a0_2.toList = a1_2.toList
   ·rw [if_pos c5] at H
    have c5b0 := beq_iff_eq.mpr c5
    have c5b1 := bne_eq_false_iff_eq.mpr c5
    clear c5
    obtain rfl := Option.some.inj H
    go_enter Try.func89, Try.ntmps89
    go_wp2_with (first | ((with_reducible refine gate_dst (N := 2) rfl ?_); refine bxE 2 #[.int .i64 a0_0, .int .i64 a0_1, .string a0_2] 71 ?_; intro gb373 hg w6 hbox hb; have BK373 := Aside0.mk (hbox); have GW373 := Aside0.mk ((szE w hg (Z0))); have GE373 := Aside0.mk ((szE w hg (Z0))); replace HB := Aside0.mk (below_step (Z0) hb); clear hb hbox hg) | ((with_reducible refine gate_dst (N := 3) rfl ?_); refine bxE 3 #[.int .i64 a1_0, .int .i64 a1_1, .string a1_2] 71 ?_; intro gb374 hg w7 hbox hb; have BK374 := Aside0.mk (hbox); have GW374 := Aside0.mk ((szE w hg (Z41))); have GE374 := Aside0.mk ((szE w hg (Z41))); replace HB := Aside0.mk (below_step (Z41) hb); have NB373_374 := Aside0.mk ((nL BK373 hg (Z62))); have NB374_373 := Aside0.mk ((nG BK373 hg (Z62))); replace BK373 := Aside0.mk (kB BK373 (Z62) hb); clear hb hbox hg; have hnb8 := NB373_374.out; have hnc8 := NB374_373.out; obtain ⟨hcz9_0, hcz9_1, hcz9_2⟩ := bc3 BK373.out; obtain ⟨hfz9_0, hfz9_1, hfz9_2⟩ := bf3 BK373.out; obtain ⟨hcz10_0, hcz10_1, hcz10_2⟩ := bc3 BK374.out; obtain ⟨hfz10_0, hfz10_1, hfz10_2⟩ := bf3 BK374.out))
    go_ret
    exact ⟨Z2, Z82⟩
   ·rw [if_neg c5] at H
    have c5b0 := beq_eq_false_iff_ne.mpr c5
    have c5b1 := bne_iff_ne.mpr c5
    obtain rfl := Option.some.inj H
    go_enter Try.func89, Try.ntmps89
    go_wp2_with (first | ((with_reducible refine gate_dst (N := 2) rfl ?_); refine bxE 2 #[.int .i64 a0_0, .int .i64 a0_1, .string a0_2] 71 ?_; intro gb373 hg w11 hbox hb; have BK373 := Aside0.mk (hbox); have GW373 := Aside0.mk ((szE w hg (Z0))); have GE373 := Aside0.mk ((szE w hg (Z0))); replace HB := Aside0.mk (below_step (Z0) hb); clear hb hbox hg) | ((with_reducible refine gate_dst (N := 3) rfl ?_); refine bxE 3 #[.int .i64 a1_0, .int .i64 a1_1, .string a1_2] 71 ?_; intro gb374 hg w12 hbox hb; have BK374 := Aside0.mk (hbox); have GW374 := Aside0.mk ((szE w hg (Z41))); have GE374 := Aside0.mk ((szE w hg (Z41))); replace HB := Aside0.mk (below_step (Z41) hb); have NB373_374 := Aside0.mk ((nL BK373 hg (Z62))); have NB374_373 := Aside0.mk ((nG BK373 hg (Z62))); replace BK373 := Aside0.mk (kB BK373 (Z62) hb); clear hb hbox hg; have hnb13 := NB373_374.out; have hnc13 := NB374_373.out; obtain ⟨hcz14_0, hcz14_1, hcz14_2⟩ := bc3 BK373.out; obtain ⟨hfz14_0, hfz14_1, hfz14_2⟩ := bf3 BK373.out; obtain ⟨hcz15_0, hcz15_1, hcz15_2⟩ := bc3 BK374.out; obtain ⟨hfz15_0, hfz15_1, hfz15_2⟩ := bf3 BK374.out))
    go_ret
    exact ⟨Z2, Z82⟩
  ·rw [if_neg c4] at H
   have c4b0 := beq_eq_false_iff_ne.mpr c4
   have c4b1 := bne_iff_ne.mpr c4
   obtain rfl := Option.some.inj H
   go_enter Try.func89, Try.ntmps89
   go_wp2_with (first | ((with_reducible refine gate_dst (N := 2) rfl ?_); refine bxE 2 #[.int .i64 a0_0, .int .i64 a0_1, .string a0_2] 71 ?_; intro gb373 hg w16 hbox hb; have BK373 := Aside0.mk (hbox); have GW373 := Aside0.mk ((szE w hg (Z0))); have GE373 := Aside0.mk ((szE w hg (Z0))); replace HB := Aside0.mk (below_step (Z0) hb); clear hb hbox hg) | ((with_reducible refine gate_dst (N := 3) rfl ?_); refine bxE 3 #[.int .i64 a1_0, .int .i64 a1_1, .string a1_2] 71 ?_; intro gb374 hg w17 hbox hb; have BK374 := Aside0.mk (hbox); have GW374 := Aside0.mk ((szE w hg (Z41))); have GE374 := Aside0.mk ((szE w hg (Z41))); replace HB := Aside0.mk (below_step (Z41) hb); have NB373_374 := Aside0.mk ((nL BK373 hg (Z62))); have NB374_373 := Aside0.mk ((nG BK373 hg (Z62))); replace BK373 := Aside0.mk (kB BK373 (Z62) hb); clear hb hbox hg; have hnb18 := NB373_374.out; have hnc18 := NB374_373.out; obtain ⟨hcz19_0, hcz19_1, hcz19_2⟩ := bc3 BK373.out; obtain ⟨hfz19_0, hfz19_1, hfz19_2⟩ := bf3 BK373.out; obtain ⟨hcz20_0, hcz20_1, hcz20_2⟩ := bc3 BK374.out; obtain ⟨hfz20_0, hfz20_1, hfz20_2⟩ := bf3 BK374.out))
   go_ret
   exact ⟨Z2, Z82⟩
 ·rw [if_neg c3] at H
  have c3b0 := beq_eq_false_iff_ne.mpr c3
  have c3b1 := bne_iff_ne.mpr c3
  obtain rfl := Option.some.inj H
  go_enter Try.func89, Try.ntmps89
  go_wp2_with (first | ((with_reducible refine gate_dst (N := 2) rfl ?_); refine bxE 2 #[.int .i64 a0_0, .int .i64 a0_1, .string a0_2] 71 ?_; intro gb373 hg w21 hbox hb; have BK373 := Aside0.mk (hbox); have GW373 := Aside0.mk ((szE w hg (Z0))); have GE373 := Aside0.mk ((szE w hg (Z0))); replace HB := Aside0.mk (below_step (Z0) hb); clear hb hbox hg) | ((with_reducible refine gate_dst (N := 3) rfl ?_); refine bxE 3 #[.int .i64 a1_0, .int .i64 a1_1, .string a1_2] 71 ?_; intro gb374 hg w22 hbox hb; have BK374 := Aside0.mk (hbox); have GW374 := Aside0.mk ((szE w hg (Z41))); have GE374 := Aside0.mk ((szE w hg (Z41))); replace HB := Aside0.mk (below_step (Z41) hb); have NB373_374 := Aside0.mk ((nL BK373 hg (Z62))); have NB374_373 := Aside0.mk ((nG BK373 hg (Z62))); replace BK373 := Aside0.mk (kB BK373 (Z62) hb); clear hb hbox hg; have hnb23 := NB373_374.out; have hnc23 := NB374_373.out; obtain ⟨hcz24_0, hcz24_1, hcz24_2⟩ := bc3 BK373.out; obtain ⟨hfz24_0, hfz24_1, hfz24_2⟩ := bf3 BK373.out; obtain ⟨hcz25_0, hcz25_1, hcz25_2⟩ := bc3 BK374.out; obtain ⟨hfz25_0, hfz25_1, hfz25_2⟩ := bf3 BK374.out))
  go_ret
  exact ⟨Z2, Z82⟩

/-! ### laws_eqStoredS: function 74 -/
def laws_eqStoredS.l0 : Nat → List (S71) → List (S71) → Int → Option (Bool)
 | 0, _, _, _ => none
 | k + 1, x0, x1, x5 => if x5 < (x0.length : Int) then (if 0 ≤ x5 then (if x5 < (x1.length : Int) then ((laws_eqStored.f ((rd_T71 x0 x5).f0) ((rd_T71 x0 x5).f1) ((rd_T71 x0 x5).f2) ((rd_T71 x1 x5).f0) ((rd_T71 x1 x5).f1) ((rd_T71 x1 x5).f2)).bind fun t377 => (if t377 = true then (laws_eqStoredS.l0 k x0 x1 (wrap64 (x5 + 1))) else (some false))) else (none)) else (none)) else (some true)
def laws_eqStoredS.f (k : Nat) (l0 : List (S71)) (l1 : List (S71)) : Option (Bool) := if (l0.length : Int) = (l1.length : Int) then (laws_eqStoredS.l0 k l0 l1 0) else (some false)
theorem laws_eqStoredS.mono_l : ∀ k, (∀ y0 y1 y2, LeO (laws_eqStoredS.l0 k y0 y1 y2) (laws_eqStoredS.l0 (k + 1) y0 y1 y2))
 | 0 => fun _ _ _ r h => by simp [laws_eqStoredS.l0] at h
 | k + 1 => by
  have ih0 := laws_eqStoredS.mono_l k
  ·intro y0 y1 y2
   unfold laws_eqStoredS.l0
   exact tM
theorem laws_eqStoredS.mono : ∀ a0 a1 k, LeO (laws_eqStoredS.f k a0 a1) (laws_eqStoredS.f (k + 1) a0 a1) := by
 intro a0 a1 k
 have ih0 := laws_eqStoredS.mono_l k
 unfold laws_eqStoredS.f
 exact tM
def laws_eqStoredS.T6 : Bool × List (List Nat × List Nat) := (true, [([], []), ([], []), ([0, 1], [0, 1]), ([2], [2]), ([], []), ([], []), ([4, 5], [4, 5]), ([6], [6]), ([3, 7], [3, 7]), ([8], [8])])
def laws_eqStoredS.B6 : List Nat := [0, 0, 3, 7, 0, 0, 48, 112, 255, 511]
theorem laws_eqStoredS.tab6 : rtab .any (opsOf Try.f74 6) = laws_eqStoredS.T6 := by kernel_rfl
theorem laws_eqStoredS.bits6 : waitsOk laws_eqStoredS.T6.2 laws_eqStoredS.B6 = true := by kernel_rfl
set_option maxHeartbeats 40000000 in
set_option maxRecDepth 100000 in
theorem laws_eqStoredS.calls (k : Nat) (A0 : Option Addr) (c0 : Nat) (l0 : List (S71)) (A1 : Option Addr) (c1 : Nat) (l1 : List (S71)) (r : Bool) (w : World) (hr0 : Kd.C k71 w A0 l0.length l0) (hc0 : l0.length ≤ c0) (hr1 : Kd.C k71 w A1 l1.length l1) (hc1 : l1.length ≤ c1) (h : laws_eqStoredS.f k l0 l1 = some r) :
  Calls Try.prog 74 #[.slice A0 l0.length c0, .slice A1 l1.length c1] w fun e w' => e = .returned (.bool r) ∧ Below w.heap.size w w' := by
 have hu71 := Try.underlying71
 have HR0 := Aside0.mk hr0
 have HC0 := Aside0.mk hc0
 clear hr0 hc0
 have HR1 := Aside0.mk hr1
 have HC1 := Aside0.mk hc1
 clear hr1 hc1
 have HB := Aside0.mk (Below.refl w.heap.size w)
 have H : (if (l0.length : Int) = (l1.length : Int) then (laws_eqStoredS.l0 k l0 l1 0) else (some false)) = some r := h
 clear h
 by_cases c3 : (l0.length : Int) = (l1.length : Int)
 ·rw [if_pos c3] at H
  have c3b0 := beq_iff_eq.mpr c3
  have c3b1 := bne_eq_false_iff_eq.mpr c3
  have c3b2 : (l0.length == l1.length) = true := by first | simpa using c3 | (simp at c3 ⊢; omega)
  clear c3
  have H' := Aside0.mk H
  clear H
  go_enter Try.func74, Try.ntmps74
  go_wp2
  go_loopg [5] k (fun kq v5 w' => ∃ (x5_1 : Int), v5 = .int .i64 x5_1 ∧ Aside0 (laws_eqStoredS.l0 kq l0 l1 x5_1 = some r) ∧ Aside0 (kq ≤ k) ∧ Aside0 (Below w.heap.size w w'))
  case atStart => exact ⟨(0), (Z3), H', ⟨Nat.le_refl _⟩, ⟨Z0⟩⟩
  case round =>
   clear H'
   (try clear c1); (try clear c3); (try clear c3b0); (try clear c3b1); (try clear c3b2)
   obtain ⟨x5_1, rfl, HA, HK1, HB⟩ := hrel
   cases gk with
   | zero => exact absurd HA.out (by simp [laws_eqStoredS.l0])
   | succ k1 =>
    have H := HA.out
    clear HA
    simp only [laws_eqStoredS.l0] at H
    by_cases c4 : x5_1 < (l0.length : Int)
    ·rw [if_pos c4] at H
     have c4b0 := decide_eq_true c4
     clear c4
     obtain ⟨c5, H⟩ := ifS H
     have c5b0 : decide (0 ≤ x5_1) = true := decide_eq_true c5
     clear c5
     obtain ⟨c6, H⟩ := ifS H
     have c6b0 : decide (x5_1 < (l1.length : Int)) = true := decide_eq_true c6
     clear c6
     obtain ⟨t377, A7, H⟩ := bindA H
     try dsimp only at H
     by_cases c8 : t377 = true
     ·subst c8
      replace H := ifT H
      have H' := Aside0.mk H
      clear H
      try go_wp2
      replace HB := Aside0.mk (below_drew1 HB.out)
      have p375 : 0 ≤ (x5_1 : Int) := of_decide_eq_true (Z4)
      have q375 : x5_1 < (l0.length : Int) := of_decide_eq_true (Z4)
      obtain ⟨ad375, e375, hx375_0, hx375_1, hx375_2⟩ := at_T71 HR0.out x5_1 p375 q375
      have hw375_2 := hx375_2
      have hw375_1 := hx375_1
      have hw375_0 := hx375_0
      cases e375
      replace hx375_0 := cB HB.out hx375_0
      replace hx375_1 := cB HB.out hx375_1
      replace hx375_2 := cB HB.out hx375_2
      replace p375 := eq_true p375
      replace q375 := eq_true q375
      have p376 : 0 ≤ (x5_1 : Int) := of_decide_eq_true (Z4)
      have q376 : x5_1 < (l1.length : Int) := of_decide_eq_true (Z4)
      obtain ⟨ad376, e376, hx376_0, hx376_1, hx376_2⟩ := at_T71 HR1.out x5_1 p376 q376
      have hw376_2 := hx376_2
      have hw376_1 := hx376_1
      have hw376_0 := hx376_0
      cases e376
      replace hx376_0 := cB HB.out hx376_0
      replace hx376_1 := cB HB.out hx376_1
      replace hx376_2 := cB HB.out hx376_2
      replace p376 := eq_true p376
      replace q376 := eq_true q376
      refine start_ (n := 10) (S := fun w' => w'.cell? (ad375.add ((x5_1).toNat * 3)) = some (.int .i64 ((rd_T71 l0 x5_1).f0)) ∧ w'.cell? ⟨(ad375.add ((x5_1).toNat * 3)).block, (ad375.add ((x5_1).toNat * 3)).off + 1, none⟩ = some (.int .i64 ((rd_T71 l0 x5_1).f1)) ∧ w'.cell? ⟨(ad375.add ((x5_1).toNat * 3)).block, (ad375.add ((x5_1).toNat * 3)).off + 2, none⟩ = some (.string ((rd_T71 l0 x5_1).f2)) ∧ w'.cell? (ad376.add ((x5_1).toNat * 3)) = some (.int .i64 ((rd_T71 l1 x5_1).f0)) ∧ w'.cell? ⟨(ad376.add ((x5_1).toNat * 3)).block, (ad376.add ((x5_1).toNat * 3)).off + 1, none⟩ = some (.int .i64 ((rd_T71 l1 x5_1).f1)) ∧ w'.cell? ⟨(ad376.add ((x5_1).toNat * 3)).block, (ad376.add ((x5_1).toNat * 3)).off + 2, none⟩ = some (.string ((rd_T71 l1 x5_1).f2))) (ds := []) #[false, false, false, false, false, false, false, false, false, false] (Z24) rfl rfl ⟨(cB HB.out hw375_0 :), ⟨(cB HB.out hw375_1 :), ⟨(cB HB.out hw375_2 :), ⟨(cB HB.out hw376_0 :), ⟨(cB HB.out hw376_1 :), (cB HB.out hw376_2 :)⟩⟩⟩⟩⟩ (fun hHeld => ?_); refine with_tabW laws_eqStoredS.tab6 laws_eqStoredS.bits6 (fun HT_ HW_ => ?_)
      generalize wr.drew = w9 at HB hx375_0 hx375_1 hx375_2 hx376_0 hx376_1 hx376_2 hHeld ⊢
      refine pA 0 17 ?_
      refine pA 1 18 ?_
      refine pA 2 19 ?_
      refine pA 4 21 ?_
      refine pA 5 22 ?_
      refine pA 6 23 ?_
      refine tA 3 20 ?_
      refine tA 7 24 ?_
      refine oA 8 25 (fun K hK => ?_)
      refine goes_ Try.func89 (Z24) rfl #[.agg #[.int .i64 ((rd_T71 l0 x5_1).f0), .int .i64 ((rd_T71 l0 x5_1).f1), .string ((rd_T71 l0 x5_1).f2)], .agg #[.int .i64 ((rd_T71 l1 x5_1).f0), .int .i64 ((rd_T71 l1 x5_1).f1), .string ((rd_T71 l1 x5_1).f2)]] (Z102) rfl rfl (Z1) ?_
      with_reducible refine (laws_eqStored.calls ((rd_T71 l0 x5_1).f0) ((rd_T71 l0 x5_1).f1) ((rd_T71 l0 x5_1).f2) ((rd_T71 l1 x5_1).f0) ((rd_T71 l1 x5_1).f1) ((rd_T71 l1 x5_1).f2) true _ A7.out).mono ?_
      rintro e w10 ⟨rfl, hb⟩
      refine ⟨_, rfl, ?_⟩
      replace HB := Aside0.mk (below_step (Z0) hb)
      (try clear hb)
      refine hK.out _ _ ⟨(cB HB.out hw375_0 :), ⟨(cB HB.out hw375_1 :), ⟨(cB HB.out hw375_2 :), ⟨(cB HB.out hw376_0 :), ⟨(cB HB.out hw376_1 :), (cB HB.out hw376_2 :)⟩⟩⟩⟩⟩ (fun hHeld => ?_)
      clear hK K
      refine nB 25 ?_
      refine pA 9 26 ?_
      refine done_ (done_of HT_.out (Z24)) ?_
      try go_wp2
      go_roundg k1
      case measure => have := HK1.out; omega
      case rel => exact ⟨(wrap64 (x5_1 + 1)), (Z3), H', ⟨Z110⟩, ⟨Z0⟩⟩
     ·replace c8 := Bool.eq_false_iff.mpr c8
      subst c8
      replace H := ifF H
      obtain rfl := Option.some.inj H
      try go_wp2
      replace HB := Aside0.mk (below_drew1 HB.out)
      have p375 : 0 ≤ (x5_1 : Int) := of_decide_eq_true (Z4)
      have q375 : x5_1 < (l0.length : Int) := of_decide_eq_true (Z4)
      obtain ⟨ad375, e375, hx375_0, hx375_1, hx375_2⟩ := at_T71 HR0.out x5_1 p375 q375
      have hw375_2 := hx375_2
      have hw375_1 := hx375_1
      have hw375_0 := hx375_0
      cases e375
      replace hx375_0 := cB HB.out hx375_0
      replace hx375_1 := cB HB.out hx375_1
      replace hx375_2 := cB HB.out hx375_2
      replace p375 := eq_true p375
      replace q375 := eq_true q375
      have p376 : 0 ≤ (x5_1 : Int) := of_decide_eq_true (Z4)
      have q376 : x5_1 < (l1.length : Int) := of_decide_eq_true (Z4)
      obtain ⟨ad376, e376, hx376_0, hx376_1, hx376_2⟩ := at_T71 HR1.out x5_1 p376 q376
      have hw376_2 := hx376_2
      have hw376_1 := hx376_1
      have hw376_0 := hx376_0
      cases e376
      replace hx376_0 := cB HB.out hx376_0
      replace hx376_1 := cB HB.out hx376_1
      replace hx376_2 := cB HB.out hx376_2
      replace p376 := eq_true p376
      replace q376 := eq_true q376
      refine start_ (n := 10) (S := fun w' => w'.cell? (ad375.add ((x5_1).toNat * 3)) = some (.int .i64 ((rd_T71 l0 x5_1).f0)) ∧ w'.cell? ⟨(ad375.add ((x5_1).toNat * 3)).block, (ad375.add ((x5_1).toNat * 3)).off + 1, none⟩ = some (.int .i64 ((rd_T71 l0 x5_1).f1)) ∧ w'.cell? ⟨(ad375.add ((x5_1).toNat * 3)).block, (ad375.add ((x5_1).toNat * 3)).off + 2, none⟩ = some (.string ((rd_T71 l0 x5_1).f2)) ∧ w'.cell? (ad376.add ((x5_1).toNat * 3)) = some (.int .i64 ((rd_T71 l1 x5_1).f0)) ∧ w'.cell? ⟨(ad376.add ((x5_1).toNat * 3)).block, (ad376.add ((x5_1).toNat * 3)).off + 1, none⟩ = some (.int .i64 ((rd_T71 l1 x5_1).f1)) ∧ w'.cell? ⟨(ad376.add ((x5_1).toNat * 3)).block, (ad376.add ((x5_1).toNat * 3)).off + 2, none⟩ = some (.string ((rd_T71 l1 x5_1).f2))) (ds := []) #[false, false, false, false, false, false, false, false, false, false] (Z24) rfl rfl ⟨(cB HB.out hw375_0 :), ⟨(cB HB.out hw375_1 :), ⟨(cB HB.out hw375_2 :), ⟨(cB HB.out hw376_0 :), ⟨(cB HB.out hw376_1 :), (cB HB.out hw376_2 :)⟩⟩⟩⟩⟩ (fun hHeld => ?_); refine with_tabW laws_eqStoredS.tab6 laws_eqStoredS.bits6 (fun HT_ HW_ => ?_)
      generalize wr.drew = w11 at HB hx375_0 hx375_1 hx375_2 hx376_0 hx376_1 hx376_2 hHeld ⊢
      refine pA 0 17 ?_
      refine pA 1 18 ?_
      refine pA 2 19 ?_
      refine pA 4 21 ?_
      refine pA 5 22 ?_
      refine pA 6 23 ?_
      refine tA 3 20 ?_
      refine tA 7 24 ?_
      refine oA 8 25 (fun K hK => ?_)
      refine goes_ Try.func89 (Z24) rfl #[.agg #[.int .i64 ((rd_T71 l0 x5_1).f0), .int .i64 ((rd_T71 l0 x5_1).f1), .string ((rd_T71 l0 x5_1).f2)], .agg #[.int .i64 ((rd_T71 l1 x5_1).f0), .int .i64 ((rd_T71 l1 x5_1).f1), .string ((rd_T71 l1 x5_1).f2)]] (Z102) rfl rfl (Z1) ?_
      with_reducible refine (laws_eqStored.calls ((rd_T71 l0 x5_1).f0) ((rd_T71 l0 x5_1).f1) ((rd_T71 l0 x5_1).f2) ((rd_T71 l1 x5_1).f0) ((rd_T71 l1 x5_1).f1) ((rd_T71 l1 x5_1).f2) false _ A7.out).mono ?_
      rintro e w12 ⟨rfl, hb⟩
      refine ⟨_, rfl, ?_⟩
      replace HB := Aside0.mk (below_step (Z0) hb)
      (try clear hb)
      refine hK.out _ _ ⟨(cB HB.out hw375_0 :), ⟨(cB HB.out hw375_1 :), ⟨(cB HB.out hw375_2 :), ⟨(cB HB.out hw376_0 :), ⟨(cB HB.out hw376_1 :), (cB HB.out hw376_2 :)⟩⟩⟩⟩⟩ (fun hHeld => ?_)
      clear hK K
      refine nB 25 ?_
      refine pA 9 26 ?_
      refine done_ (done_of HT_.out (Z24)) ?_
      try go_wp2
      go_ret
      exact ⟨Z2, Z0⟩
    ·rw [if_neg c4] at H
     have c4b0 := decide_eq_false c4
     clear c4
     obtain rfl := Option.some.inj H
     go_wp2
     go_ret
     exact ⟨Z2, Z0⟩
 ·rw [if_neg c3] at H
  have c3b0 := beq_eq_false_iff_ne.mpr c3
  have c3b1 := bne_iff_ne.mpr c3
  have c3b2 : (l0.length == l1.length) = false := by first | simpa using c3 | (simp at c3 ⊢; omega)
  obtain rfl := Option.some.inj H
  go_enter Try.func74, Try.ntmps74
  go_wp2
  go_ret
  exact ⟨Z2, Z0⟩

end Go.Proofs.Ytbikfhccfenkdaa.PFnExactEngineOK
