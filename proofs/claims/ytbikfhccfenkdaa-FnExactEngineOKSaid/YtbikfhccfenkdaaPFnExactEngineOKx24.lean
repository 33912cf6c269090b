/- Contracts of functions that a statement reaches (wip/x/xprint.py, short.py, compact.py). -/
import Derived.Test.YtbikfhccfenkdaaPFnExactEngineOKx0
import Derived.Test.YtbikfhccfenkdaaPFnExactEngineOKx2
import Derived.Test.YtbikfhccfenkdaaPFnExactEngineOKx16
import Derived.Test.YtbikfhccfenkdaaPFnExactEngineOKx17
import Derived.Test.YtbikfhccfenkdaaPFnExactEngineOKx22
import Derived.Test.YtbikfhccfenkdaaPFnExactEngineOKx23
namespace Go.Proofs.Ytbikfhccfenkdaa.PFnExactEngineOK
open Go.RowKit Go.Proofs.YtbikfhccfenkdaaW.PrintWords Go.Proofs.YtbikfhccfenkdaaW.PrintLast Go.Proofs.YtbikfhccfenkdaaW.PrintMore Go.Proofs.Ytbikfhccfenkdaa.Mac
attribute [local go_sem] max2_int min2_int max_two min_two max_three min_three max_four min_four
set_option linter.unusedVariables false
set_option linter.unusedSimpArgs false

/-! ### laws_FnExactEngineOK: function 3 -/
def laws_FnExactEngineOK.f (k : Nat) (a0_0 : Int) (a0_1 : ByteArray) (a0_2 : Int) (l0_3 : List (S54)) : Option (Bool) := (laws_szEngine.f k a0_0 a0_1 a0_2 l0_3 1048576).bind fun t392 => (if t392 < 0 then (some true) else ((laws_toEngine.f k a0_0 a0_1 a0_2 l0_3).bind fun bt393 => ((spec_EngineOK.f k bt393.1 bt393.2.1 bt393.2.2.1 bt393.2.2.2).bind fun t399 => ((laws_toEngine.f k a0_0 a0_1 a0_2 l0_3).bind fun bt400 => ((impl_EngineOK.f k bt400.1 bt400.2.1 bt400.2.2.1 bt400.2.2.2).bind fun t407 => (if (t407 != t399) = true then (some false) else ((laws_toEngine.f k a0_0 a0_1 a0_2 l0_3).bind fun bt408 => ((laws_eqEngine.f k bt400.1 bt400.2.1 bt400.2.2.1 bt400.2.2.2 bt408.1 bt408.2.1 bt408.2.2.1 bt408.2.2.2).bind fun t414 => (if t414 = true then (some true) else (some false))))))))))
theorem laws_FnExactEngineOK.mono : ∀ a0 a1 a2 a3 k, LeO (laws_FnExactEngineOK.f k a0 a1 a2 a3) (laws_FnExactEngineOK.f (k + 1) a0 a1 a2 a3) := by
 intro a0 a1 a2 a3 k
 unfold laws_FnExactEngineOK.f
 have m0 := @impl_EngineOK.mono
 have m1 := @laws_eqEngine.mono
 have m2 := @laws_szEngine.mono
 have m3 := @laws_toEngine.mono
 have m4 := @spec_EngineOK.mono
 exact tM
set_option maxHeartbeats 40000000 in
set_option maxRecDepth 100000 in
theorem laws_FnExactEngineOK.calls (k : Nat) (a0_0 : Int) (a0_1 : ByteArray) (a0_2 : Int) (A0_3 : Option Addr) (c0_3 : Nat) (l0_3 : List (S54)) (r : Bool) (w : World) (hr0_3 : Kd.C k54 w A0_3 l0_3.length l0_3) (hc0_3 : l0_3.length ≤ c0_3) (h : laws_FnExactEngineOK.f k a0_0 a0_1 a0_2 l0_3 = some r) :
  Calls Try.prog 3 #[.agg #[.int .i64 a0_0, .string a0_1, .int .i64 a0_2, .slice A0_3 l0_3.length c0_3]] w fun e w' => e = .returned (.bool r) ∧ Below w.heap.size w w' := by
 have hu26 := Try.underlying26
 have hu32 := Try.underlying32
 have HR0_3 := Aside0.mk hr0_3
 have HC0_3 := Aside0.mk hc0_3
 clear hr0_3 hc0_3
 have HB := Aside0.mk (Below.refl w.heap.size w)
 have H : ((laws_szEngine.f k a0_0 a0_1 a0_2 l0_3 1048576).bind fun t392 => (if t392 < 0 then (some true) else ((laws_toEngine.f k a0_0 a0_1 a0_2 l0_3).bind fun bt393 => ((spec_EngineOK.f k bt393.1 bt393.2.1 bt393.2.2.1 bt393.2.2.2).bind fun t399 => ((laws_toEngine.f k a0_0 a0_1 a0_2 l0_3).bind fun bt400 => ((impl_EngineOK.f k bt400.1 bt400.2.1 bt400.2.2.1 bt400.2.2.2).bind fun t407 => (if (t407 != t399) = true then (some false) else ((laws_toEngine.f k a0_0 a0_1 a0_2 l0_3).bind fun bt408 => ((laws_eqEngine.f k bt400.1 bt400.2.1 bt400.2.2.1 bt400.2.2.2 bt408.1 bt408.2.1 bt408.2.2.1 bt408.2.2.2).bind fun t414 => (if t414 = true then (some true) else (some false))))))))))) = some r := h
 clear h
 obtain ⟨t392, A2, H⟩ := bindA H
 try dsimp only at H
 by_cases c3 : t392 < 0
 ·rw [if_pos c3] at H
  have c3b0 := decide_eq_true c3
  clear c3
  obtain rfl := Option.some.inj H
  go_enter Try.func3, Try.ntmps3
  go_wp2_with (first | ((with_reducible refine gate_dst (N := 1) rfl ?_); refine bxE 1 #[.int .i64 a0_0, .string a0_1, .int .i64 a0_2, .slice A0_3 l0_3.length c0_3] 26 ?_; intro gb391 hg w4 hbox hb; have BK391 := Aside0.mk (hbox); have GW391 := Aside0.mk ((szE w hg (Z0))); have GE391 := Aside0.mk ((szE w hg (Z0))); replace HB := Aside0.mk (below_step (Z0) hb); clear hb hbox hg; obtain ⟨hcz5_0, hcz5_1, hcz5_2, hcz5_3⟩ := bc4 BK391.out; obtain ⟨hfz5_0, hfz5_1, hfz5_2, hfz5_3⟩ := bf4 BK391.out) | ((with_reducible refine gate_callee (f := 4) rfl ?_); refine goesL_ (some 9) rfl rfl Try.func4 (Z24) rfl #[.agg #[.int .i64 a0_0, .string a0_1, .int .i64 a0_2, .slice A0_3 l0_3.length c0_3], .int .i64 1048576] rfl (Z1) ?_; (with_reducible refine (laws_szEngine.calls k a0_0 a0_1 a0_2 _ _ l0_3 1048576 t392 _ ?side1 ?side2 A2.out).mono ?_); (case side1 => have h_ := Kd.C_below HR0_3.out HB.out; exact tC); (case side2 => exact HC0_3.out); rintro e w6 ⟨rfl, hb⟩; refine ⟨_, rfl, ?_⟩; replace BK391 := Aside0.mk (kB BK391 (Z28) hb); replace HB := Aside0.mk (below_step (Z12) hb); (try clear hb)))
  go_ret
  exact ⟨Z2, Z12⟩
 ·rw [if_neg c3] at H
  have c3b0 := decide_eq_false c3
  clear c3
  obtain ⟨⟨t393, t394, t395, t396⟩, A7, H⟩ := bindA H
  try dsimp only at H
  obtain ⟨t399, A8, H⟩ := bindA H
  try dsimp only at H
  obtain ⟨⟨t400, t401, t402, t403⟩, A9, H⟩ := bindA H
  try dsimp only at H
  obtain ⟨t407, A10, H⟩ := bindA H
  try dsimp only at H
  by_cases c11 : (t407 != t399) = true
  ·rw [if_pos c11] at H
   have c11b0 : (t407 != t399) = true := c11
   (try (have c11b1 : decide (t407 = t399) = false := by simpa using c11))
   (try (have c11b2 : (t407 == t399) = false := by simpa using c11))
   (try (have c11b3 : ¬ (t407 = t399) := by simpa using c11))
   clear c11
   obtain rfl := Option.some.inj H
   go_enter Try.func3, Try.ntmps3
   go_wp2_with (first | ((with_reducible refine gate_dst (N := 1) rfl ?_); refine bxE 1 #[.int .i64 a0_0, .string a0_1, .int .i64 a0_2, .slice A0_3 l0_3.length c0_3] 26 ?_; intro gb391 hg w12 hbox hb; have BK391 := Aside0.mk (hbox); have GW391 := Aside0.mk ((szE w hg (Z0))); have GE391 := Aside0.mk ((szE w hg (Z0))); replace HB := Aside0.mk (below_step (Z0) hb); clear hb hbox hg; obtain ⟨hcz13_0, hcz13_1, hcz13_2, hcz13_3⟩ := bc4 BK391.out; obtain ⟨hfz13_0, hfz13_1, hfz13_2, hfz13_3⟩ := bf4 BK391.out) | ((with_reducible refine gate_callee (f := 4) rfl ?_); refine goesL_ (some 9) rfl rfl Try.func4 (Z24) rfl #[.agg #[.int .i64 a0_0, .string a0_1, .int .i64 a0_2, .slice A0_3 l0_3.length c0_3], .int .i64 1048576] rfl (Z1) ?_; (with_reducible refine (laws_szEngine.calls k a0_0 a0_1 a0_2 _ _ l0_3 1048576 t392 _ ?side1 ?side2 A2.out).mono ?_); (case side1 => have h_ := Kd.C_below HR0_3.out HB.out; exact tC); (case side2 => exact HC0_3.out); rintro e w14 ⟨rfl, hb⟩; refine ⟨_, rfl, ?_⟩; replace BK391 := Aside0.mk (kB BK391 (Z28) hb); replace HB := Aside0.mk (below_step (Z12) hb); (try clear hb); obtain ⟨hcz15_0, hcz15_1, hcz15_2, hcz15_3⟩ := bc4 BK391.out; obtain ⟨hfz15_0, hfz15_1, hfz15_2, hfz15_3⟩ := bf4 BK391.out) | ((with_reducible refine gate_callee (f := 6) rfl ?_); refine goesL_ (some 13) rfl rfl Try.func6 (Z24) rfl #[.agg #[.int .i64 a0_0, .string a0_1, .int .i64 a0_2, .slice A0_3 l0_3.length c0_3]] rfl (Z1) ?_; (with_reducible refine (laws_toEngine.calls k a0_0 a0_1 a0_2 _ _ l0_3 t393 t394 t395 t396 _ ?side1 ?side2 A7.out).mono ?_); (case side1 => have h_ := Kd.C_below HR0_3.out HB.out; exact tC); (case side2 => exact HC0_3.out); rintro e w16 ⟨v397, rfl, ho0, hb⟩; refine ⟨_, rfl, ?_⟩; have HO398 := Aside0.mk (Kd.S_lower ho0 (below_size (Z12))); replace BK391 := Aside0.mk (kB BK391 (Z28) hb); replace HB := Aside0.mk (below_step (Z12) hb); (try clear hb); (try clear ho0); obtain ⟨Ao17, co17, eo17⟩ := Kd.S_slice HO398.out; subst eo17) | ((with_reducible refine gate_callee (f := 5) rfl ?_); refine goesL_ (some 14) rfl rfl Try.func5 (Z24) rfl #[.agg #[.int .i64 t393, .string t394, .int .i64 t395, .slice Ao17 t396.length co17]] rfl (Z1) ?_; (with_reducible refine (spec_EngineOK.calls k t393 t394 t395 _ _ t396 t399 _ ?side1 ?side2 A8.out).mono ?_); (case side1 => have h_ := (Kd.S_reads' HO398.out).2.2; exact tC); (case side2 => exact (Kd.S_reads' HO398.out).2.1); rintro e w18 ⟨rfl, hb⟩; refine ⟨_, rfl, ?_⟩; replace HO398 := Aside0.mk (Kd.S_below (Z44) hb); replace BK391 := Aside0.mk (kB BK391 (Z28) hb); replace HB := Aside0.mk (below_step (Z12) hb); (try clear hb); obtain ⟨hcz19_0, hcz19_1, hcz19_2, hcz19_3⟩ := bc4 BK391.out; obtain ⟨hfz19_0, hfz19_1, hfz19_2, hfz19_3⟩ := bf4 BK391.out) | ((with_reducible refine gate_callee (f := 6) rfl ?_); refine goesL_ (some 16) rfl rfl Try.func6 (Z24) rfl #[.agg #[.int .i64 a0_0, .string a0_1, .int .i64 a0_2, .slice A0_3 l0_3.length c0_3]] rfl (Z1) ?_; (with_reducible refine (laws_toEngine.calls k a0_0 a0_1 a0_2 _ _ l0_3 t400 t401 t402 t403 _ ?side1 ?side2 A9.out).mono ?_); (case side1 => have h_ := Kd.C_below HR0_3.out HB.out; exact tC); (case side2 => exact HC0_3.out); rintro e w20 ⟨v404, rfl, ho0, hb⟩; refine ⟨_, rfl, ?_⟩; have HO405 := Aside0.mk (Kd.S_lower (Kd.S_new' ho0 (Kd.S_lt (Z44))) (below_size (Z12))); replace HO398 := Aside0.mk (Kd.S_elder' (Z44) (Kd.S_base ho0) hb); replace BK391 := Aside0.mk (kB BK391 (Z28) hb); replace HB := Aside0.mk (below_step (Z12) hb); (try clear hb); (try clear ho0)) | ((with_reducible refine gate_dst (N := 5) rfl ?_); refine bxE 5 #[.int .i64 0, .string (⟨#[]⟩ : ByteArray), .int .i64 0, .slice none 0 0] 32 ?_; intro gb406 hg w21 hbox hb; replace HO398 := Aside0.mk (Kd.S_below (Z44) hb); replace HO405 := Aside0.mk (Kd.S_below (Z70) hb); have BK406 := Aside0.mk (hbox); have GW406 := Aside0.mk ((szE w hg (Z12))); have GE406 := Aside0.mk ((szE w hg (Z12))); replace HB := Aside0.mk (below_step (Z12) hb); have NB391_406 := Aside0.mk ((nL BK391 hg (Z28))); have NB406_391 := Aside0.mk ((nG BK391 hg (Z28))); replace BK391 := Aside0.mk (kB BK391 (Z28) hb); clear hb hbox hg; have hnb22 := NB406_391.out; have hnc22 := NB391_406.out; obtain ⟨hcz23_0, hcz23_1, hcz23_2, hcz23_3⟩ := bc4 BK406.out; obtain ⟨hfz23_0, hfz23_1, hfz23_2, hfz23_3⟩ := bf4 BK406.out; obtain ⟨Ao24, co24, eo24⟩ := Kd.S_slice HO405.out; subst eo24) | ((with_reducible refine gate_callee (f := 7) rfl ?_); refine goesL_ (some 18) rfl rfl Try.func7 (Z24) rfl #[.agg #[.int .i64 t400, .string t401, .int .i64 t402, .slice Ao24 t403.length co24]] rfl (Z1) ?_; (with_reducible refine (impl_EngineOK.calls k t400 t401 t402 _ _ t403 t407 _ ?side1 ?side2 A10.out).mono ?_); (case side1 => refine (Kd.S_reads' (e := 59) (base := w.heap.size) (ok := fun k_ => (True ∧ some k_ ≠ (.slice Ao17 t396.length co17 : Value).ownBlock)) (n := t403.length) (c := co24) ?_).2.2; exact (Z71)); (case side2 => exact (Kd.S_reads' HO405.out).2.1); rintro e w25 ⟨rfl, hb⟩; refine ⟨_, rfl, ?_⟩; replace HO398 := Aside0.mk (Kd.S_below (by (with_reducible repeat (first | apply Kd.S_alloc | apply Kd.S_drewN | apply Kd.S_drew)); exact (Kd.S_mono (Kd.S_far (p := ⟨gb406, 3, none⟩) (Kd.S_far (p := ⟨gb406, 2, none⟩) (Kd.S_far (p := ⟨gb406, 1, none⟩) (Kd.S_far (p := ⟨gb406, 0, none⟩) (Kd.S_types HO398.out BK406.out (Z79)) (fun _ hk => hk.2) (.int .i64 t400)) (fun _ hk => hk.2) (.string t401)) (fun _ hk => hk.2) (.int .i64 t402)) (fun _ hk => hk.2) (.slice Ao24 t403.length co24)) (fun _ h_ => h_.1))) hb); replace HO405 := Aside0.mk (Kd.S_below (Z71) hb); replace BK391 := Aside0.mk (kB BK391 (Z42) hb); replace BK406 := Aside0.mk (blk_below (g := gb406) (o := .cells #[.int .i64 t400, .string t401, .int .i64 t402, .slice Ao24 t403.length co24] 32 (0, 0)) (Z31) hb); replace HB := Aside0.mk (below_step (Z37) hb); (try clear hb); (try clear hk)))
   go_ret
   exact ⟨Z2, Z37⟩
  ·rw [if_neg c11] at H
   have c11b0 : (t407 != t399) = false := by simpa using c11
   (try (have c11b1 : decide (t407 = t399) = true := by simpa using c11))
   (try (have c11b2 : (t407 == t399) = true := by simpa using c11))
   clear c11
   obtain ⟨⟨t408, t409, t410, t411⟩, A26, H⟩ := bindA H
   try dsimp only at H
   obtain ⟨t414, A27, H⟩ := bindA H
   try dsimp only at H
   by_cases c28 : t414 = true
   ·subst c28
    replace H := ifT H
    obtain rfl := Option.some.inj H
    go_enter Try.func3, Try.ntmps3
    try go_wp2_with (first | ((with_reducible refine gate_dst (N := 1) rfl ?_); refine bxE 1 #[.int .i64 a0_0, .string a0_1, .int .i64 a0_2, .slice A0_3 l0_3.length c0_3] 26 ?_; intro gb391 hg w29 hbox hb; have BK391 := Aside0.mk (hbox); have GW391 := Aside0.mk ((szE w hg (Z0))); have GE391 := Aside0.mk ((szE w hg (Z0))); replace HB := Aside0.mk (below_step (Z0) hb); clear hb hbox hg; obtain ⟨hcz30_0, hcz30_1, hcz30_2, hcz30_3⟩ := bc4 BK391.out; obtain ⟨hfz30_0, hfz30_1, hfz30_2, hfz30_3⟩ := bf4 BK391.out) | ((with_reducible refine gate_callee (f := 4) rfl ?_); refine goesL_ (some 9) rfl rfl Try.func4 (Z24) rfl #[.agg #[.int .i64 a0_0, .string a0_1, .int .i64 a0_2, .slice A0_3 l0_3.length c0_3], .int .i64 1048576] rfl (Z1) ?_; (with_reducible refine (laws_szEngine.calls k a0_0 a0_1 a0_2 _ _ l0_3 1048576 t392 _ ?side1 ?side2 A2.out).mono ?_); (case side1 => have h_ := Kd.C_below HR0_3.out HB.out; exact tC); (case side2 => exact HC0_3.out); rintro e w31 ⟨rfl, hb⟩; refine ⟨_, rfl, ?_⟩; replace BK391 := Aside0.mk (kB BK391 (Z28) hb); replace HB := Aside0.mk (below_step (Z12) hb); (try clear hb); obtain ⟨hcz32_0, hcz32_1, hcz32_2, hcz32_3⟩ := bc4 BK391.out; obtain ⟨hfz32_0, hfz32_1, hfz32_2, hfz32_3⟩ := bf4 BK391.out) | ((with_reducible refine gate_callee (f := 6) rfl ?_); refine goesL_ (some 13) rfl rfl Try.func6 (Z24) rfl #[.agg #[.int .i64 a0_0, .string a0_1, .int .i64 a0_2, .slice A0_3 l0_3.length c0_3]] rfl (Z1) ?_; (with_reducible refine (laws_toEngine.calls k a0_0 a0_1 a0_2 _ _ l0_3 t393 t394 t395 t396 _ ?side1 ?side2 A7.out).mono ?_); (case side1 => have h_ := Kd.C_below HR0_3.out HB.out; exact tC); (case side2 => exact HC0_3.out); rintro e w33 ⟨v397, rfl, ho0, hb⟩; refine ⟨_, rfl, ?_⟩; have HO398 := Aside0.mk (Kd.S_lower ho0 (below_size (Z12))); replace BK391 := Aside0.mk (kB BK391 (Z28) hb); replace HB := Aside0.mk (below_step (Z12) hb); (try clear hb); (try clear ho0); obtain ⟨Ao34, co34, eo34⟩ := Kd.S_slice HO398.out; subst eo34) | ((with_reducible refine gate_callee (f := 5) rfl ?_); refine goesL_ (some 14) rfl rfl Try.func5 (Z24) rfl #[.agg #[.int .i64 t393, .string t394, .int .i64 t395, .slice Ao34 t396.length co34]] rfl (Z1) ?_; (with_reducible refine (spec_EngineOK.calls k t393 t394 t395 _ _ t396 t399 _ ?side1 ?side2 A8.out).mono ?_); (case side1 => have h_ := (Kd.S_reads' HO398.out).2.2; exact tC); (case side2 => exact (Kd.S_reads' HO398.out).2.1); rintro e w35 ⟨rfl, hb⟩; refine ⟨_, rfl, ?_⟩; replace HO398 := Aside0.mk (Kd.S_below (Z44) hb); replace BK391 := Aside0.mk (kB BK391 (Z28) hb); replace HB := Aside0.mk (below_step (Z12) hb); (try clear hb); obtain ⟨hcz36_0, hcz36_1, hcz36_2, hcz36_3⟩ := bc4 BK391.out; obtain ⟨hfz36_0, hfz36_1, hfz36_2, hfz36_3⟩ := bf4 BK391.out) | ((with_reducible refine gate_callee (f := 6) rfl ?_); refine goesL_ (some 16) rfl rfl Try.func6 (Z24) rfl #[.agg #[.int .i64 a0_0, .string a0_1, .int .i64 a0_2, .slice A0_3 l0_3.length c0_3]] rfl (Z1) ?_; (with_reducible refine (laws_toEngine.calls k a0_0 a0_1 a0_2 _ _ l0_3 t400 t401 t402 t403 _ ?side1 ?side2 A9.out).mono ?_); (case side1 => have h_ := Kd.C_below HR0_3.out HB.out; exact tC); (case side2 => exact HC0_3.out); rintro e w37 ⟨v404, rfl, ho0, hb⟩; refine ⟨_, rfl, ?_⟩; have HO405 := Aside0.mk (Kd.S_lower (Kd.S_new' ho0 (Kd.S_lt (Z44))) (below_size (Z12))); replace HO398 := Aside0.mk (Kd.S_elder' (Z44) (Kd.S_base ho0) hb); replace BK391 := Aside0.mk (kB BK391 (Z28) hb); replace HB := Aside0.mk (below_step (Z12) hb); (try clear hb); (try clear ho0)) | ((with_reducible refine gate_dst (N := 5) rfl ?_); refine bxE 5 #[.int .i64 0, .string (⟨#[]⟩ : ByteArray), .int .i64 0, .slice none 0 0] 32 ?_; intro gb406 hg w38 hbox hb; replace HO398 := Aside0.mk (Kd.S_below (Z44) hb); replace HO405 := Aside0.mk (Kd.S_below (Z70) hb); have BK406 := Aside0.mk (hbox); have GW406 := Aside0.mk ((szE w hg (Z12))); have GE406 := Aside0.mk ((szE w hg (Z12))); replace HB := Aside0.mk (below_step (Z12) hb); have NB391_406 := Aside0.mk ((nL BK391 hg (Z28))); have NB406_391 := Aside0.mk ((nG BK391 hg (Z28))); replace BK391 := Aside0.mk (kB BK391 (Z28) hb); clear hb hbox hg; have hnb39 := NB406_391.out; have hnc39 := NB391_406.out; obtain ⟨hcz40_0, hcz40_1, hcz40_2, hcz40_3⟩ := bc4 BK406.out; obtain ⟨hfz40_0, hfz40_1, hfz40_2, hfz40_3⟩ := bf4 BK406.out; obtain ⟨Ao41, co41, eo41⟩ := Kd.S_slice HO405.out; subst eo41) | ((with_reducible refine gate_callee (f := 7) rfl ?_); refine goesL_ (some 18) rfl rfl Try.func7 (Z24) rfl #[.agg #[.int .i64 t400, .string t401, .int .i64 t402, .slice Ao41 t403.length co41]] rfl (Z1) ?_; (with_reducible refine (impl_EngineOK.calls k t400 t401 t402 _ _ t403 t407 _ ?side1 ?side2 A10.out).mono ?_); (case side1 => refine (Kd.S_reads' (e := 59) (base := w.heap.size) (ok := fun k_ => (True ∧ some k_ ≠ (.slice Ao34 t396.length co34 : Value).ownBlock)) (n := t403.length) (c := co41) ?_).2.2; exact (Z72)); (case side2 => exact (Kd.S_reads' HO405.out).2.1); rintro e w42 ⟨rfl, hb⟩; refine ⟨_, rfl, ?_⟩; replace HO398 := Aside0.mk (Kd.S_below (by (with_reducible repeat (first | apply Kd.S_alloc | apply Kd.S_drewN | apply Kd.S_drew)); exact (Kd.S_mono (Kd.S_far (p := ⟨gb406, 3, none⟩) (Kd.S_far (p := ⟨gb406, 2, none⟩) (Kd.S_far (p := ⟨gb406, 1, none⟩) (Kd.S_far (p := ⟨gb406, 0, none⟩) (Kd.S_types HO398.out BK406.out (Z79)) (fun _ hk => hk.2) (.int .i64 t400)) (fun _ hk => hk.2) (.string t401)) (fun _ hk => hk.2) (.int .i64 t402)) (fun _ hk => hk.2) (.slice Ao41 t403.length co41)) (fun _ h_ => h_.1))) hb); replace HO405 := Aside0.mk (Kd.S_below (Z72) hb); replace BK391 := Aside0.mk (kB BK391 (Z42) hb); replace BK406 := Aside0.mk (blk_below (g := gb406) (o := .cells #[.int .i64 t400, .string t401, .int .i64 t402, .slice Ao41 t403.length co41] 32 (0, 0)) (Z31) hb); replace HB := Aside0.mk (below_step (Z37) hb); (try clear hb); (try clear hk)))
    replace HO398 := Aside0.mk (Kd.S_drew HO398.out)
    replace HO405 := Aside0.mk (Kd.S_drew HO405.out)
    replace BK391 := Aside0.mk (blk_drew BK391.out)
    replace BK406 := Aside0.mk (blk_drew BK406.out)
    replace HB := Aside0.mk (below_drew1 HB.out)
    refine start_ (n := 5) (S := fun w' => w'.cell? ⟨gb406, 0, none⟩ = some (.int .i64 t400) ∧ w'.cell? ⟨gb406, 1, none⟩ = some (.string t401) ∧ w'.cell? ⟨gb406, 2, none⟩ = some (.int .i64 t402) ∧ w'.cell? ⟨gb406, 3, none⟩ = some (.slice Ao41 t403.length co41) ∧ w'.cell? ⟨gb391, 0, none⟩ = some (.int .i64 a0_0) ∧ w'.cell? ⟨gb391, 1, none⟩ = some (.string a0_1) ∧ w'.cell? ⟨gb391, 2, none⟩ = some (.int .i64 a0_2) ∧ w'.cell? ⟨gb391, 3, none⟩ = some (.slice A0_3 l0_3.length c0_3)) (ds := []) #[false, false, false, false, false] (Z24) rfl rfl (bk4 BK406.out (bc4 BK391.out)) (fun hHeld => ?_)
    generalize w42.drew = w43 at HO398 HO405 BK391 BK406 HB hHeld ⊢
    refine tA 0 22 ?_
    refine tA 1 23 ?_
    refine oA 2 24 (fun K hK => ?_)
    refine goes_ Try.func6 (Z24) rfl #[.agg #[.int .i64 a0_0, .string a0_1, .int .i64 a0_2, .slice A0_3 l0_3.length c0_3]] (Z102) rfl rfl (Z1) ?_
    with_reducible refine (laws_toEngine.calls k a0_0 a0_1 a0_2 _ _ l0_3 t408 t409 t410 t411 _ ?side1 ?side2 A26.out).mono ?_
    (case side1 => have h_ := Kd.C_below HR0_3.out HB.out; exact tC)
    (case side2 => exact HC0_3.out)
    rintro e w44 ⟨v412, rfl, ho0, hb⟩
    refine ⟨_, rfl, ?_⟩
    have HO413 := Aside0.mk (Kd.S_lower (Kd.S_new' (Kd.S_new' ho0 (Kd.S_lt (Z44))) (Kd.S_lt (Z70))) (below_size (Z37)))
    replace HO398 := Aside0.mk (Kd.S_elder' (Z44) (Kd.S_base ho0) hb)
    replace HO405 := Aside0.mk (Kd.S_elder' (Z70) (Kd.S_base ho0) hb)
    replace BK391 := Aside0.mk (kB BK391 (Z28) hb)
    replace BK406 := Aside0.mk (kB BK406 (Z123) hb)
    replace HB := Aside0.mk (below_step (Z37) hb)
    (try clear hb); (try clear hb2); (try clear hk); (try clear hi); (try clear ho0)
    obtain ⟨Ao45, co45, eo45⟩ := Kd.S_slice HO413.out
    (first | subst eo45 | (injection eo45 with f1_ f2_ f3_; have f4_ := f1_.symm; have f5_ := f3_.symm; clear f1_ f2_ f3_; subst f4_; subst f5_))
    refine hK.out _ _ (bk4 BK406.out (bc4 BK391.out)) (fun hHeld => ?_)
    clear hK K
    refine nB 24 ?_
    refine oA 3 25 (fun K hK => ?_)
    refine goes_ Try.func8 (Z24) rfl #[.agg #[.int .i64 t400, .string t401, .int .i64 t402, .slice Ao41 t403.length co41], .agg #[.int .i64 t408, .string t409, .int .i64 t410, .slice Ao45 t411.length co45]] (Z102) rfl rfl (Z1) ?_
    with_reducible refine (laws_eqEngine.calls k t400 t401 t402 _ _ t403 t408 t409 t410 _ _ t411 true _ ?side1 ?side2 ?side3 ?side4 A27.out).mono ?_
    (case side1 => have h_ := (Kd.S_reads' HO405.out).2.2; exact tC)
    (case side2 => exact (Kd.S_reads' HO405.out).2.1)
    (case side3 => have h_ := (Kd.S_reads' HO413.out).2.2; exact tC)
    (case side4 => exact (Kd.S_reads' HO413.out).2.1)
    rintro e w46 ⟨rfl, hb⟩
    refine ⟨_, rfl, ?_⟩
    replace HO398 := Aside0.mk (Kd.S_below (Z44) hb)
    replace HO405 := Aside0.mk (Kd.S_below (Z70) hb)
    replace HO413 := Aside0.mk (Kd.S_below (by (with_reducible repeat (first | apply Kd.S_alloc | apply Kd.S_drewN | apply Kd.S_drew)); exact HO413.out) hb)
    replace BK391 := Aside0.mk (kB BK391 (Z28) hb)
    replace BK406 := Aside0.mk (kB BK406 (Z123) hb)
    replace HB := Aside0.mk (below_step (Z37) hb)
    (try clear hb); (try clear hb2); (try clear hk); (try clear hi)
    refine hK.out _ _ (bk4 BK406.out (bc4 BK391.out)) (fun hHeld => ?_)
    clear hK K
    refine nB 25 ?_
    refine pA 4 26 ?_
    refine done_ (Z24) ?_
    try go_wp2
    go_ret
    exact ⟨Z2, Z37⟩
   ·replace c28 := Bool.eq_false_iff.mpr c28
    subst c28
    replace H := ifF H
    obtain rfl := Option.some.inj H
    go_enter Try.func3, Try.ntmps3
    try go_wp2_with (first | ((with_reducible refine gate_dst (N := 1) rfl ?_); refine bxE 1 #[.int .i64 a0_0, .string a0_1, .int .i64 a0_2, .slice A0_3 l0_3.length c0_3] 26 ?_; intro gb391 hg w47 hbox hb; have BK391 := Aside0.mk (hbox); have GW391 := Aside0.mk ((szE w hg (Z0))); have GE391 := Aside0.mk ((szE w hg (Z0))); replace HB := Aside0.mk (below_step (Z0) hb); clear hb hbox hg; obtain ⟨hcz48_0, hcz48_1, hcz48_2, hcz48_3⟩ := bc4 BK391.out; obtain ⟨hfz48_0, hfz48_1, hfz48_2, hfz48_3⟩ := bf4 BK391.out) | ((with_reducible refine gate_callee (f := 4) rfl ?_); refine goesL_ (some 9) rfl rfl Try.func4 (Z24) rfl #[.agg #[.int .i64 a0_0, .string a0_1, .int .i64 a0_2, .slice A0_3 l0_3.length c0_3], .int .i64 1048576] rfl (Z1) ?_; (with_reducible refine (laws_szEngine.calls k a0_0 a0_1 a0_2 _ _ l0_3 1048576 t392 _ ?side1 ?side2 A2.out).mono ?_); (case side1 => have h_ := Kd.C_below HR0_3.out HB.out; exact tC); (case side2 => exact HC0_3.out); rintro e w49 ⟨rfl, hb⟩; refine ⟨_, rfl, ?_⟩; replace BK391 := Aside0.mk (kB BK391 (Z28) hb); replace HB := Aside0.mk (below_step (Z12) hb); (try clear hb); obtain ⟨hcz50_0, hcz50_1, hcz50_2, hcz50_3⟩ := bc4 BK391.out; obtain ⟨hfz50_0, hfz50_1, hfz50_2, hfz50_3⟩ := bf4 BK391.out) | ((with_reducible refine gate_callee (f := 6) rfl ?_); refine goesL_ (some 13) rfl rfl Try.func6 (Z24) rfl #[.agg #[.int .i64 a0_0, .string a0_1, .int .i64 a0_2, .slice A0_3 l0_3.length c0_3]] rfl (Z1) ?_; (with_reducible refine (laws_toEngine.calls k a0_0 a0_1 a0_2 _ _ l0_3 t393 t394 t395 t396 _ ?side1 ?side2 A7.out).mono ?_); (case side1 => have h_ := Kd.C_below HR0_3.out HB.out; exact tC); (case side2 => exact HC0_3.out); rintro e w51 ⟨v397, rfl, ho0, hb⟩; refine ⟨_, rfl, ?_⟩; have HO398 := Aside0.mk (Kd.S_lower ho0 (below_size (Z12))); replace BK391 := Aside0.mk (kB BK391 (Z28) hb); replace HB := Aside0.mk (below_step (Z12) hb); (try clear hb); (try clear ho0); obtain ⟨Ao52, co52, eo52⟩ := Kd.S_slice HO398.out; subst eo52) | ((with_reducible refine gate_callee (f := 5) rfl ?_); refine goesL_ (some 14) rfl rfl Try.func5 (Z24) rfl #[.agg #[.int .i64 t393, .string t394, .int .i64 t395, .slice Ao52 t396.length co52]] rfl (Z1) ?_; (with_reducible refine (spec_EngineOK.calls k t393 t394 t395 _ _ t396 t399 _ ?side1 ?side2 A8.out).mono ?_); (case side1 => have h_ := (Kd.S_reads' HO398.out).2.2; exact tC); (case side2 => exact (Kd.S_reads' HO398.out).2.1); rintro e w53 ⟨rfl, hb⟩; refine ⟨_, rfl, ?_⟩; replace HO398 := Aside0.mk (Kd.S_below (Z44) hb); replace BK391 := Aside0.mk (kB BK391 (Z28) hb); replace HB := Aside0.mk (below_step (Z12) hb); (try clear hb); obtain ⟨hcz54_0, hcz54_1, hcz54_2, hcz54_3⟩ := bc4 BK391.out; obtain ⟨hfz54_0, hfz54_1, hfz54_2, hfz54_3⟩ := bf4 BK391.out) | ((with_reducible refine gate_callee (f := 6) rfl ?_); refine goesL_ (some 16) rfl rfl Try.func6 (Z24) rfl #[.agg #[.int .i64 a0_0, .string a0_1, .int .i64 a0_2, .slice A0_3 l0_3.length c0_3]] rfl (Z1) ?_; (with_reducible refine (laws_toEngine.calls k a0_0 a0_1 a0_2 _ _ l0_3 t400 t401 t402 t403 _ ?side1 ?side2 A9.out).mono ?_); (case side1 => have h_ := Kd.C_below HR0_3.out HB.out; exact tC); (case side2 => exact HC0_3.out); rintro e w55 ⟨v404, rfl, ho0, hb⟩; refine ⟨_, rfl, ?_⟩; have HO405 := Aside0.mk (Kd.S_lower (Kd.S_new' ho0 (Kd.S_lt (Z44))) (below_size (Z12))); replace HO398 := Aside0.mk (Kd.S_elder' (Z44) (Kd.S_base ho0) hb); replace BK391 := Aside0.mk (kB BK391 (Z28) hb); replace HB := Aside0.mk (below_step (Z12) hb); (try clear hb); (try clear ho0)) | ((with_reducible refine gate_dst (N := 5) rfl ?_); refine bxE 5 #[.int .i64 0, .string (⟨#[]⟩ : ByteArray), .int .i64 0, .slice none 0 0] 32 ?_; intro gb406 hg w56 hbox hb; replace HO398 := Aside0.mk (Kd.S_below (Z44) hb); replace HO405 := Aside0.mk (Kd.S_below (Z70) hb); have BK406 := Aside0.mk (hbox); have GW406 := Aside0.mk ((szE w hg (Z12))); have GE406 := Aside0.mk ((szE w hg (Z12))); replace HB := Aside0.mk (below_step (Z12) hb); have NB391_406 := Aside0.mk ((nL BK391 hg (Z28))); have NB406_391 := Aside0.mk ((nG BK391 hg (Z28))); replace BK391 := Aside0.mk (kB BK391 (Z28) hb); clear hb hbox hg; have hnb57 := NB406_391.out; have hnc57 := NB391_406.out; obtain ⟨hcz58_0, hcz58_1, hcz58_2, hcz58_3⟩ := bc4 BK406.out; obtain ⟨hfz58_0, hfz58_1, hfz58_2, hfz58_3⟩ := bf4 BK406.out; obtain ⟨Ao59, co59, eo59⟩ := Kd.S_slice HO405.out; subst eo59) | ((with_reducible refine gate_callee (f := 7) rfl ?_); refine goesL_ (some 18) rfl rfl Try.func7 (Z24) rfl #[.agg #[.int .i64 t400, .string t401, .int .i64 t402, .slice Ao59 t403.length co59]] rfl (Z1) ?_; (with_reducible refine (impl_EngineOK.calls k t400 t401 t402 _ _ t403 t407 _ ?side1 ?side2 A10.out).mono ?_); (case side1 => refine (Kd.S_reads' (e := 59) (base := w.heap.size) (ok := fun k_ => (True ∧ some k_ ≠ (.slice Ao52 t396.length co52 : Value).ownBlock)) (n := t403.length) (c := co59) ?_).2.2; exact (Z73)); (case side2 => exact (Kd.S_reads' HO405.out).2.1); rintro e w60 ⟨rfl, hb⟩; refine ⟨_, rfl, ?_⟩; replace HO398 := Aside0.mk (Kd.S_below (by (with_reducible repeat (first | apply Kd.S_alloc | apply Kd.S_drewN | apply Kd.S_drew)); exact (Kd.S_mono (Kd.S_far (p := ⟨gb406, 3, none⟩) (Kd.S_far (p := ⟨gb406, 2, none⟩) (Kd.S_far (p := ⟨gb406, 1, none⟩) (Kd.S_far (p := ⟨gb406, 0, none⟩) (Kd.S_types HO398.out BK406.out (Z79)) (fun _ hk => hk.2) (.int .i64 t400)) (fun _ hk => hk.2) (.string t401)) (fun _ hk => hk.2) (.int .i64 t402)) (fun _ hk => hk.2) (.slice Ao59 t403.length co59)) (fun _ h_ => h_.1))) hb); replace HO405 := Aside0.mk (Kd.S_below (Z73) hb); replace BK391 := Aside0.mk (kB BK391 (Z42) hb); replace BK406 := Aside0.mk (blk_below (g := gb406) (o := .cells #[.int .i64 t400, .string t401, .int .i64 t402, .slice Ao59 t403.length co59] 32 (0, 0)) (Z31) hb); replace HB := Aside0.mk (below_step (Z37) hb); (try clear hb); (try clear hk)))
    replace HO398 := Aside0.mk (Kd.S_drew HO398.out)
    replace HO405 := Aside0.mk (Kd.S_drew HO405.out)
    replace BK391 := Aside0.mk (blk_drew BK391.out)
    replace BK406 := Aside0.mk (blk_drew BK406.out)
    replace HB := Aside0.mk (below_drew1 HB.out)
    refine start_ (n := 5) (S := fun w' => w'.cell? ⟨gb406, 0, none⟩ = some (.int .i64 t400) ∧ w'.cell? ⟨gb406, 1, none⟩ = some (.string t401) ∧ w'.cell? ⟨gb406, 2, none⟩ = some (.int .i64 t402) ∧ w'.cell? ⟨gb406, 3, none⟩ = some (.slice Ao59 t403.length co59) ∧ w'.cell? ⟨gb391, 0, none⟩ = some (.int .i64 a0_0) ∧ w'.cell? ⟨gb391, 1, none⟩ = some (.string a0_1) ∧ w'.cell? ⟨gb391, 2, none⟩ = some (.int .i64 a0_2) ∧ w'.cell? ⟨gb391, 3, none⟩ = some (.slice A0_3 l0_3.length c0_3)) (ds := []) #[false, false, false, false, false] (Z24) rfl rfl (bk4 BK406.out (bc4 BK391.out)) (fun hHeld => ?_)
    generalize w60.drew = w61 at HO398 HO405 BK391 BK406 HB hHeld ⊢
    refine tA 0 22 ?_
    refine tA 1 23 ?_
    refine oA 2 24 (fun K hK => ?_)
    refine goes_ Try.func6 (Z24) rfl #[.agg #[.int .i64 a0_0, .string a0_1, .int .i64 a0_2, .slice A0_3 l0_3.length c0_3]] (Z102) rfl rfl (Z1) ?_
    with_reducible refine (laws_toEngine.calls k a0_0 a0_1 a0_2 _ _ l0_3 t408 t409 t410 t411 _ ?side1 ?side2 A26.out).mono ?_
    (case side1 => have h_ := Kd.C_below HR0_3.out HB.out; exact tC)
    (case side2 => exact HC0_3.out)
    rintro e w62 ⟨v412, rfl, ho0, hb⟩
    refine ⟨_, rfl, ?_⟩
    have HO413 := Aside0.mk (Kd.S_lower (Kd.S_new' (Kd.S_new' ho0 (Kd.S_lt (Z44))) (Kd.S_lt (Z70))) (below_size (Z37)))
    replace HO398 := Aside0.mk (Kd.S_elder' (Z44) (Kd.S_base ho0) hb)
    replace HO405 := Aside0.mk (Kd.S_elder' (Z70) (Kd.S_base ho0) hb)
    replace BK391 := Aside0.mk (kB BK391 (Z28) hb)
    replace BK406 := Aside0.mk (kB BK406 (Z123) hb)
    replace HB := Aside0.mk (below_step (Z37) hb)
    (try clear hb); (try clear hb2); (try clear hk); (try clear hi); (try clear ho0)
    obtain ⟨Ao63, co63, eo63⟩ := Kd.S_slice HO413.out
    (first | subst eo63 | (injection eo63 with f1_ f2_ f3_; have f4_ := f1_.symm; have f5_ := f3_.symm; clear f1_ f2_ f3_; subst f4_; subst f5_))
    refine hK.out _ _ (bk4 BK406.out (bc4 BK391.out)) (fun hHeld => ?_)
    clear hK K
    refine nB 24 ?_
    refine oA 3 25 (fun K hK => ?_)
    refine goes_ Try.func8 (Z24) rfl #[.agg #[.int .i64 t400, .string t401, .int .i64 t402, .slice Ao59 t403.length co59], .agg #[.int .i64 t408, .string t409, .int .i64 t410, .slice Ao63 t411.length co63]] (Z102) rfl rfl (Z1) ?_
    with_reducible refine (laws_eqEngine.calls k t400 t401 t402 _ _ t403 t408 t409 t410 _ _ t411 false _ ?side1 ?side2 ?side3 ?side4 A27.out).mono ?_
    (case side1 => have h_ := (Kd.S_reads' HO405.out).2.2; exact tC)
    (case side2 => exact (Kd.S_reads' HO405.out).2.1)
    (case side3 => have h_ := (Kd.S_reads' HO413.out).2.2; exact tC)
    (case side4 => exact (Kd.S_reads' HO413.out).2.1)
    rintro e w64 ⟨rfl, hb⟩
    refine ⟨_, rfl, ?_⟩
    replace HO398 := Aside0.mk (Kd.S_below (Z44) hb)
    replace HO405 := Aside0.mk (Kd.S_below (Z70) hb)
    replace HO413 := Aside0.mk (Kd.S_below (by (with_reducible repeat (first | apply Kd.S_alloc | apply Kd.S_drewN | apply Kd.S_drew)); exact HO413.out) hb)
    replace BK391 := Aside0.mk (kB BK391 (Z28) hb)
    replace BK406 := Aside0.mk (kB BK406 (Z123) hb)
    replace HB := Aside0.mk (below_step (Z37) hb)
    (try clear hb); (try clear hb2); (try clear hk); (try clear hi)
    refine hK.out _ _ (bk4 BK406.out (bc4 BK391.out)) (fun hHeld => ?_)
    clear hK K
    refine nB 25 ?_
    refine pA 4 26 ?_
    refine done_ (Z24) ?_
    try go_wp2
    go_ret
    exact ⟨Z2, Z37⟩

end Go.Proofs.Ytbikfhccfenkdaa.PFnExactEngineOK
