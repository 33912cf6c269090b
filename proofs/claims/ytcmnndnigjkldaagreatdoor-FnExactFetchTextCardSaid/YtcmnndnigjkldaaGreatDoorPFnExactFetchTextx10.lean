/- Contracts of functions that a statement reaches (wip/x/xprint.py, short.py, compact.py). -/
import Derived.Test.YtcmnndnigjkldaaGreatDoorPFnExactFetchTextxA
import Derived.Test.YtcmnndnigjkldaaGreatDoorPFnExactFetchTextx7
import Derived.Test.YtcmnndnigjkldaaGreatDoorPFnExactFetchTextx8
import Derived.Test.YtcmnndnigjkldaaGreatDoorPFnExactFetchTextx9
namespace Go.Proofs.YtcmnndnigjkldaaGreatDoor.PFnExactFetchText
open Go.RowKit Go.Proofs.YtcmnndnigjkldaaGreatDoorW.PrintWords Go.Proofs.YtcmnndnigjkldaaGreatDoorW.PrintLast Go.Proofs.YtcmnndnigjkldaaGreatDoorW.PrintMore Go.Proofs.YtcmnndnigjkldaaGreatDoor.Mac
attribute [local go_sem] max2_int min2_int max_two min_two max_three min_three max_four min_four
set_option linter.unusedVariables false
set_option linter.unusedSimpArgs false

/-! ### impl_unfold: function 58 -/
def impl_unfold.f (k : Nat) (a0 : ByteArray) : Option (ByteArray × ByteArray × Bool) := (strings_Cut.f a0 (⟨#[58]⟩ : ByteArray)).bind fun bt273 => ((strings_CutPrefix.f bt273.2.1 (⟨#[32]⟩ : ByteArray)).bind fun bt276 => ((strings_CutSuffix.f bt276.1 (⟨#[13, 10]⟩ : ByteArray)).bind fun bt278 => ((strings_ReplaceAll.f bt278.1 (⟨#[13, 10, 32]⟩ : ByteArray) (⟨#[32]⟩ : ByteArray)).bind fun t280 => (if bt273.2.2 = true then (if bt276.2 = true then (if bt278.2 = true then ((impl_HeaderNameOK.f k bt273.1).bind fun t281 => (if t281 = true then ((impl_SafeValue.f k t280).bind fun t282 => (if t282 = true then (some (bt273.1, t280, true)) else (some ((⟨#[]⟩ : ByteArray), (⟨#[]⟩ : ByteArray), false)))) else (some ((⟨#[]⟩ : ByteArray), (⟨#[]⟩ : ByteArray), false)))) else (some ((⟨#[]⟩ : ByteArray), (⟨#[]⟩ : ByteArray), false))) else (some ((⟨#[]⟩ : ByteArray), (⟨#[]⟩ : ByteArray), false))) else (some ((⟨#[]⟩ : ByteArray), (⟨#[]⟩ : ByteArray), false))))))
theorem impl_unfold.mono : ∀ a0 k, LeO (impl_unfold.f k a0) (impl_unfold.f (k + 1) a0) := by
 intro a0 k
 unfold impl_unfold.f
 have m0 := @impl_HeaderNameOK.mono
 have m1 := @impl_SafeValue.mono
 exact tM
set_option maxHeartbeats 40000000 in
set_option maxRecDepth 100000 in
theorem impl_unfold.calls (k : Nat) (a0 : ByteArray) (r1 : ByteArray) (r2 : ByteArray) (r3 : Bool) (w : World) (HG : Aside0 (Glob w)) (h : impl_unfold.f k a0 = some (r1, r2, r3)) :
  Calls Tryz.prog 58 #[.string a0] w fun e w' => e = .returned (.tuple #[.string r1, .string r2, .bool r3]) ∧ Below w.heap.size w w' := by
 have HB := Aside0.mk (Below.refl w.heap.size w)
 have H : ((strings_Cut.f a0 (⟨#[58]⟩ : ByteArray)).bind fun bt273 => ((strings_CutPrefix.f bt273.2.1 (⟨#[32]⟩ : ByteArray)).bind fun bt276 => ((strings_CutSuffix.f bt276.1 (⟨#[13, 10]⟩ : ByteArray)).bind fun bt278 => ((strings_ReplaceAll.f bt278.1 (⟨#[13, 10, 32]⟩ : ByteArray) (⟨#[32]⟩ : ByteArray)).bind fun t280 => (if bt273.2.2 = true then (if bt276.2 = true then (if bt278.2 = true then ((impl_HeaderNameOK.f k bt273.1).bind fun t281 => (if t281 = true then ((impl_SafeValue.f k t280).bind fun t282 => (if t282 = true then (some (bt273.1, t280, true)) else (some ((⟨#[]⟩ : ByteArray), (⟨#[]⟩ : ByteArray), false)))) else (some ((⟨#[]⟩ : ByteArray), (⟨#[]⟩ : ByteArray), false)))) else (some ((⟨#[]⟩ : ByteArray), (⟨#[]⟩ : ByteArray), false))) else (some ((⟨#[]⟩ : ByteArray), (⟨#[]⟩ : ByteArray), false))) else (some ((⟨#[]⟩ : ByteArray), (⟨#[]⟩ : ByteArray), false))))))) = some (r1, r2, r3) := h
 clear h
 obtain ⟨⟨t273, t274, t275⟩, A2, H⟩ := bindA H
 try dsimp only at H
 obtain ⟨⟨t276, t277⟩, A3, H⟩ := bindA H
 try dsimp only at H
 obtain ⟨⟨t278, t279⟩, A4, H⟩ := bindA H
 try dsimp only at H
 obtain ⟨t280, A5, H⟩ := bindA H
 try dsimp only at H
 by_cases c6 : t275 = true
 ·subst c6
  replace H := ifT H
  by_cases c7 : t277 = true
  ·subst c7
   replace H := ifT H
   by_cases c8 : t279 = true
   ·subst c8
    replace H := ifT H
    obtain ⟨t281, A9, H⟩ := bindA H
    try dsimp only at H
    by_cases c10 : t281 = true
    ·subst c10
     replace H := ifT H
     obtain ⟨t282, A11, H⟩ := bindA H
     try dsimp only at H
     by_cases c12 : t282 = true
     ·subst c12
      replace H := ifT H
      simp only [Option.some.injEq, Prod.mk.injEq] at H
      obtain ⟨rfl, rfl, rfl⟩ := H
      go_enter Tryz.func58, Tryz.ntmps58
      go_wp2_with (first | ((with_reducible refine gate_callee (f := 33) rfl ?_); refine goesL_ (some 13) rfl rfl Tryz.func33 (Z20) rfl #[.string a0, .string (⟨#[58]⟩ : ByteArray)] rfl (Z1) ?_; (with_reducible refine (strings_Cut.calls a0 (⟨#[58]⟩ : ByteArray) t273 t274 true _ ?side1 A2.out).mono ?_); (case side1 => first | exact HG | exact ⟨HG.out.of rfl⟩ | (refine ⟨HG.out.on ?_⟩; (repeat (first | (with_reducible first | exact HB.out | apply below_alloc | apply pw_below_drewN | apply below_drew1) | exact HB.out)); done) | exact ⟨HG.out.on HBW.out⟩); rintro e w' ⟨rfl, ⟨nd, rfl⟩⟩; refine ⟨_, rfl, ?_⟩) | ((with_reducible refine gate_callee (f := 76) rfl ?_); refine goesL_ (some 19) rfl rfl Tryz.func76 (Z20) rfl #[.string t274, .string (⟨#[32]⟩ : ByteArray)] rfl (Z1) ?_; (with_reducible refine (strings_CutPrefix.calls t274 (⟨#[32]⟩ : ByteArray) t276 true _ A3.out).mono ?_); rintro e w' ⟨rfl, ⟨nd, rfl⟩⟩; refine ⟨_, rfl, ?_⟩) | ((with_reducible refine gate_callee (f := 34) rfl ?_); refine goesL_ (some 24) rfl rfl Tryz.func34 (Z20) rfl #[.string t276, .string (⟨#[13, 10]⟩ : ByteArray)] rfl (Z1) ?_; (with_reducible refine (strings_CutSuffix.calls t276 (⟨#[13, 10]⟩ : ByteArray) t278 true _ A4.out).mono ?_); rintro e w' ⟨rfl, ⟨nd, rfl⟩⟩; refine ⟨_, rfl, ?_⟩) | ((with_reducible refine gate_callee (f := 77) rfl ?_); refine goesL_ (some 28) rfl rfl Tryz.func77 (Z20) rfl #[.string t278, .string (⟨#[13, 10, 32]⟩ : ByteArray), .string (⟨#[32]⟩ : ByteArray)] rfl (Z1) ?_; (with_reducible refine (strings_ReplaceAll.calls t278 (⟨#[13, 10, 32]⟩ : ByteArray) (⟨#[32]⟩ : ByteArray) t280 _ ?side1 A5.out).mono ?_); (case side1 => first | exact HG | exact ⟨HG.out.of rfl⟩ | (refine ⟨HG.out.on ?_⟩; (repeat (first | (with_reducible first | exact HB.out | apply below_alloc | apply pw_below_drewN | apply below_drew1) | exact HB.out)); done) | exact ⟨HG.out.on HBW.out⟩); rintro e w13 ⟨rfl, hb⟩; refine ⟨_, rfl, ?_⟩; replace HB := Aside0.mk (below_step (Z0) hb); (try clear hb); (try clear hb2); (try clear hk); (try clear hi)) | (go_at_call 78; (with_reducible refine (impl_HeaderNameOK.calls k t273 true _ ?side1 A9.out).mono ?_); (case side1 => first | exact HG | exact ⟨HG.out.of rfl⟩ | (refine ⟨HG.out.on ?_⟩; (repeat (first | (with_reducible first | exact HB.out | apply below_alloc | apply pw_below_drewN | apply below_drew1) | exact HB.out)); done) | exact ⟨HG.out.on HBW.out⟩); rintro e w' ⟨rfl, ⟨nd, rfl⟩⟩) | (go_at_call 79; (with_reducible refine (impl_SafeValue.calls k t280 true _ ?side1 A11.out).mono ?_); (case side1 => first | exact HG | exact ⟨HG.out.of rfl⟩ | (refine ⟨HG.out.on ?_⟩; (repeat (first | (with_reducible first | exact HB.out | apply below_alloc | apply pw_below_drewN | apply below_drew1) | exact HB.out)); done) | exact ⟨HG.out.on HBW.out⟩); rintro e w14 ⟨rfl, hb⟩; replace HB := Aside0.mk (below_step (Z0) hb); (try clear hb); (try clear hb2); (try clear hk); (try clear hi)))
      go_ret3
      exact ⟨Z3, Z0⟩
     ·replace c12 := Bool.eq_false_iff.mpr c12
      subst c12
      replace H := ifF H
      simp only [Option.some.injEq, Prod.mk.injEq] at H
      obtain ⟨rfl, rfl, rfl⟩ := H
      go_enter Tryz.func58, Tryz.ntmps58
      go_wp2_with (first | ((with_reducible refine gate_callee (f := 33) rfl ?_); refine goesL_ (some 13) rfl rfl Tryz.func33 (Z20) rfl #[.string a0, .string (⟨#[58]⟩ : ByteArray)] rfl (Z1) ?_; (with_reducible refine (strings_Cut.calls a0 (⟨#[58]⟩ : ByteArray) t273 t274 true _ ?side1 A2.out).mono ?_); (case side1 => first | exact HG | exact ⟨HG.out.of rfl⟩ | (refine ⟨HG.out.on ?_⟩; (repeat (first | (with_reducible first | exact HB.out | apply below_alloc | apply pw_below_drewN | apply below_drew1) | exact HB.out)); done) | exact ⟨HG.out.on HBW.out⟩); rintro e w' ⟨rfl, ⟨nd, rfl⟩⟩; refine ⟨_, rfl, ?_⟩) | ((with_reducible refine gate_callee (f := 76) rfl ?_); refine goesL_ (some 19) rfl rfl Tryz.func76 (Z20) rfl #[.string t274, .string (⟨#[32]⟩ : ByteArray)] rfl (Z1) ?_; (with_reducible refine (strings_CutPrefix.calls t274 (⟨#[32]⟩ : ByteArray) t276 true _ A3.out).mono ?_); rintro e w' ⟨rfl, ⟨nd, rfl⟩⟩; refine ⟨_, rfl, ?_⟩) | ((with_reducible refine gate_callee (f := 34) rfl ?_); refine goesL_ (some 24) rfl rfl Tryz.func34 (Z20) rfl #[.string t276, .string (⟨#[13, 10]⟩ : ByteArray)] rfl (Z1) ?_; (with_reducible refine (strings_CutSuffix.calls t276 (⟨#[13, 10]⟩ : ByteArray) t278 true _ A4.out).mono ?_); rintro e w' ⟨rfl, ⟨nd, rfl⟩⟩; refine ⟨_, rfl, ?_⟩) | ((with_reducible refine gate_callee (f := 77) rfl ?_); refine goesL_ (some 28) rfl rfl Tryz.func77 (Z20) rfl #[.string t278, .string (⟨#[13, 10, 32]⟩ : ByteArray), .string (⟨#[32]⟩ : ByteArray)] rfl (Z1) ?_; (with_reducible refine (strings_ReplaceAll.calls t278 (⟨#[13, 10, 32]⟩ : ByteArray) (⟨#[32]⟩ : ByteArray) t280 _ ?side1 A5.out).mono ?_); (case side1 => first | exact HG | exact ⟨HG.out.of rfl⟩ | (refine ⟨HG.out.on ?_⟩; (repeat (first | (with_reducible first | exact HB.out | apply below_alloc | apply pw_below_drewN | apply below_drew1) | exact HB.out)); done) | exact ⟨HG.out.on HBW.out⟩); rintro e w15 ⟨rfl, hb⟩; refine ⟨_, rfl, ?_⟩; replace HB := Aside0.mk (below_step (Z0) hb); (try clear hb); (try clear hb2); (try clear hk); (try clear hi)) | (go_at_call 78; (with_reducible refine (impl_HeaderNameOK.calls k t273 true _ ?side1 A9.out).mono ?_); (case side1 => first | exact HG | exact ⟨HG.out.of rfl⟩ | (refine ⟨HG.out.on ?_⟩; (repeat (first | (with_reducible first | exact HB.out | apply below_alloc | apply pw_below_drewN | apply below_drew1) | exact HB.out)); done) | exact ⟨HG.out.on HBW.out⟩); rintro e w' ⟨rfl, ⟨nd, rfl⟩⟩) | (go_at_call 79; (with_reducible refine (impl_SafeValue.calls k t280 false _ ?side1 A11.out).mono ?_); (case side1 => first | exact HG | exact ⟨HG.out.of rfl⟩ | (refine ⟨HG.out.on ?_⟩; (repeat (first | (with_reducible first | exact HB.out | apply below_alloc | apply pw_below_drewN | apply below_drew1) | exact HB.out)); done) | exact ⟨HG.out.on HBW.out⟩); rintro e w16 ⟨rfl, hb⟩; replace HB := Aside0.mk (below_step (Z0) hb); (try clear hb); (try clear hb2); (try clear hk); (try clear hi)))
      go_ret3
      exact ⟨Z3, Z0⟩
    ·replace c10 := Bool.eq_false_iff.mpr c10
     subst c10
     replace H := ifF H
     simp only [Option.some.injEq, Prod.mk.injEq] at H
     obtain ⟨rfl, rfl, rfl⟩ := H
     go_enter Tryz.func58, Tryz.ntmps58
     go_wp2_with (first | ((with_reducible refine gate_callee (f := 33) rfl ?_); refine goesL_ (some 13) rfl rfl Tryz.func33 (Z20) rfl #[.string a0, .string (⟨#[58]⟩ : ByteArray)] rfl (Z1) ?_; (with_reducible refine (strings_Cut.calls a0 (⟨#[58]⟩ : ByteArray) t273 t274 true _ ?side1 A2.out).mono ?_); (case side1 => first | exact HG | exact ⟨HG.out.of rfl⟩ | (refine ⟨HG.out.on ?_⟩; (repeat (first | (with_reducible first | exact HB.out | apply below_alloc | apply pw_below_drewN | apply below_drew1) | exact HB.out)); done) | exact ⟨HG.out.on HBW.out⟩); rintro e w' ⟨rfl, ⟨nd, rfl⟩⟩; refine ⟨_, rfl, ?_⟩) | ((with_reducible refine gate_callee (f := 76) rfl ?_); refine goesL_ (some 19) rfl rfl Tryz.func76 (Z20) rfl #[.string t274, .string (⟨#[32]⟩ : ByteArray)] rfl (Z1) ?_; (with_reducible refine (strings_CutPrefix.calls t274 (⟨#[32]⟩ : ByteArray) t276 true _ A3.out).mono ?_); rintro e w' ⟨rfl, ⟨nd, rfl⟩⟩; refine ⟨_, rfl, ?_⟩) | ((with_reducible refine gate_callee (f := 34) rfl ?_); refine goesL_ (some 24) rfl rfl Tryz.func34 (Z20) rfl #[.string t276, .string (⟨#[13, 10]⟩ : ByteArray)] rfl (Z1) ?_; (with_reducible refine (strings_CutSuffix.calls t276 (⟨#[13, 10]⟩ : ByteArray) t278 true _ A4.out).mono ?_); rintro e w' ⟨rfl, ⟨nd, rfl⟩⟩; refine ⟨_, rfl, ?_⟩) | ((with_reducible refine gate_callee (f := 77) rfl ?_); refine goesL_ (some 28) rfl rfl Tryz.func77 (Z20) rfl #[.string t278, .string (⟨#[13, 10, 32]⟩ : ByteArray), .string (⟨#[32]⟩ : ByteArray)] rfl (Z1) ?_; (with_reducible refine (strings_ReplaceAll.calls t278 (⟨#[13, 10, 32]⟩ : ByteArray) (⟨#[32]⟩ : ByteArray) t280 _ ?side1 A5.out).mono ?_); (case side1 => first | exact HG | exact ⟨HG.out.of rfl⟩ | (refine ⟨HG.out.on ?_⟩; (repeat (first | (with_reducible first | exact HB.out | apply below_alloc | apply pw_below_drewN | apply below_drew1) | exact HB.out)); done) | exact ⟨HG.out.on HBW.out⟩); rintro e w17 ⟨rfl, hb⟩; refine ⟨_, rfl, ?_⟩; replace HB := Aside0.mk (below_step (Z0) hb); (try clear hb); (try clear hb2); (try clear hk); (try clear hi)) | (go_at_call 78; (with_reducible refine (impl_HeaderNameOK.calls k t273 false _ ?side1 A9.out).mono ?_); (case side1 => first | exact HG | exact ⟨HG.out.of rfl⟩ | (refine ⟨HG.out.on ?_⟩; (repeat (first | (with_reducible first | exact HB.out | apply below_alloc | apply pw_below_drewN | apply below_drew1) | exact HB.out)); done) | exact ⟨HG.out.on HBW.out⟩); rintro e w' ⟨rfl, ⟨nd, rfl⟩⟩))
     go_ret3
     exact ⟨Z3, Z0⟩
   ·replace c8 := Bool.eq_false_iff.mpr c8
    subst c8
    replace H := ifF H
    simp only [Option.some.injEq, Prod.mk.injEq] at H
    obtain ⟨rfl, rfl, rfl⟩ := H
    go_enter Tryz.func58, Tryz.ntmps58
    go_wp2_with (first | ((with_reducible refine gate_callee (f := 33) rfl ?_); refine goesL_ (some 13) rfl rfl Tryz.func33 (Z20) rfl #[.string a0, .string (⟨#[58]⟩ : ByteArray)] rfl (Z1) ?_; (with_reducible refine (strings_Cut.calls a0 (⟨#[58]⟩ : ByteArray) t273 t274 true _ ?side1 A2.out).mono ?_); (case side1 => first | exact HG | exact ⟨HG.out.of rfl⟩ | (refine ⟨HG.out.on ?_⟩; (repeat (first | (with_reducible first | exact HB.out | apply below_alloc | apply pw_below_drewN | apply below_drew1) | exact HB.out)); done) | exact ⟨HG.out.on HBW.out⟩); rintro e w' ⟨rfl, ⟨nd, rfl⟩⟩; refine ⟨_, rfl, ?_⟩) | ((with_reducible refine gate_callee (f := 76) rfl ?_); refine goesL_ (some 19) rfl rfl Tryz.func76 (Z20) rfl #[.string t274, .string (⟨#[32]⟩ : ByteArray)] rfl (Z1) ?_; (with_reducible refine (strings_CutPrefix.calls t274 (⟨#[32]⟩ : ByteArray) t276 true _ A3.out).mono ?_); rintro e w' ⟨rfl, ⟨nd, rfl⟩⟩; refine ⟨_, rfl, ?_⟩) | ((with_reducible refine gate_callee (f := 34) rfl ?_); refine goesL_ (some 24) rfl rfl Tryz.func34 (Z20) rfl #[.string t276, .string (⟨#[13, 10]⟩ : ByteArray)] rfl (Z1) ?_; (with_reducible refine (strings_CutSuffix.calls t276 (⟨#[13, 10]⟩ : ByteArray) t278 false _ A4.out).mono ?_); rintro e w' ⟨rfl, ⟨nd, rfl⟩⟩; refine ⟨_, rfl, ?_⟩) | ((with_reducible refine gate_callee (f := 77) rfl ?_); refine goesL_ (some 28) rfl rfl Tryz.func77 (Z20) rfl #[.string t278, .string (⟨#[13, 10, 32]⟩ : ByteArray), .string (⟨#[32]⟩ : ByteArray)] rfl (Z1) ?_; (with_reducible refine (strings_ReplaceAll.calls t278 (⟨#[13, 10, 32]⟩ : ByteArray) (⟨#[32]⟩ : ByteArray) t280 _ ?side1 A5.out).mono ?_); (case side1 => first | exact HG | exact ⟨HG.out.of rfl⟩ | (refine ⟨HG.out.on ?_⟩; (repeat (first | (with_reducible first | exact HB.out | apply below_alloc | apply pw_below_drewN | apply below_drew1) | exact HB.out)); done) | exact ⟨HG.out.on HBW.out⟩); rintro e w18 ⟨rfl, hb⟩; refine ⟨_, rfl, ?_⟩; replace HB := Aside0.mk (below_step (Z0) hb); (try clear hb); (try clear hb2); (try clear hk); (try clear hi)))
    go_ret3
    exact ⟨Z3, Z0⟩
  ·replace c7 := Bool.eq_false_iff.mpr c7
   subst c7
   replace H := ifF H
   simp only [Option.some.injEq, Prod.mk.injEq] at H
   obtain ⟨rfl, rfl, rfl⟩ := H
   go_enter Tryz.func58, Tryz.ntmps58
   go_wp2_with (first | ((with_reducible refine gate_callee (f := 33) rfl ?_); refine goesL_ (some 13) rfl rfl Tryz.func33 (Z20) rfl #[.string a0, .string (⟨#[58]⟩ : ByteArray)] rfl (Z1) ?_; (with_reducible refine (strings_Cut.calls a0 (⟨#[58]⟩ : ByteArray) t273 t274 true _ ?side1 A2.out).mono ?_); (case side1 => first | exact HG | exact ⟨HG.out.of rfl⟩ | (refine ⟨HG.out.on ?_⟩; (repeat (first | (with_reducible first | exact HB.out | apply below_alloc | apply pw_below_drewN | apply below_drew1) | exact HB.out)); done) | exact ⟨HG.out.on HBW.out⟩); rintro e w' ⟨rfl, ⟨nd, rfl⟩⟩; refine ⟨_, rfl, ?_⟩) | ((with_reducible refine gate_callee (f := 76) rfl ?_); refine goesL_ (some 19) rfl rfl Tryz.func76 (Z20) rfl #[.string t274, .string (⟨#[32]⟩ : ByteArray)] rfl (Z1) ?_; (with_reducible refine (strings_CutPrefix.calls t274 (⟨#[32]⟩ : ByteArray) t276 false _ A3.out).mono ?_); rintro e w' ⟨rfl, ⟨nd, rfl⟩⟩; refine ⟨_, rfl, ?_⟩) | ((with_reducible refine gate_callee (f := 34) rfl ?_); refine goesL_ (some 24) rfl rfl Tryz.func34 (Z20) rfl #[.string t276, .string (⟨#[13, 10]⟩ : ByteArray)] rfl (Z1) ?_; (with_reducible refine (strings_CutSuffix.calls t276 (⟨#[13, 10]⟩ : ByteArray) t278 t279 _ A4.out).mono ?_); rintro e w' ⟨rfl, ⟨nd, rfl⟩⟩; refine ⟨_, rfl, ?_⟩) | ((with_reducible refine gate_callee (f := 77) rfl ?_); refine goesL_ (some 28) rfl rfl Tryz.func77 (Z20) rfl #[.string t278, .string (⟨#[13, 10, 32]⟩ : ByteArray), .string (⟨#[32]⟩ : ByteArray)] rfl (Z1) ?_; (with_reducible refine (strings_ReplaceAll.calls t278 (⟨#[13, 10, 32]⟩ : ByteArray) (⟨#[32]⟩ : ByteArray) t280 _ ?side1 A5.out).mono ?_); (case side1 => first | exact HG | exact ⟨HG.out.of rfl⟩ | (refine ⟨HG.out.on ?_⟩; (repeat (first | (with_reducible first | exact HB.out | apply below_alloc | apply pw_below_drewN | apply below_drew1) | exact HB.out)); done) | exact ⟨HG.out.on HBW.out⟩); rintro e w19 ⟨rfl, hb⟩; refine ⟨_, rfl, ?_⟩; replace HB := Aside0.mk (below_step (Z0) hb); (try clear hb); (try clear hb2); (try clear hk); (try clear hi)))
   go_ret3
   exact ⟨Z3, Z0⟩
 ·replace c6 := Bool.eq_false_iff.mpr c6
  subst c6
  replace H := ifF H
  simp only [Option.some.injEq, Prod.mk.injEq] at H
  obtain ⟨rfl, rfl, rfl⟩ := H
  go_enter Tryz.func58, Tryz.ntmps58
  go_wp2_with (first | ((with_reducible refine gate_callee (f := 33) rfl ?_); refine goesL_ (some 13) rfl rfl Tryz.func33 (Z20) rfl #[.string a0, .string (⟨#[58]⟩ : ByteArray)] rfl (Z1) ?_; (with_reducible refine (strings_Cut.calls a0 (⟨#[58]⟩ : ByteArray) t273 t274 false _ ?side1 A2.out).mono ?_); (case side1 => first | exact HG | exact ⟨HG.out.of rfl⟩ | (refine ⟨HG.out.on ?_⟩; (repeat (first | (with_reducible first | exact HB.out | apply below_alloc | apply pw_below_drewN | apply below_drew1) | exact HB.out)); done) | exact ⟨HG.out.on HBW.out⟩); rintro e w' ⟨rfl, ⟨nd, rfl⟩⟩; refine ⟨_, rfl, ?_⟩) | ((with_reducible refine gate_callee (f := 76) rfl ?_); refine goesL_ (some 19) rfl rfl Tryz.func76 (Z20) rfl #[.string t274, .string (⟨#[32]⟩ : ByteArray)] rfl (Z1) ?_; (with_reducible refine (strings_CutPrefix.calls t274 (⟨#[32]⟩ : ByteArray) t276 t277 _ A3.out).mono ?_); rintro e w' ⟨rfl, ⟨nd, rfl⟩⟩; refine ⟨_, rfl, ?_⟩) | ((with_reducible refine gate_callee (f := 34) rfl ?_); refine goesL_ (some 24) rfl rfl Tryz.func34 (Z20) rfl #[.string t276, .string (⟨#[13, 10]⟩ : ByteArray)] rfl (Z1) ?_; (with_reducible refine (strings_CutSuffix.calls t276 (⟨#[13, 10]⟩ : ByteArray) t278 t279 _ A4.out).mono ?_); rintro e w' ⟨rfl, ⟨nd, rfl⟩⟩; refine ⟨_, rfl, ?_⟩) | ((with_reducible refine gate_callee (f := 77) rfl ?_); refine goesL_ (some 28) rfl rfl Tryz.func77 (Z20) rfl #[.string t278, .string (⟨#[13, 10, 32]⟩ : ByteArray), .string (⟨#[32]⟩ : ByteArray)] rfl (Z1) ?_; (with_reducible refine (strings_ReplaceAll.calls t278 (⟨#[13, 10, 32]⟩ : ByteArray) (⟨#[32]⟩ : ByteArray) t280 _ ?side1 A5.out).mono ?_); (case side1 => first | exact HG | exact ⟨HG.out.of rfl⟩ | (refine ⟨HG.out.on ?_⟩; (repeat (first | (with_reducible first | exact HB.out | apply below_alloc | apply pw_below_drewN | apply below_drew1) | exact HB.out)); done) | exact ⟨HG.out.on HBW.out⟩); rintro e w20 ⟨rfl, hb⟩; refine ⟨_, rfl, ?_⟩; replace HB := Aside0.mk (below_step (Z0) hb); (try clear hb); (try clear hb2); (try clear hk); (try clear hi)))
  go_ret3
  exact ⟨Z3, Z0⟩

/-! ### impl_parseMail: function 47 -/
mutual
def impl_parseMail.j0 : Nat → ByteArray → Int → Bool → Option ((List (S84)) × ByteArray × Bool)
 | 0, _, _, _ => none
 | k + 1, x0, x4, x19 => if x19 = true then (some (([] : List (S84)), (⟨#[]⟩ : ByteArray), false)) else (if 0 ≤ (wrap64 (x4 + 2)) then (if (wrap64 (x4 + 2)) ≤ (x0.size : Int) then (if 0 ≤ x4 then (if x4 ≤ (x0.size : Int) then (impl_parseMail.l0 k (x0.extract 0 (x4 : Int).toNat) ([] : List (S84)) (x0.extract ((wrap64 (x4 + 2)) : Int).toNat x0.size)) else (none)) else (none)) else (none)) else (none))
def impl_parseMail.l0 : Nat → ByteArray → List (S84) → ByteArray → Option ((List (S84)) × ByteArray × Bool)
 | 0, _, _, _ => none
 | k + 1, x6, x287000, x287001 => if x6.toList = ([] : List UInt8) then (some (x287000, x287001, true)) else ((strings_Index.f x6 (⟨#[13, 10]⟩ : ByteArray)).bind fun t287 => (impl_parseMail.l1 k x6 (wrap64 (t287 + 2)) x287000 x287001))
def impl_parseMail.l1 : Nat → ByteArray → Int → List (S84) → ByteArray → Option ((List (S84)) × ByteArray × Bool)
 | 0, _, _, _, _ => none
 | k + 1, x6, x7, x287000, x287001 => if x7 < (x6.size : Int) then (if 0 ≤ x7 then (if (bt x6 x7) = 32 then (if x7 ≤ (x6.size : Int) then ((strings_Index.f (x6.extract (x7 : Int).toNat x6.size) (⟨#[13, 10]⟩ : ByteArray)).bind fun t288 => (impl_parseMail.l1 k x6 (wrap64 (x7 + (wrap64 (t288 + 2)))) x287000 x287001)) else (none)) else (if x7 ≤ (x6.size : Int) then ((impl_unfold.f k (x6.extract 0 (x7 : Int).toNat)).bind fun bt289 => (if bt289.2.2 = true then (if (x287000.length : Int) = 40 then (some (([] : List (S84)), (⟨#[]⟩ : ByteArray), false)) else (if x287000.length < 4398046511104 then (impl_parseMail.l0 k (x6.extract (x7 : Int).toNat x6.size) (x287000 ++ [(⟨bt289.1, bt289.2.1⟩ : S84)]) x287001) else (none))) else (some (([] : List (S84)), (⟨#[]⟩ : ByteArray), false)))) else (none))) else (none)) else (if 0 ≤ x7 then (if x7 ≤ (x6.size : Int) then ((impl_unfold.f k (x6.extract 0 (x7 : Int).toNat)).bind fun bt295 => (if bt295.2.2 = true then (if (x287000.length : Int) = 40 then (some (([] : List (S84)), (⟨#[]⟩ : ByteArray), false)) else (if x287000.length < 4398046511104 then (impl_parseMail.l0 k (x6.extract (x7 : Int).toNat x6.size) (x287000 ++ [(⟨bt295.1, bt295.2.1⟩ : S84)]) x287001) else (none))) else (some (([] : List (S84)), (⟨#[]⟩ : ByteArray), false)))) else (none)) else (none))
end
def impl_parseMail.f (k : Nat) (a0 : ByteArray) : Option ((List (S84)) × ByteArray × Bool) := (impl_headEnd.f a0).bind fun t284 => ((impl_MailOK.f k a0).bind fun t285 => (if t285 = true then (impl_parseMail.j0 k a0 t284 (decide (t284 < 0))) else (impl_parseMail.j0 k a0 t284 true)))
theorem impl_parseMail.mono_l : ∀ k, (∀ y0 y1 y2, LeO (impl_parseMail.j0 k y0 y1 y2) (impl_parseMail.j0 (k + 1) y0 y1 y2)) ∧ (∀ y0 y1 y2, LeO (impl_parseMail.l0 k y0 y1 y2) (impl_parseMail.l0 (k + 1) y0 y1 y2)) ∧ (∀ y0 y1 y2 y3, LeO (impl_parseMail.l1 k y0 y1 y2 y3) (impl_parseMail.l1 (k + 1) y0 y1 y2 y3))
 | 0 => ⟨fun _ _ _ r h => by simp [impl_parseMail.j0] at h, fun _ _ _ r h => by simp [impl_parseMail.l0] at h, fun _ _ _ _ r h => by simp [impl_parseMail.l1] at h⟩
 | k + 1 => by
  obtain ⟨ih0, ih1, ih2⟩ := impl_parseMail.mono_l k
  refine ⟨?_, ?_, ?_⟩
  ·intro y0 y1 y2
   unfold impl_parseMail.j0
   have m0 := @impl_MailOK.mono
   have m1 := @impl_unfold.mono
   exact tM
  ·intro y0 y1 y2
   unfold impl_parseMail.l0
   have m0 := @impl_MailOK.mono
   have m1 := @impl_unfold.mono
   exact tM
  ·intro y0 y1 y2 y3
   unfold impl_parseMail.l1
   have m0 := @impl_MailOK.mono
   have m1 := @impl_unfold.mono
   exact tM
theorem impl_parseMail.mono : ∀ a0 k, LeO (impl_parseMail.f k a0) (impl_parseMail.f (k + 1) a0) := by
 intro a0 k
 obtain ⟨ih0, ih1, ih2⟩ := impl_parseMail.mono_l k
 unfold impl_parseMail.f
 have m0 := @impl_MailOK.mono
 have m1 := @impl_unfold.mono
 exact tM
set_option maxHeartbeats 40000000 in
set_option maxRecDepth 100000 in
theorem impl_parseMail.calls (k : Nat) (a0 : ByteArray) (r1 : List (S84)) (r2 : ByteArray) (r3 : Bool) (w : World) (HG : Aside0 (Glob w)) (h : impl_parseMail.f k a0 = some (r1, r2, r3)) :
  Calls Tryz.prog 47 #[.string a0] w fun e w' => ∃ v0_ : Value, e = .returned (.tuple #[.agg #[v0_, .string r2], .bool r3]) ∧ Kd.R k84 84 w' w.heap.size (fun _ => True) v0_ r1 ∧ Below w.heap.size w w' := by
 have hu60 := Tryz.underlying60
 have hu84 := Tryz.underlying84
 have HB := Aside0.mk (Below.refl w.heap.size w)
 have H : ((impl_headEnd.f a0).bind fun t284 => ((impl_MailOK.f k a0).bind fun t285 => (if t285 = true then (impl_parseMail.j0 k a0 t284 (decide (t284 < 0))) else (impl_parseMail.j0 k a0 t284 true)))) = some (r1, r2, r3) := h
 clear h
 obtain ⟨t284, A2, H⟩ := bindA H
 try dsimp only at H
 have HC3 := Aside0.mk H
 clear H
 go_enter Tryz.func47, Tryz.ntmps47
 go_upto_region 2 with (first | ((with_reducible refine gate_dst (N := 2) rfl ?_); (try (refine gate_guard (by rfl) ?_; dsimp only)); refine bxE 2 #[.slice none 0 0, .string (⟨#[]⟩ : ByteArray)] 60 ?_; intro gb283 hg w4 hbox hb; have BK283 := Aside0.mk (hbox); have GW283 := Aside0.mk ((szE w hg (Z0))); have GE283 := Aside0.mk ((szE w hg (Z0))); replace HB := Aside0.mk (below_step (Z0) hb); clear hb hbox hg) | ((with_reducible refine gate_callee (f := 55) rfl ?_); refine goesL_ (some 12) rfl rfl Tryz.func55 (Z20) rfl #[.string a0] rfl (Z1) ?_; (with_reducible refine (impl_headEnd.calls a0 t284 _ ?side1 A2.out).mono ?_); (case side1 => first | exact HG | exact ⟨HG.out.of rfl⟩ | (refine ⟨HG.out.on ?_⟩; (repeat (first | (with_reducible first | exact HB.out | apply below_alloc | apply pw_below_drewN | apply below_drew1 | refine below_set ?_ GE283.out) | exact HB.out)); done) | exact ⟨HG.out.on HBW.out⟩); rintro e w' ⟨rfl, ⟨nd, rfl⟩⟩; refine ⟨_, rfl, ?_⟩))
 (try simp only [Act.put, List.setIfInBounds_toArray, List.set_cons_zero, List.set_cons_succ])
 go_cut [19] (fun v19 wc => ∃ (kq : Nat) (x19_2 : Bool), v19 = .bool x19_2 ∧ Aside0 (impl_parseMail.j0 kq a0 t284 x19_2 = some (r1, r2, r3)) ∧ Aside0 (kq ≤ k) ∧ Aside0 (wc.heap[gb283]? = some (.cells #[(.slice none 0 0), .string (⟨#[]⟩ : ByteArray)] 60 (0, 0))) ∧ Aside0 (Below w.heap.size w wc))
 case first =>
  have H := HC3.out
  clear HC3
  obtain ⟨t285, A5, H⟩ := bindA H
  try dsimp only at H
  by_cases c6 : t285 = true
  ·subst c6
   replace H := ifT H
   have H' := Aside0.mk H
   clear H
   go_wp2_with (first | ((with_reducible refine gate_callee (f := 56) rfl ?_); refine goesL_ (some 14) rfl rfl Tryz.func56 (Z20) rfl #[.string a0] rfl (Z1) ?_; (with_reducible refine (impl_MailOK.calls k a0 true _ ?side1 A5.out).mono ?_); (case side1 => first | exact HG | exact ⟨HG.out.of rfl⟩ | (refine ⟨HG.out.on ?_⟩; (repeat (first | (with_reducible first | exact HB.out | apply below_alloc | apply pw_below_drewN | apply below_drew1 | refine below_set ?_ GE283.out) | exact HB.out)); done) | exact ⟨HG.out.on HBW.out⟩); rintro e w7 ⟨rfl, hb⟩; refine ⟨_, rfl, ?_⟩; replace BK283 := Aside0.mk (kB BK283 (Z23) hb); replace HB := Aside0.mk (below_step (Z33) hb); (try clear hb)))
   go_meet
   case rel => exact ⟨_, (decide (t284 < 0)), (Z2), H', ⟨Z40⟩, ⟨Z23⟩, ⟨Z33⟩⟩
  ·replace c6 := Bool.eq_false_iff.mpr c6
   subst c6
   replace H := ifF H
   have H' := Aside0.mk H
   clear H
   go_wp2_with (first | ((with_reducible refine gate_callee (f := 56) rfl ?_); refine goesL_ (some 14) rfl rfl Tryz.func56 (Z20) rfl #[.string a0] rfl (Z1) ?_; (with_reducible refine (impl_MailOK.calls k a0 false _ ?side1 A5.out).mono ?_); (case side1 => first | exact HG | exact ⟨HG.out.of rfl⟩ | (refine ⟨HG.out.on ?_⟩; (repeat (first | (with_reducible first | exact HB.out | apply below_alloc | apply pw_below_drewN | apply below_drew1 | refine below_set ?_ GE283.out) | exact HB.out)); done) | exact ⟨HG.out.on HBW.out⟩); rintro e w8 ⟨rfl, hb⟩; refine ⟨_, rfl, ?_⟩; replace BK283 := Aside0.mk (kB BK283 (Z23) hb); replace HB := Aside0.mk (below_step (Z33) hb); (try clear hb)))
   go_meet
   case rel => exact ⟨_, (true), (Z2), H', ⟨Z40⟩, ⟨Z23⟩, ⟨Z33⟩⟩
 case rest =>
  clear HC3
  obtain ⟨kq, x19_2, rfl, HA, HJ2, BK283, HB⟩ := hcut
  cases kq with
  | zero => exact absurd HA.out (by simp [impl_parseMail.j0])
  | succ kj2 =>
   have H := HA.out
   clear HA
   simp only [impl_parseMail.j0] at H
   by_cases c9 : x19_2 = true
   ·subst c9
    replace H := ifT H
    simp only [Option.some.injEq, Prod.mk.injEq] at H
    obtain ⟨rfl, rfl, rfl⟩ := H
    obtain ⟨hcz10_0, hcz10_1⟩ := bc2 BK283.out
    obtain ⟨hfz10_0, hfz10_1⟩ := bf2 BK283.out
    go_wp2
    refine bodyPost_ret (results_ct rfl _ _ gb283 60 #[.slice none 0 0, .string (⟨#[]⟩ : ByteArray)] (0, 0) _ rfl (by (with_reducible repeat (first | refine blk_drewN ?_ _ | refine blk_drew ?_ | refine blk_alloc ?_ _)); refine blk_put (cs := #[.slice none 0 0, .string (⟨#[]⟩ : ByteArray)]) ?_ 1 _ rfl; (with_reducible repeat (first | refine blk_drewN ?_ _ | refine blk_drew ?_ | refine blk_alloc ?_ _)); refine blk_put (cs := #[.slice none 0 0, .string (⟨#[]⟩ : ByteArray)]) ?_ 0 _ rfl; (with_reducible repeat (first | refine blk_drewN ?_ _ | refine blk_drew ?_ | refine blk_alloc ?_ _)); exact BK283.out) Tryz.underlying60 rfl (Z20)) rfl ?_
    exact ⟨_, Z3, Z35, Z33⟩
   ·replace c9 := Bool.eq_false_iff.mpr c9
    subst c9
    replace H := ifF H
    obtain ⟨ji11, hji11⟩ : ∃ j_ : Int, (wrap64 (t284 + 2)) = j_ := ⟨_, rfl⟩
    replace H : (if 0 ≤ (ji11) then (if (ji11) ≤ (a0.size : Int) then (if 0 ≤ t284 then (if t284 ≤ (a0.size : Int) then (impl_parseMail.l0 kj2 (a0.extract 0 (t284 : Int).toNat) ([] : List (S84)) (a0.extract ((ji11) : Int).toNat a0.size)) else (none)) else (none)) else (none)) else (none)) = some (r1, r2, r3) := by first | (rw [hji11] at H; exact H) | (simp only [hji11] at H ⊢; exact H)
    have hji11w : (IntKind.i64.wrap (t284 + 2)) = ji11 := (i64_w _).trans hji11
    obtain ⟨c12, H⟩ := ifS H
    have c12b0 := eq_true c12
    have c12b1 : decide (0 ≤ (ji11)) = true := decide_eq_true c12
    clear c12
    obtain ⟨c13, H⟩ := ifS H
    have c13b0 := eq_true c13
    have c13b1 : decide ((ji11) ≤ (a0.size : Int)) = true := decide_eq_true c13
    clear c13
    obtain ⟨c14, H⟩ := ifS H
    have c14b0 := eq_true c14
    have c14b1 : decide (0 ≤ t284) = true := decide_eq_true c14
    clear c14
    obtain ⟨c15, H⟩ := ifS H
    have c15b0 := eq_true c15
    have c15b1 : decide (t284 ≤ (a0.size : Int)) = true := decide_eq_true c15
    clear c15
    have H' := Aside0.mk H
    clear H
    go_wp2_with (first | ((with_reducible refine gate_dst (N := 5) rfl ?_); (try (refine gate_guard (by rfl) ?_; dsimp only)); refine bxE 5 #[.slice none 0 0, .string (⟨#[]⟩ : ByteArray)] 60 ?_; intro gb286 hg w16 hbox hb; have BK286 := Aside0.mk (hbox); have GW286 := Aside0.mk ((szE w hg (Z33))); have GE286 := Aside0.mk ((szE w hg (Z33))); replace HB := Aside0.mk (below_step (Z33) hb); have NB283_286 := Aside0.mk ((nL BK283 hg (Z23))); have NB286_283 := Aside0.mk ((nG BK283 hg (Z23))); replace BK283 := Aside0.mk (kB BK283 (Z23) hb); clear hb hbox hg; have hnb17 := NB286_283.out; have hnc17 := NB283_286.out; obtain ⟨hcz18_0, hcz18_1⟩ := bc2 BK286.out; obtain ⟨hfz18_0, hfz18_1⟩ := bf2 BK286.out))
    go_loopg [6] kj2 (fun kq v6 w' => ∃ (x6_2 : ByteArray) (x284001_2 : ByteArray) (x287000_2 : List (S84)) (u287000 : Value), v6 = .string x6_2 ∧ Aside0 (impl_parseMail.l0 kq x6_2 x287000_2 (a0.extract ((ji11) : Int).toNat a0.size) = some (r1, r2, r3)) ∧ Aside0 (kq ≤ kj2) ∧ Aside0 (Kd.R k84 84 w' w.heap.size (fun _ => True) u287000 x287000_2) ∧ Aside0 (w'.heap[gb283]? = some (.cells #[(.slice none 0 0), .string x284001_2] 60 (0, 0))) ∧ Aside0 (w'.heap[gb286]? = some (.cells #[u287000, .string (a0.extract ((ji11) : Int).toNat a0.size)] 60 (0, 0))) ∧ Aside0 (Below w.heap.size w w'))
    case atStart => exact ⟨(a0.extract 0 (t284 : Int).toNat), ((⟨#[]⟩ : ByteArray)), (([] : List (S84))), (.slice none 0 0), (Z2), H', ⟨Nat.le_refl _⟩, ⟨Z35⟩, ⟨by (with_reducible repeat (first | refine blk_drewN ?_ _ | refine blk_drew ?_ | refine blk_alloc ?_ _)); refine blk_far ?_ NB283_286.out _; (with_reducible repeat (first | refine blk_drewN ?_ _ | refine blk_drew ?_ | refine blk_alloc ?_ _)); refine blk_far ?_ NB283_286.out _; (with_reducible repeat (first | refine blk_drewN ?_ _ | refine blk_drew ?_ | refine blk_alloc ?_ _)); exact BK283.out⟩, ⟨by (with_reducible repeat (first | refine blk_drewN ?_ _ | refine blk_drew ?_ | refine blk_alloc ?_ _)); refine blk_put (cs := #[.slice none 0 0, .string (⟨#[]⟩ : ByteArray)]) ?_ 1 _ rfl; (with_reducible repeat (first | refine blk_drewN ?_ _ | refine blk_drew ?_ | refine blk_alloc ?_ _)); refine blk_put (cs := #[.slice none 0 0, .string (⟨#[]⟩ : ByteArray)]) ?_ 0 _ rfl; (with_reducible repeat (first | refine blk_drewN ?_ _ | refine blk_drew ?_ | refine blk_alloc ?_ _)); exact BK286.out⟩, ⟨Z13⟩⟩
    case round =>
     clear H'
     (try clear c9); (try clear c12); (try clear c12b0); (try clear c12b1); (try clear c13); (try clear c13b0); (try clear c13b1); (try clear c14); (try clear c14b0); (try clear c14b1); (try clear c15); (try clear c15b0); (try clear c15b1); (try clear hcz18_0); (try clear hcz18_1); (try clear hfz18_0); (try clear hfz18_1)
     obtain ⟨x6_2, x284001_2, x287000_2, u287000, rfl, HA, HK2, HO_287000, BK283, BK286, HB⟩ := hrel
     cases gk with
     | zero => exact absurd HA.out (by simp [impl_parseMail.l0])
     | succ k2 =>
      have H := HA.out
      clear HA
      simp only [impl_parseMail.l0] at H
      by_cases c19 : x6_2.toList = ([] : List UInt8)
      ·rw [if_pos c19] at H
       have c19b0 := beq_iff_eq.mpr c19
       have c19b1 := bne_eq_false_iff_eq.mpr c19
       clear c19
       simp only [Option.some.injEq, Prod.mk.injEq] at H
       obtain ⟨rfl, rfl, rfl⟩ := H
       have hnb20 := NB286_283.out
       have hnc20 := NB283_286.out
       obtain ⟨hcz21_0, hcz21_1⟩ := bc2 BK286.out
       obtain ⟨hfz21_0, hfz21_1⟩ := bf2 BK286.out
       obtain ⟨Ao22, co22, eo22⟩ := Kd.R_slice HO_287000.out
       subst eo22
       obtain ⟨hcz23_0, hcz23_1⟩ := bc2 BK283.out
       obtain ⟨hfz23_0, hfz23_1⟩ := bf2 BK283.out
       go_wp2
       refine bodyPost_ret (results_ct rfl _ _ gb283 60 #[.slice Ao22 x287000_2.length co22, .string (a0.extract ((ji11) : Int).toNat a0.size)] (0, 0) _ rfl (by (with_reducible repeat (first | refine blk_drewN ?_ _ | refine blk_drew ?_ | refine blk_alloc ?_ _)); refine blk_put (cs := #[.slice Ao22 x287000_2.length co22, .string x284001_2]) ?_ 1 _ rfl; (with_reducible repeat (first | refine blk_drewN ?_ _ | refine blk_drew ?_ | refine blk_alloc ?_ _)); refine blk_put (cs := #[.slice none 0 0, .string x284001_2]) ?_ 0 _ rfl; (with_reducible repeat (first | refine blk_drewN ?_ _ | refine blk_drew ?_ | refine blk_alloc ?_ _)); exact BK283.out) Tryz.underlying60 rfl (Z20)) rfl ?_
       exact ⟨_, Z30, by (with_reducible repeat (first | apply Kd.R_alloc | apply Kd.R_drewN | apply Kd.R_drew)); exact Kd.R_mono (Kd.R_far (p := ⟨gb283, 1, none⟩) (Kd.R_far (p := ⟨gb283, 0, none⟩) (Kd.R_types HO_287000.out BK283.out (Z63)) (fun _ hk => hk.2) (.slice Ao22 x287000_2.length co22)) (fun _ hk => hk.2) (.string (a0.extract ((ji11) : Int).toNat a0.size))) (fun _ hk => trivial), Z13⟩
      ·rw [if_neg c19] at H
       have c19b0 := beq_eq_false_iff_ne.mpr c19
       have c19b1 := bne_iff_ne.mpr c19
       obtain ⟨t287, A24, H⟩ := bindA H
       try dsimp only at H
       have H' := Aside0.mk H
       clear H
       go_wp2_with (first | ((with_reducible refine gate_callee (f := 57) rfl ?_); refine goesL_ (some 32) rfl rfl Tryz.func57 (Z20) rfl #[.string x6_2, .string (⟨#[13, 10]⟩ : ByteArray)] rfl (Z1) ?_; (with_reducible refine (strings_Index.calls x6_2 (⟨#[13, 10]⟩ : ByteArray) t287 _ ?side1 A24.out).mono ?_); (case side1 => first | exact HG | exact ⟨HG.out.of rfl⟩ | (refine ⟨HG.out.on ?_⟩; (repeat (first | (with_reducible first | exact HB.out | apply below_alloc | apply pw_below_drewN | apply below_drew1 | refine below_set ?_ GE283.out | refine below_set ?_ GE286.out) | exact HB.out)); done) | exact ⟨HG.out.on HBW.out⟩); rintro e w' ⟨rfl, ⟨nd, rfl⟩⟩; refine ⟨_, rfl, ?_⟩))
       go_loopg [7] k2 (fun kq v7 w' => ∃ (x7_3 : Int), v7 = .int .i64 x7_3 ∧ Aside0 (impl_parseMail.l1 kq x6_2 x7_3 x287000_2 (a0.extract ((ji11) : Int).toNat a0.size) = some (r1, r2, r3)) ∧ Aside0 (kq ≤ k2) ∧ Aside0 (Kd.R k84 84 w' w.heap.size (fun _ => True) u287000 x287000_2) ∧ Aside0 (w'.heap[gb283]? = some (.cells #[(.slice none 0 0), .string x284001_2] 60 (0, 0))) ∧ Aside0 (w'.heap[gb286]? = some (.cells #[u287000, .string (a0.extract ((ji11) : Int).toNat a0.size)] 60 (0, 0))) ∧ Aside0 (Below w.heap.size w w'))
       case atStart => exact ⟨(wrap64 (t287 + 2)), (Z2), H', ⟨Nat.le_refl _⟩, ⟨Z38⟩, ⟨Z23⟩, ⟨Z37⟩, ⟨Z13⟩⟩
       case round =>
        clear H'
        (try clear c9); (try clear c12); (try clear c12b0); (try clear c12b1); (try clear c13); (try clear c13b0); (try clear c13b1); (try clear c14); (try clear c14b0); (try clear c14b1); (try clear c15); (try clear c15b0); (try clear c15b1); (try clear c19); (try clear c19b0); (try clear c19b1); (try clear hcz18_0); (try clear hcz18_1); (try clear hfz18_0); (try clear hfz18_1)
        obtain ⟨x7_3, rfl, HA, HK3, HO_287000, BK283, BK286, HB⟩ := hrel
        cases gk with
        | zero => exact absurd HA.out (by simp [impl_parseMail.l1])
        | succ k3 =>
         have H := HA.out
         clear HA
         simp only [impl_parseMail.l1] at H
         by_cases c25 : x7_3 < (x6_2.size : Int)
         ·rw [if_pos c25] at H
          have c25b0 := decide_eq_true c25
          clear c25
          obtain ⟨c26, H⟩ := ifS H
          have c26b0 := decide_eq_true c26
          clear c26
          by_cases c28 : (bt x6_2 x7_3) = 32
          ·rw [if_pos c28] at H
           have c28b0 := beq_iff_eq.mpr c28
           have c28b1 := bne_eq_false_iff_eq.mpr c28
           clear c28
           have c29b0 := eq_true (of_decide_eq_true (Z4) : 0 ≤ x7_3)
           obtain ⟨c30, H⟩ := ifS H
           have c30b0 := eq_true c30
           have c30b1 : decide (x7_3 ≤ (x6_2.size : Int)) = true := decide_eq_true c30
           clear c30
           obtain ⟨t288, A31, H⟩ := bindA H
           try dsimp only at H
           have H' := Aside0.mk H
           clear H
           have p27 : 0 ≤ (x7_3 : Int) := of_decide_eq_true (Z4)
           have q27 : x7_3 < (x6_2.size : Int) := of_decide_eq_true (Z4)
           have hx27 := bt_at x6_2 x7_3
           replace p27 := eq_true p27
           replace q27 := eq_true q27
           go_wp2_with (first | ((with_reducible refine gate_callee (f := 57) rfl ?_); refine goesL_ (some 48) rfl rfl Tryz.func57 (Z20) rfl #[.string (x6_2.extract (x7_3 : Int).toNat x6_2.size), .string (⟨#[13, 10]⟩ : ByteArray)] rfl (Z1) ?_; (with_reducible refine (strings_Index.calls (x6_2.extract (x7_3 : Int).toNat x6_2.size) (⟨#[13, 10]⟩ : ByteArray) t288 _ ?side1 A31.out).mono ?_); (case side1 => first | exact HG | exact ⟨HG.out.of rfl⟩ | (refine ⟨HG.out.on ?_⟩; (repeat (first | (with_reducible first | exact HB.out | apply below_alloc | apply pw_below_drewN | apply below_drew1 | refine below_set ?_ GE283.out | refine below_set ?_ GE286.out) | exact HB.out)); done) | exact ⟨HG.out.on HBW.out⟩); rintro e w' ⟨rfl, ⟨nd, rfl⟩⟩; refine ⟨_, rfl, ?_⟩))
           go_roundg k3
           case measure => have := HJ2.out; have := HK2.out; have := HK3.out; omega
           case rel => exact ⟨(wrap64 (x7_3 + (wrap64 (t288 + 2)))), (Z2), H', ⟨by have := HJ2.out; have := HK2.out; have := HK3.out; omega⟩, ⟨Z38⟩, ⟨Z23⟩, ⟨Z37⟩, ⟨Z13⟩⟩
          ·rw [if_neg c28] at H
           have c28b0 := beq_eq_false_iff_ne.mpr c28
           have c28b1 := bne_iff_ne.mpr c28
           have c32b0 := eq_true (of_decide_eq_true (Z4) : 0 ≤ x7_3)
           obtain ⟨c33, H⟩ := ifS H
           have c33b0 := eq_true c33
           have c33b1 : decide (x7_3 ≤ (x6_2.size : Int)) = true := decide_eq_true c33
           clear c33
           obtain ⟨⟨t289, t290, t291⟩, A34, H⟩ := bindA H
           try dsimp only at H
           by_cases c35 : t291 = true
           ·subst c35
            replace H := ifT H
            by_cases c36 : (x287000_2.length : Int) = 40
            ·rw [if_pos c36] at H
             have c36b0 := beq_iff_eq.mpr c36
             have c36b1 := bne_eq_false_iff_eq.mpr c36
             clear c36
             simp only [Option.some.injEq, Prod.mk.injEq] at H
             obtain ⟨rfl, rfl, rfl⟩ := H
             have p27 : 0 ≤ (x7_3 : Int) := of_decide_eq_true (Z4)
             have q27 : x7_3 < (x6_2.size : Int) := of_decide_eq_true (Z4)
             have hx27 := bt_at x6_2 x7_3
             replace p27 := eq_true p27
             replace q27 := eq_true q27
             go_wp2_with (first | ((with_reducible refine gate_callee (f := 58) rfl ?_); refine goesL_ (some 55) rfl rfl Tryz.func58 (Z20) rfl #[.string (x6_2.extract 0 (x7_3 : Int).toNat)] rfl (Z1) ?_; (with_reducible refine (impl_unfold.calls k3 (x6_2.extract 0 (x7_3 : Int).toNat) t289 t290 true _ ?side1 A34.out).mono ?_); (case side1 => first | exact HG | exact ⟨HG.out.of rfl⟩ | (refine ⟨HG.out.on ?_⟩; (repeat (first | (with_reducible first | exact HB.out | apply below_alloc | apply pw_below_drewN | apply below_drew1 | refine below_set ?_ GE283.out | refine below_set ?_ GE286.out) | exact HB.out)); done) | exact ⟨HG.out.on HBW.out⟩); rintro e w37 ⟨rfl, hb⟩; refine ⟨_, rfl, ?_⟩; replace HO_287000 := Aside0.mk (Kd.R_below (Z38) hb); replace BK283 := Aside0.mk (kB BK283 (Z23) hb); replace BK286 := Aside0.mk (kB BK286 (Z37) hb); replace HB := Aside0.mk (below_step (Z13) hb); (try clear hb); have hnb38 := NB286_283.out; have hnc38 := NB283_286.out; obtain ⟨hcz39_0, hcz39_1⟩ := bc2 BK286.out; obtain ⟨hfz39_0, hfz39_1⟩ := bf2 BK286.out; obtain ⟨Ao40, co40, eo40⟩ := Kd.R_slice HO_287000.out; subst eo40; obtain ⟨hcz41_0, hcz41_1⟩ := bc2 BK283.out; obtain ⟨hfz41_0, hfz41_1⟩ := bf2 BK283.out))
             refine bodyPost_ret (results_ct rfl _ _ gb283 60 #[.slice none 0 0, .string (⟨#[]⟩ : ByteArray)] (0, 0) _ rfl (Z25) Tryz.underlying60 rfl (Z20)) rfl ?_
             exact ⟨_, Z30, Z35, Z13⟩
            ·rw [if_neg c36] at H
             have c36b0 := beq_eq_false_iff_ne.mpr c36
             have c36b1 := bne_iff_ne.mpr c36
             obtain ⟨c42, H⟩ := ifS H
             have LMc42 := Aside0.mk c42
             clear c42
             obtain ⟨y292, hy292⟩ : ∃ y_ : List (S84), y_ = (x287000_2 ++ [(⟨t289, t290⟩ : S84)]) := ⟨_, rfl⟩
             replace H : (impl_parseMail.l0 k3 (x6_2.extract (x7_3 : Int).toNat x6_2.size) y292 (a0.extract ((ji11) : Int).toNat a0.size)) = some (r1, r2, r3) := by first | (rw [hy292]; with_reducible exact H) | (have H2_ := (Option.bind_some _ _).symm.trans H; rw [hy292]; with_reducible exact H2_) | (have H2_ := (Option.bind_some _ _).symm.trans H; with_reducible exact H2_) | with_reducible exact H | (rw [hy292]; exact H) | exact H
             have Ny292 := Aside0.mk hy292
             clear hy292
             have c43b0 := eq_true (of_decide_eq_true (Z4) : 0 ≤ x7_3)
             have c44b0 := eq_true (of_decide_eq_true (Z4) : x7_3 ≤ (x6_2.size : Int))
             have H' := Aside0.mk H
             clear H
             have p27 : 0 ≤ (x7_3 : Int) := of_decide_eq_true (Z4)
             have q27 : x7_3 < (x6_2.size : Int) := of_decide_eq_true (Z4)
             have hx27 := bt_at x6_2 x7_3
             replace p27 := eq_true p27
             replace q27 := eq_true q27
             go_wp2_with (first | ((with_reducible refine gate_callee (f := 58) rfl ?_); refine goesL_ (some 55) rfl rfl Tryz.func58 (Z20) rfl #[.string (x6_2.extract 0 (x7_3 : Int).toNat)] rfl (Z1) ?_; (with_reducible refine (impl_unfold.calls k3 (x6_2.extract 0 (x7_3 : Int).toNat) t289 t290 true _ ?side1 A34.out).mono ?_); (case side1 => first | exact HG | exact ⟨HG.out.of rfl⟩ | (refine ⟨HG.out.on ?_⟩; (repeat (first | (with_reducible first | exact HB.out | apply below_alloc | apply pw_below_drewN | apply below_drew1 | refine below_set ?_ GE283.out | refine below_set ?_ GE286.out) | exact HB.out)); done) | exact ⟨HG.out.on HBW.out⟩); rintro e w45 ⟨rfl, hb⟩; refine ⟨_, rfl, ?_⟩; replace HO_287000 := Aside0.mk (Kd.R_below (Z38) hb); replace BK283 := Aside0.mk (kB BK283 (Z23) hb); replace BK286 := Aside0.mk (kB BK286 (Z37) hb); replace HB := Aside0.mk (below_step (Z13) hb); (try clear hb); have hnb46 := NB286_283.out; have hnc46 := NB283_286.out; obtain ⟨hcz47_0, hcz47_1⟩ := bc2 BK286.out; obtain ⟨hfz47_0, hfz47_1⟩ := bf2 BK286.out; obtain ⟨Ao48, co48, eo48⟩ := Kd.R_slice HO_287000.out; subst eo48) | ((with_reducible refine gate_builtin (b := .append) (xs := #[.tmp 69, .tmp 73]) rfl ?_); (try (refine gate_guard (by rfl) ?_; dsimp only)); at_builtin; refine Kd.R_append k84 (w0 := w) w.heap.size rfl (.tmp 69) (.tmp 73) 58 84 (.agg #[(.string ⟨#[]⟩), (.string ⟨#[]⟩)]) 32 rfl Tryz.underlying58 info84 rfl (Z63) (Z46) (.slice Ao48 x287000_2.length co48) x287000_2 (⟨t289, t290⟩ : S84) [.string t289, .string t290] (fun _ => True) (fun _ => False) rfl rfl ?aP (fun _ hk => hk.elim) ?aF ?aO ?aB ?aS ?aL ?_; (case aP => exact k84_mkM _ _ _ (⟨t289, t290⟩ : S84)); (case aB => exact (Z13)); (case aF => exact (fun _ _ => trivial)); (case aO => exact (Z38)); (case aS => exact (below_size (Z13))); (case aL => have := LMc42.out; omega); intro v293 w49 ho hb hg hat; rw [← Ny292.out] at ho; have n0_ := Aside0.mk (blk_grown (g := gb283) (o := .cells #[.slice none 0 0, .string x284001_2] 60 (0, 0)) (Z23) hg (Kd.R_ne HO_287000.out BK283.out (Z63))); have n1_ := Aside0.mk (blk_grown (g := gb286) (o := .cells #[.slice Ao48 x287000_2.length co48, .string (a0.extract ((ji11) : Int).toNat a0.size)] 60 (0, 0)) (Z37) hg (Kd.R_ne HO_287000.out BK286.out (Z63))); have n2_ := Aside0.mk (hb); have n3_ := Aside0.mk (ho); clear BK283; clear BK286; clear HB; clear HO_287000; have BK283 := n0_; have BK286 := n1_; have HB := n2_; have HO294 := n3_; clear n0_ n1_ n2_ n3_; clear ho hb hg hat; obtain ⟨Ao50, co50, eo50⟩ := Kd.R_slice HO294.out; subst eo50; obtain ⟨hcz51_0, hcz51_1⟩ := bc2 BK286.out; obtain ⟨hfz51_0, hfz51_1⟩ := bf2 BK286.out))
             go_roundg k3
             case measure => have := HJ2.out; have := HK2.out; have := HK3.out; omega
             case rel => exact ⟨(x6_2.extract (x7_3 : Int).toNat x6_2.size), (x284001_2), (y292), (.slice Ao50 y292.length co50), (Z2), H', ⟨by have := HJ2.out; have := HK2.out; have := HK3.out; omega⟩, ⟨by (with_reducible repeat (first | apply Kd.R_alloc | apply Kd.R_drewN | apply Kd.R_drew)); exact Kd.R_mono (Kd.R_far (p := ⟨gb286, 0, none⟩) (Kd.R_types HO294.out BK286.out (Z63)) (fun _ hk => hk.2) (.slice Ao50 y292.length co50)) (fun _ hk => trivial)⟩, ⟨Z56⟩, ⟨by (with_reducible repeat (first | refine blk_drewN ?_ _ | refine blk_drew ?_ | refine blk_alloc ?_ _)); refine blk_put (cs := #[.slice Ao48 x287000_2.length co48, .string (a0.extract ((ji11) : Int).toNat a0.size)]) ?_ 0 _ rfl; (with_reducible repeat (first | refine blk_drewN ?_ _ | refine blk_drew ?_ | refine blk_alloc ?_ _)); exact BK286.out⟩, ⟨Z13⟩⟩
           ·replace c35 := Bool.eq_false_iff.mpr c35
            subst c35
            replace H := ifF H
            simp only [Option.some.injEq, Prod.mk.injEq] at H
            obtain ⟨rfl, rfl, rfl⟩ := H
            have p27 : 0 ≤ (x7_3 : Int) := of_decide_eq_true (Z4)
            have q27 : x7_3 < (x6_2.size : Int) := of_decide_eq_true (Z4)
            have hx27 := bt_at x6_2 x7_3
            replace p27 := eq_true p27
            replace q27 := eq_true q27
            go_wp2_with (first | ((with_reducible refine gate_callee (f := 58) rfl ?_); refine goesL_ (some 55) rfl rfl Tryz.func58 (Z20) rfl #[.string (x6_2.extract 0 (x7_3 : Int).toNat)] rfl (Z1) ?_; (with_reducible refine (impl_unfold.calls k3 (x6_2.extract 0 (x7_3 : Int).toNat) t289 t290 false _ ?side1 A34.out).mono ?_); (case side1 => first | exact HG | exact ⟨HG.out.of rfl⟩ | (refine ⟨HG.out.on ?_⟩; (repeat (first | (with_reducible first | exact HB.out | apply below_alloc | apply pw_below_drewN | apply below_drew1 | refine below_set ?_ GE283.out | refine below_set ?_ GE286.out) | exact HB.out)); done) | exact ⟨HG.out.on HBW.out⟩); rintro e w52 ⟨rfl, hb⟩; refine ⟨_, rfl, ?_⟩; replace HO_287000 := Aside0.mk (Kd.R_below (Z38) hb); replace BK283 := Aside0.mk (kB BK283 (Z23) hb); replace BK286 := Aside0.mk (kB BK286 (Z37) hb); replace HB := Aside0.mk (below_step (Z13) hb); (try clear hb); have hnb53 := NB283_286.out; have hnc53 := NB286_283.out; obtain ⟨hcz54_0, hcz54_1⟩ := bc2 BK283.out; obtain ⟨hfz54_0, hfz54_1⟩ := bf2 BK283.out))
            refine bodyPost_ret (results_ct rfl _ _ gb283 60 #[.slice none 0 0, .string (⟨#[]⟩ : ByteArray)] (0, 0) _ rfl (Z25) Tryz.underlying60 rfl (Z20)) rfl ?_
            exact ⟨_, Z30, Z35, Z13⟩
         ·rw [if_neg c25] at H
          have c25b0 := decide_eq_false c25
          clear c25
          obtain ⟨c55, H⟩ := ifS H
          have c55b0 := eq_true c55
          have c55b1 : decide (0 ≤ x7_3) = true := decide_eq_true c55
          clear c55
          obtain ⟨c56, H⟩ := ifS H
          have c56b0 := eq_true c56
          have c56b1 : decide (x7_3 ≤ (x6_2.size : Int)) = true := decide_eq_true c56
          clear c56
          obtain ⟨⟨t295, t296, t297⟩, A57, H⟩ := bindA H
          try dsimp only at H
          by_cases c58 : t297 = true
          ·subst c58
           replace H := ifT H
           by_cases c59 : (x287000_2.length : Int) = 40
           ·rw [if_pos c59] at H
            have c59b0 := beq_iff_eq.mpr c59
            have c59b1 := bne_eq_false_iff_eq.mpr c59
            clear c59
            simp only [Option.some.injEq, Prod.mk.injEq] at H
            obtain ⟨rfl, rfl, rfl⟩ := H
            go_wp2_with (first | ((with_reducible refine gate_callee (f := 58) rfl ?_); refine goesL_ (some 55) rfl rfl Tryz.func58 (Z20) rfl #[.string (x6_2.extract 0 (x7_3 : Int).toNat)] rfl (Z1) ?_; (with_reducible refine (impl_unfold.calls k3 (x6_2.extract 0 (x7_3 : Int).toNat) t295 t296 true _ ?side1 A57.out).mono ?_); (case side1 => first | exact HG | exact ⟨HG.out.of rfl⟩ | (refine ⟨HG.out.on ?_⟩; (repeat (first | (with_reducible first | exact HB.out | apply below_alloc | apply pw_below_drewN | apply below_drew1 | refine below_set ?_ GE283.out | refine below_set ?_ GE286.out) | exact HB.out)); done) | exact ⟨HG.out.on HBW.out⟩); rintro e w60 ⟨rfl, hb⟩; refine ⟨_, rfl, ?_⟩; replace HO_287000 := Aside0.mk (Kd.R_below (Z38) hb); replace BK283 := Aside0.mk (kB BK283 (Z23) hb); replace BK286 := Aside0.mk (kB BK286 (Z37) hb); replace HB := Aside0.mk (below_step (Z13) hb); (try clear hb); have hnb61 := NB286_283.out; have hnc61 := NB283_286.out; obtain ⟨hcz62_0, hcz62_1⟩ := bc2 BK286.out; obtain ⟨hfz62_0, hfz62_1⟩ := bf2 BK286.out; obtain ⟨Ao63, co63, eo63⟩ := Kd.R_slice HO_287000.out; subst eo63; obtain ⟨hcz64_0, hcz64_1⟩ := bc2 BK283.out; obtain ⟨hfz64_0, hfz64_1⟩ := bf2 BK283.out))
            refine bodyPost_ret (results_ct rfl _ _ gb283 60 #[.slice none 0 0, .string (⟨#[]⟩ : ByteArray)] (0, 0) _ rfl (Z25) Tryz.underlying60 rfl (Z20)) rfl ?_
            exact ⟨_, Z30, Z35, Z13⟩
           ·rw [if_neg c59] at H
            have c59b0 := beq_eq_false_iff_ne.mpr c59
            have c59b1 := bne_iff_ne.mpr c59
            obtain ⟨c65, H⟩ := ifS H
            have LMc65 := Aside0.mk c65
            clear c65
            obtain ⟨y298, hy298⟩ : ∃ y_ : List (S84), y_ = (x287000_2 ++ [(⟨t295, t296⟩ : S84)]) := ⟨_, rfl⟩
            replace H : (impl_parseMail.l0 k3 (x6_2.extract (x7_3 : Int).toNat x6_2.size) y298 (a0.extract ((ji11) : Int).toNat a0.size)) = some (r1, r2, r3) := by first | (rw [hy298]; with_reducible exact H) | (have H2_ := (Option.bind_some _ _).symm.trans H; rw [hy298]; with_reducible exact H2_) | (have H2_ := (Option.bind_some _ _).symm.trans H; with_reducible exact H2_) | with_reducible exact H | (rw [hy298]; exact H) | exact H
            have Ny298 := Aside0.mk hy298
            clear hy298
            have c66b0 := eq_true (of_decide_eq_true (Z4) : 0 ≤ x7_3)
            have c67b0 := eq_true (of_decide_eq_true (Z4) : x7_3 ≤ (x6_2.size : Int))
            have H' := Aside0.mk H
            clear H
            go_wp2_with (first | ((with_reducible refine gate_callee (f := 58) rfl ?_); refine goesL_ (some 55) rfl rfl Tryz.func58 (Z20) rfl #[.string (x6_2.extract 0 (x7_3 : Int).toNat)] rfl (Z1) ?_; (with_reducible refine (impl_unfold.calls k3 (x6_2.extract 0 (x7_3 : Int).toNat) t295 t296 true _ ?side1 A57.out).mono ?_); (case side1 => first | exact HG | exact ⟨HG.out.of rfl⟩ | (refine ⟨HG.out.on ?_⟩; (repeat (first | (with_reducible first | exact HB.out | apply below_alloc | apply pw_below_drewN | apply below_drew1 | refine below_set ?_ GE283.out | refine below_set ?_ GE286.out) | exact HB.out)); done) | exact ⟨HG.out.on HBW.out⟩); rintro e w68 ⟨rfl, hb⟩; refine ⟨_, rfl, ?_⟩; replace HO_287000 := Aside0.mk (Kd.R_below (Z38) hb); replace BK283 := Aside0.mk (kB BK283 (Z23) hb); replace BK286 := Aside0.mk (kB BK286 (Z37) hb); replace HB := Aside0.mk (below_step (Z13) hb); (try clear hb); have hnb69 := NB286_283.out; have hnc69 := NB283_286.out; obtain ⟨hcz70_0, hcz70_1⟩ := bc2 BK286.out; obtain ⟨hfz70_0, hfz70_1⟩ := bf2 BK286.out; obtain ⟨Ao71, co71, eo71⟩ := Kd.R_slice HO_287000.out; subst eo71) | ((with_reducible refine gate_builtin (b := .append) (xs := #[.tmp 69, .tmp 73]) rfl ?_); (try (refine gate_guard (by rfl) ?_; dsimp only)); at_builtin; refine Kd.R_append k84 (w0 := w) w.heap.size rfl (.tmp 69) (.tmp 73) 58 84 (.agg #[(.string ⟨#[]⟩), (.string ⟨#[]⟩)]) 32 rfl Tryz.underlying58 info84 rfl (Z63) (Z46) (.slice Ao71 x287000_2.length co71) x287000_2 (⟨t295, t296⟩ : S84) [.string t295, .string t296] (fun _ => True) (fun _ => False) rfl rfl ?aP (fun _ hk => hk.elim) ?aF ?aO ?aB ?aS ?aL ?_; (case aP => exact k84_mkM _ _ _ (⟨t295, t296⟩ : S84)); (case aB => exact (Z13)); (case aF => exact (fun _ _ => trivial)); (case aO => exact (Z38)); (case aS => exact (below_size (Z13))); (case aL => have := LMc65.out; omega); intro v299 w72 ho hb hg hat; rw [← Ny298.out] at ho; have n0_ := Aside0.mk (blk_grown (g := gb283) (o := .cells #[.slice none 0 0, .string x284001_2] 60 (0, 0)) (Z23) hg (Kd.R_ne HO_287000.out BK283.out (Z63))); have n1_ := Aside0.mk (blk_grown (g := gb286) (o := .cells #[.slice Ao71 x287000_2.length co71, .string (a0.extract ((ji11) : Int).toNat a0.size)] 60 (0, 0)) (Z37) hg (Kd.R_ne HO_287000.out BK286.out (Z63))); have n2_ := Aside0.mk (hb); have n3_ := Aside0.mk (ho); clear BK283; clear BK286; clear HB; clear HO_287000; have BK283 := n0_; have BK286 := n1_; have HB := n2_; have HO300 := n3_; clear n0_ n1_ n2_ n3_; clear ho hb hg hat; obtain ⟨Ao73, co73, eo73⟩ := Kd.R_slice HO300.out; subst eo73; obtain ⟨hcz74_0, hcz74_1⟩ := bc2 BK286.out; obtain ⟨hfz74_0, hfz74_1⟩ := bf2 BK286.out))
            go_roundg k3
            case measure => have := HJ2.out; have := HK2.out; have := HK3.out; omega
            case rel => exact ⟨(x6_2.extract (x7_3 : Int).toNat x6_2.size), (x284001_2), (y298), (.slice Ao73 y298.length co73), (Z2), H', ⟨by have := HJ2.out; have := HK2.out; have := HK3.out; omega⟩, ⟨by (with_reducible repeat (first | apply Kd.R_alloc | apply Kd.R_drewN | apply Kd.R_drew)); exact Kd.R_mono (Kd.R_far (p := ⟨gb286, 0, none⟩) (Kd.R_types HO300.out BK286.out (Z63)) (fun _ hk => hk.2) (.slice Ao73 y298.length co73)) (fun _ hk => trivial)⟩, ⟨Z56⟩, ⟨by (with_reducible repeat (first | refine blk_drewN ?_ _ | refine blk_drew ?_ | refine blk_alloc ?_ _)); refine blk_put (cs := #[.slice Ao71 x287000_2.length co71, .string (a0.extract ((ji11) : Int).toNat a0.size)]) ?_ 0 _ rfl; (with_reducible repeat (first | refine blk_drewN ?_ _ | refine blk_drew ?_ | refine blk_alloc ?_ _)); exact BK286.out⟩, ⟨Z13⟩⟩
          ·replace c58 := Bool.eq_false_iff.mpr c58
           subst c58
           replace H := ifF H
           simp only [Option.some.injEq, Prod.mk.injEq] at H
           obtain ⟨rfl, rfl, rfl⟩ := H
           go_wp2_with (first | ((with_reducible refine gate_callee (f := 58) rfl ?_); refine goesL_ (some 55) rfl rfl Tryz.func58 (Z20) rfl #[.string (x6_2.extract 0 (x7_3 : Int).toNat)] rfl (Z1) ?_; (with_reducible refine (impl_unfold.calls k3 (x6_2.extract 0 (x7_3 : Int).toNat) t295 t296 false _ ?side1 A57.out).mono ?_); (case side1 => first | exact HG | exact ⟨HG.out.of rfl⟩ | (refine ⟨HG.out.on ?_⟩; (repeat (first | (with_reducible first | exact HB.out | apply below_alloc | apply pw_below_drewN | apply below_drew1 | refine below_set ?_ GE283.out | refine below_set ?_ GE286.out) | exact HB.out)); done) | exact ⟨HG.out.on HBW.out⟩); rintro e w75 ⟨rfl, hb⟩; refine ⟨_, rfl, ?_⟩; replace HO_287000 := Aside0.mk (Kd.R_below (Z38) hb); replace BK283 := Aside0.mk (kB BK283 (Z23) hb); replace BK286 := Aside0.mk (kB BK286 (Z37) hb); replace HB := Aside0.mk (below_step (Z13) hb); (try clear hb); have hnb76 := NB283_286.out; have hnc76 := NB286_283.out; obtain ⟨hcz77_0, hcz77_1⟩ := bc2 BK283.out; obtain ⟨hfz77_0, hfz77_1⟩ := bf2 BK283.out))
           refine bodyPost_ret (results_ct rfl _ _ gb283 60 #[.slice none 0 0, .string (⟨#[]⟩ : ByteArray)] (0, 0) _ rfl (Z25) Tryz.underlying60 rfl (Z20)) rfl ?_
           exact ⟨_, Z30, Z35, Z13⟩

/-! ### impl_mailPart: function 48 -/
def impl_mailPart.f (a0 : ByteArray) (a1 : ByteArray) : Option (ByteArray) := (impl_headEnd.f a0).bind fun t301 => (if a1.toList = ([72, 69, 65, 68, 69, 82] : List UInt8) then (if 0 ≤ (wrap64 (t301 + 2)) then (if (wrap64 (t301 + 2)) ≤ (a0.size : Int) then (some (a0.extract 0 ((wrap64 (t301 + 2)) : Int).toNat)) else (none)) else (none)) else (if a1.toList = ([84, 69, 88, 84] : List UInt8) then (if 0 ≤ (wrap64 (t301 + 2)) then (if (wrap64 (t301 + 2)) ≤ (a0.size : Int) then (some (a0.extract ((wrap64 (t301 + 2)) : Int).toNat a0.size)) else (none)) else (none)) else (some a0)))
set_option maxHeartbeats 40000000 in
set_option maxRecDepth 100000 in
theorem impl_mailPart.calls (a0 : ByteArray) (a1 : ByteArray) (r : ByteArray) (w : World) (HG : Aside0 (Glob w)) (h : impl_mailPart.f a0 a1 = some r) :
  Calls Tryz.prog 48 #[.string a0, .string a1] w fun e w' => e = .returned (.string r) ∧ Drawn0 w w' := by
 have H : ((impl_headEnd.f a0).bind fun t301 => (if a1.toList = ([72, 69, 65, 68, 69, 82] : List UInt8) then (if 0 ≤ (wrap64 (t301 + 2)) then (if (wrap64 (t301 + 2)) ≤ (a0.size : Int) then (some (a0.extract 0 ((wrap64 (t301 + 2)) : Int).toNat)) else (none)) else (none)) else (if a1.toList = ([84, 69, 88, 84] : List UInt8) then (if 0 ≤ (wrap64 (t301 + 2)) then (if (wrap64 (t301 + 2)) ≤ (a0.size : Int) then (some (a0.extract ((wrap64 (t301 + 2)) : Int).toNat a0.size)) else (none)) else (none)) else (some a0)))) = some r := h
 clear h
 obtain ⟨t301, A3, H⟩ := bindA H
 try dsimp only at H
 by_cases c4 : a1.toList = ([72, 69, 65, 68, 69, 82] : List UInt8)
 ·rw [if_pos c4] at H
  have c4b0 := beq_iff_eq.mpr c4
  have c4b1 := bne_eq_false_iff_eq.mpr c4
  clear c4
  obtain ⟨ji5, hji5⟩ : ∃ j_ : Int, (wrap64 (t301 + 2)) = j_ := ⟨_, rfl⟩
  replace H : (if 0 ≤ (ji5) then (if (ji5) ≤ (a0.size : Int) then (some (a0.extract 0 ((ji5) : Int).toNat)) else (none)) else (none)) = some r := by first | (rw [hji5] at H; exact H) | (simp only [hji5] at H ⊢; exact H)
  (try rw [hji5] at A3)
  have hji5w : (IntKind.i64.wrap (t301 + 2)) = ji5 := (i64_w _).trans hji5
  obtain ⟨c6, H⟩ := ifS H
  have c6b0 := eq_true c6
  have c6b1 : decide (0 ≤ (ji5)) = true := decide_eq_true c6
  clear c6
  obtain ⟨c7, H⟩ := ifS H
  have c7b0 := eq_true c7
  have c7b1 : decide ((ji5) ≤ (a0.size : Int)) = true := decide_eq_true c7
  clear c7
  obtain rfl := Option.some.inj H
  go_enter Tryz.func48, Tryz.ntmps48
  go_wp2_with (first | ((with_reducible refine gate_callee (f := 55) rfl ?_); refine goesL_ (some 7) rfl rfl Tryz.func55 (Z20) rfl #[.string a0] rfl (Z1) ?_; (with_reducible refine (impl_headEnd.calls a0 t301 _ ?side1 A3.out).mono ?_); (case side1 => first | exact HG | exact ⟨HG.out.of rfl⟩ | (refine ⟨HG.out.on ?_⟩; (repeat (first | (with_reducible first | exact HB.out | apply below_alloc | apply pw_below_drewN | apply below_drew1) | exact HB.out)); done) | exact ⟨HG.out.on HBW.out⟩); rintro e w' ⟨rfl, ⟨nd, rfl⟩⟩; refine ⟨_, rfl, ?_⟩))
  go_ret
  exact ⟨by first | rfl | (simp; done) | (simp only [← hji5] <;> (first | rfl | simp)) | (simp [*]; done), Z11⟩
 ·rw [if_neg c4] at H
  have c4b0 := beq_eq_false_iff_ne.mpr c4
  have c4b1 := bne_iff_ne.mpr c4
  by_cases c8 : a1.toList = ([84, 69, 88, 84] : List UInt8)
  ·rw [if_pos c8] at H
   have c8b0 := beq_iff_eq.mpr c8
   have c8b1 := bne_eq_false_iff_eq.mpr c8
   clear c8
   obtain ⟨ji9, hji9⟩ : ∃ j_ : Int, (wrap64 (t301 + 2)) = j_ := ⟨_, rfl⟩
   replace H : (if 0 ≤ (ji9) then (if (ji9) ≤ (a0.size : Int) then (some (a0.extract ((ji9) : Int).toNat a0.size)) else (none)) else (none)) = some r := by first | (rw [hji9] at H; exact H) | (simp only [hji9] at H ⊢; exact H)
   (try rw [hji9] at A3)
   have hji9w : (IntKind.i64.wrap (t301 + 2)) = ji9 := (i64_w _).trans hji9
   obtain ⟨c10, H⟩ := ifS H
   have c10b0 := eq_true c10
   have c10b1 : decide (0 ≤ (ji9)) = true := decide_eq_true c10
   clear c10
   obtain ⟨c11, H⟩ := ifS H
   have c11b0 := eq_true c11
   have c11b1 : decide ((ji9) ≤ (a0.size : Int)) = true := decide_eq_true c11
   clear c11
   obtain rfl := Option.some.inj H
   go_enter Tryz.func48, Tryz.ntmps48
   go_wp2_with (first | ((with_reducible refine gate_callee (f := 55) rfl ?_); refine goesL_ (some 7) rfl rfl Tryz.func55 (Z20) rfl #[.string a0] rfl (Z1) ?_; (with_reducible refine (impl_headEnd.calls a0 t301 _ ?side1 A3.out).mono ?_); (case side1 => first | exact HG | exact ⟨HG.out.of rfl⟩ | (refine ⟨HG.out.on ?_⟩; (repeat (first | (with_reducible first | exact HB.out | apply below_alloc | apply pw_below_drewN | apply below_drew1) | exact HB.out)); done) | exact ⟨HG.out.on HBW.out⟩); rintro e w' ⟨rfl, ⟨nd, rfl⟩⟩; refine ⟨_, rfl, ?_⟩))
   go_ret
   exact ⟨by first | rfl | (simp; done) | (simp only [← hji9] <;> (first | rfl | simp)) | (simp [*]; done), Z11⟩
  ·rw [if_neg c8] at H
   have c8b0 := beq_eq_false_iff_ne.mpr c8
   have c8b1 := bne_iff_ne.mpr c8
   obtain rfl := Option.some.inj H
   go_enter Tryz.func48, Tryz.ntmps48
   go_wp2_with (first | ((with_reducible refine gate_callee (f := 55) rfl ?_); refine goesL_ (some 7) rfl rfl Tryz.func55 (Z20) rfl #[.string a0] rfl (Z1) ?_; (with_reducible refine (impl_headEnd.calls a0 t301 _ ?side1 A3.out).mono ?_); (case side1 => first | exact HG | exact ⟨HG.out.of rfl⟩ | (refine ⟨HG.out.on ?_⟩; (repeat (first | (with_reducible first | exact HB.out | apply below_alloc | apply pw_below_drewN | apply below_drew1) | exact HB.out)); done) | exact ⟨HG.out.on HBW.out⟩); rintro e w' ⟨rfl, ⟨nd, rfl⟩⟩; refine ⟨_, rfl, ?_⟩))
   go_ret
   exact ⟨Z2, Z11⟩

end Go.Proofs.YtcmnndnigjkldaaGreatDoor.PFnExactFetchText
