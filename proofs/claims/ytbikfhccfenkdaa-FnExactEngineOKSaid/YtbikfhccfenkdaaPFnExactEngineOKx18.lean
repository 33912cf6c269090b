/- Contracts of functions that a statement reaches (wip/x/xprint.py, short.py, compact.py). -/
import Derived.Test.YtbikfhccfenkdaaPFnExactEngineOKx0
import Derived.Test.YtbikfhccfenkdaaPFnExactEngineOKx10
namespace Go.Proofs.Ytbikfhccfenkdaa.PFnExactEngineOK
open Go.RowKit Go.Proofs.YtbikfhccfenkdaaW.PrintWords Go.Proofs.YtbikfhccfenkdaaW.PrintLast Go.Proofs.YtbikfhccfenkdaaW.PrintMore Go.Proofs.Ytbikfhccfenkdaa.Mac
attribute [local go_sem] max2_int min2_int max_two min_two max_three min_three max_four min_four
set_option linter.unusedVariables false
set_option linter.unusedSimpArgs false

/-! ### impl_BoxOK: function 35 -/
theorem contains_front (k : Nat) (A : Option Addr) (c : Nat) (l : List ByteArray) (n : Nat) (x : ByteArray) (r : Bool) (w : World) (hC : Kd.C Kd.string w A l.length l) (hn : n ≤ l.length) (hc : l.length ≤ c) (h : slices_Contains_string_string.f k (l.take n) x = some r) :
  Calls Try.prog 61 #[.slice A n c, .string x] w fun e w' => e = .returned (.bool r) ∧ Drawn0 w w' := by
 have e : (l.take n).length = n := by rw [List.length_take]; omega
 have := slices_Contains_string_string.calls k A c (l.take n) x r w (Kd.C_take hC hn) (Z43) h
 rw [e] at this; exact this
mutual
def impl_BoxOK.j0 : Nat → Bool → ByteArray → Int → Int → List (S71) → List ByteArray → Option (Bool)
 | 0, _, _, _, _, _, _ => none
 | k + 1, x23, x294000, x294001, x294002, x294003, x294004 => if x23 = true then (some false) else (if (x294003.length : Int) > 30 then (impl_BoxOK.j1 k true x294000 x294001 x294002 x294003 x294004) else (if (x294004.length : Int) > 60 then (impl_BoxOK.j1 k true x294000 x294001 x294002 x294003 x294004) else (impl_BoxOK.j1 k ((x294004.length : Int) != (wrap64 (x294002 - 1))) x294000 x294001 x294002 x294003 x294004)))
def impl_BoxOK.j1 : Nat → Bool → ByteArray → Int → Int → List (S71) → List ByteArray → Option (Bool)
 | 0, _, _, _, _, _, _ => none
 | k + 1, x42, x294000, x294001, x294002, x294003, x294004 => if x42 = true then (some false) else (impl_BoxOK.l0 k 0 x294003 (x294003.length : Int) 0 x294000 x294001 x294002 x294003 x294004)
def impl_BoxOK.l0 : Nat → Int → List (S71) → Int → Int → ByteArray → Int → Int → List (S71) → List ByteArray → Option (Bool)
 | 0, _, _, _, _, _, _, _, _, _ => none
 | k + 1, x3, x44, x45, x46, x294000, x294001, x294002, x294003, x294004 => if x46 < x45 then (if 0 ≤ x46 then (if x46 < (x44.length : Int) then ((impl_within.f ((rd_T71 x44 x46).f0) (wrap64 (x3 + 1)) (wrap64 (x294002 - 1))).bind fun t299 => (if t299 = true then ((impl_within.f ((rd_T71 x44 x46).f1) 0 31).bind fun t300 => (if t300 = true then (if (((rd_T71 x44 x46).f2).size : Int) > 4000 then (some false) else (impl_BoxOK.l0 k ((rd_T71 x44 x46).f0) x44 x45 (wrap64 (x46 + 1)) x294000 x294001 x294002 x294003 x294004)) else (some false))) else (some false))) else (none)) else (none)) else (impl_BoxOK.l1 k x294004 (x294004.length : Int) 0 x294000 x294001 x294002 x294003 x294004)
def impl_BoxOK.l1 : Nat → List ByteArray → Int → Int → ByteArray → Int → Int → List (S71) → List ByteArray → Option (Bool)
 | 0, _, _, _, _, _, _, _, _ => none
 | k + 1, x75, x76, x77, x294000, x294001, x294002, x294003, x294004 => if x77 < x76 then (if 0 ≤ x77 then (if x77 < (x75.length : Int) then ((impl_keyOK.f (rdOf ByteArray.empty x75 x77)).bind fun t302 => (if t302 = true then (if x77 ≤ (x294004.length : Int) then ((slices_Contains_string_string.f k (x294004.take (x77 : Int).toNat) (rdOf ByteArray.empty x75 x77)).bind fun t304 => (if t304 = true then (some false) else (impl_BoxOK.l1 k x75 x76 (wrap64 (x77 + 1)) x294000 x294001 x294002 x294003 x294004))) else (none)) else (some false))) else (none)) else (none)) else (some true)
end
def impl_BoxOK.f (k : Nat) (a0_0 : ByteArray) (a0_1 : Int) (a0_2 : Int) (l0_3 : List (S71)) (l0_4 : List ByteArray) : Option (Bool) := (impl_NameOK.f k a0_0).bind fun t294 => (if t294 = true then ((impl_within.f a0_1 1 1000000).bind fun t295 => (if t295 = true then ((impl_within.f a0_2 1 1001).bind fun t296 => (impl_BoxOK.j0 k (!t296) a0_0 a0_1 a0_2 l0_3 l0_4)) else (impl_BoxOK.j0 k true a0_0 a0_1 a0_2 l0_3 l0_4))) else (impl_BoxOK.j0 k true a0_0 a0_1 a0_2 l0_3 l0_4))
theorem impl_BoxOK.mono_l : ∀ k, (∀ y0 y1 y2 y3 y4 y5, LeO (impl_BoxOK.j0 k y0 y1 y2 y3 y4 y5) (impl_BoxOK.j0 (k + 1) y0 y1 y2 y3 y4 y5)) ∧ (∀ y0 y1 y2 y3 y4 y5, LeO (impl_BoxOK.j1 k y0 y1 y2 y3 y4 y5) (impl_BoxOK.j1 (k + 1) y0 y1 y2 y3 y4 y5)) ∧ (∀ y0 y1 y2 y3 y4 y5 y6 y7 y8, LeO (impl_BoxOK.l0 k y0 y1 y2 y3 y4 y5 y6 y7 y8) (impl_BoxOK.l0 (k + 1) y0 y1 y2 y3 y4 y5 y6 y7 y8)) ∧ (∀ y0 y1 y2 y3 y4 y5 y6 y7, LeO (impl_BoxOK.l1 k y0 y1 y2 y3 y4 y5 y6 y7) (impl_BoxOK.l1 (k + 1) y0 y1 y2 y3 y4 y5 y6 y7))
 | 0 => ⟨fun _ _ _ _ _ _ r h => by simp [impl_BoxOK.j0] at h, fun _ _ _ _ _ _ r h => by simp [impl_BoxOK.j1] at h, fun _ _ _ _ _ _ _ _ _ r h => by simp [impl_BoxOK.l0] at h, fun _ _ _ _ _ _ _ _ r h => by simp [impl_BoxOK.l1] at h⟩
 | k + 1 => by
  obtain ⟨ih0, ih1, ih2, ih3⟩ := impl_BoxOK.mono_l k
  refine ⟨?_, ?_, ?_, ?_⟩
  ·intro y0 y1 y2 y3 y4 y5
   unfold impl_BoxOK.j0
   have m0 := @impl_NameOK.mono
   have m1 := @slices_Contains_string_string.mono
   exact tM
  ·intro y0 y1 y2 y3 y4 y5
   unfold impl_BoxOK.j1
   have m0 := @impl_NameOK.mono
   have m1 := @slices_Contains_string_string.mono
   exact tM
  ·intro y0 y1 y2 y3 y4 y5 y6 y7 y8
   unfold impl_BoxOK.l0
   have m0 := @impl_NameOK.mono
   have m1 := @slices_Contains_string_string.mono
   exact tM
  ·intro y0 y1 y2 y3 y4 y5 y6 y7
   unfold impl_BoxOK.l1
   have m0 := @impl_NameOK.mono
   have m1 := @slices_Contains_string_string.mono
   exact tM
theorem impl_BoxOK.mono : ∀ a0 a1 a2 a3 a4 k, LeO (impl_BoxOK.f k a0 a1 a2 a3 a4) (impl_BoxOK.f (k + 1) a0 a1 a2 a3 a4) := by
 intro a0 a1 a2 a3 a4 k
 obtain ⟨ih0, ih1, ih2, ih3⟩ := impl_BoxOK.mono_l k
 unfold impl_BoxOK.f
 have m0 := @impl_NameOK.mono
 have m1 := @slices_Contains_string_string.mono
 exact tM
set_option maxHeartbeats 40000000 in
set_option maxRecDepth 100000 in
theorem impl_BoxOK.calls (k : Nat) (a0_0 : ByteArray) (a0_1 : Int) (a0_2 : Int) (A0_3 : Option Addr) (c0_3 : Nat) (l0_3 : List (S71)) (A0_4 : Option Addr) (c0_4 : Nat) (l0_4 : List ByteArray) (r : Bool) (w : World) (hr0_3 : Kd.C k71 w A0_3 l0_3.length l0_3) (hc0_3 : l0_3.length ≤ c0_3) (hr0_4 : Kd.C Kd.string w A0_4 l0_4.length l0_4) (hc0_4 : l0_4.length ≤ c0_4) (h : impl_BoxOK.f k a0_0 a0_1 a0_2 l0_3 l0_4 = some r) :
  Calls Try.prog 35 #[.agg #[.string a0_0, .int .i64 a0_1, .int .i64 a0_2, .slice A0_3 l0_3.length c0_3, .slice A0_4 l0_4.length c0_4]] w fun e w' => e = .returned (.bool r) ∧ Below w.heap.size w w' := by
 have hu59 := Try.underlying59
 have hu71 := Try.underlying71
 have HR0_3 := Aside0.mk hr0_3
 have HC0_3 := Aside0.mk hc0_3
 clear hr0_3 hc0_3
 have HR0_4 := Aside0.mk hr0_4
 have HC0_4 := Aside0.mk hc0_4
 clear hr0_4 hc0_4
 have HB := Aside0.mk (Below.refl w.heap.size w)
 have H : ((impl_NameOK.f k a0_0).bind fun t294 => (if t294 = true then ((impl_within.f a0_1 1 1000000).bind fun t295 => (if t295 = true then ((impl_within.f a0_2 1 1001).bind fun t296 => (impl_BoxOK.j0 k (!t296) a0_0 a0_1 a0_2 l0_3 l0_4)) else (impl_BoxOK.j0 k true a0_0 a0_1 a0_2 l0_3 l0_4))) else (impl_BoxOK.j0 k true a0_0 a0_1 a0_2 l0_3 l0_4))) = some r := h
 clear h
 have HC2 := Aside0.mk H
 clear H
 go_enter Try.func35, Try.ntmps35
 go_upto_region 1 with (first | ((with_reducible refine gate_dst (N := 1) rfl ?_); (try (refine gate_guard (Z102) ?_; dsimp only)); refine bxE 1 #[.string a0_0, .int .i64 a0_1, .int .i64 a0_2, .slice A0_3 l0_3.length c0_3, .slice A0_4 l0_4.length c0_4] 59 ?_; intro gb293 hg w3 hbox hb; have BK293 := Aside0.mk (hbox); have GW293 := Aside0.mk ((szE w hg (Z0))); have GE293 := Aside0.mk ((szE w hg (Z0))); replace HB := Aside0.mk (below_step (Z0) hb); clear hb hbox hg))
 (try simp only [Act.put, List.setIfInBounds_toArray, List.set_cons_zero, List.set_cons_succ])
 go_cut [23] (fun v23 wc => ∃ (kq : Nat) (x23_1 : Bool), v23 = .bool x23_1 ∧ Aside0 (impl_BoxOK.j0 kq x23_1 a0_0 a0_1 a0_2 l0_3 l0_4 = some r) ∧ Aside0 (kq ≤ k) ∧ Aside0 (wc.heap[gb293]? = some (.cells #[.string a0_0, .int .i64 a0_1, .int .i64 a0_2, (.slice A0_3 l0_3.length c0_3), (.slice A0_4 l0_4.length c0_4)] 59 (0, 0))) ∧ Aside0 (Below w.heap.size w wc))
 case first =>
  have H := HC2.out
  clear HC2
  obtain ⟨t294, A4, H⟩ := bindA H
  try dsimp only at H
  by_cases c5 : t294 = true
  ·subst c5
   replace H := ifT H
   obtain ⟨t295, A6, H⟩ := bindA H
   try dsimp only at H
   by_cases c7 : t295 = true
   ·subst c7
    replace H := ifT H
    obtain ⟨t296, A8, H⟩ := bindA H
    try dsimp only at H
    have H' := Aside0.mk H
    clear H
    obtain ⟨hcz9_0, hcz9_1, hcz9_2, hcz9_3, hcz9_4⟩ := bc5 BK293.out
    obtain ⟨hfz9_0, hfz9_1, hfz9_2, hfz9_3, hfz9_4⟩ := bf5 BK293.out
    go_wp2_with (first | ((with_reducible refine gate_callee (f := 59) rfl ?_); refine goesL_ (some 10) rfl rfl Try.func59 (Z24) rfl #[.string a0_0] rfl (Z1) ?_; (with_reducible refine (impl_NameOK.calls k a0_0 true _ A4.out).mono ?_); rintro e w' ⟨rfl, ⟨nd, rfl⟩⟩; refine ⟨_, rfl, ?_⟩) | (go_at_call 34; (with_reducible refine (impl_within.calls a0_1 1 1000000 true _ A6.out).mono ?_); rintro e w' ⟨rfl, ⟨nd, rfl⟩⟩) | (go_at_call 34; (with_reducible refine (impl_within.calls a0_2 1 1001 t296 _ A8.out).mono ?_); rintro e w' ⟨rfl, ⟨nd, rfl⟩⟩))
    go_meet
    case rel => exact ⟨_, (!t296), (Z3), H', ⟨Z74⟩, ⟨Z34⟩, ⟨Z16⟩⟩
   ·replace c7 := Bool.eq_false_iff.mpr c7
    subst c7
    replace H := ifF H
    have H' := Aside0.mk H
    clear H
    obtain ⟨hcz10_0, hcz10_1, hcz10_2, hcz10_3, hcz10_4⟩ := bc5 BK293.out
    obtain ⟨hfz10_0, hfz10_1, hfz10_2, hfz10_3, hfz10_4⟩ := bf5 BK293.out
    go_wp2_with (first | ((with_reducible refine gate_callee (f := 59) rfl ?_); refine goesL_ (some 10) rfl rfl Try.func59 (Z24) rfl #[.string a0_0] rfl (Z1) ?_; (with_reducible refine (impl_NameOK.calls k a0_0 true _ A4.out).mono ?_); rintro e w' ⟨rfl, ⟨nd, rfl⟩⟩; refine ⟨_, rfl, ?_⟩) | (go_at_call 34; (with_reducible refine (impl_within.calls a0_1 1 1000000 false _ A6.out).mono ?_); rintro e w' ⟨rfl, ⟨nd, rfl⟩⟩))
    go_meet
    case rel => exact ⟨_, (true), (Z3), H', ⟨Z74⟩, ⟨Z34⟩, ⟨Z16⟩⟩
  ·replace c5 := Bool.eq_false_iff.mpr c5
   subst c5
   replace H := ifF H
   have H' := Aside0.mk H
   clear H
   obtain ⟨hcz11_0, hcz11_1, hcz11_2, hcz11_3, hcz11_4⟩ := bc5 BK293.out
   obtain ⟨hfz11_0, hfz11_1, hfz11_2, hfz11_3, hfz11_4⟩ := bf5 BK293.out
   go_wp2_with (first | ((with_reducible refine gate_callee (f := 59) rfl ?_); refine goesL_ (some 10) rfl rfl Try.func59 (Z24) rfl #[.string a0_0] rfl (Z1) ?_; (with_reducible refine (impl_NameOK.calls k a0_0 false _ A4.out).mono ?_); rintro e w' ⟨rfl, ⟨nd, rfl⟩⟩; refine ⟨_, rfl, ?_⟩))
   go_meet
   case rel => exact ⟨_, (true), (Z3), H', ⟨Z74⟩, ⟨Z34⟩, ⟨Z16⟩⟩
 case rest =>
  clear HC2
  obtain ⟨kq, x23_1, rfl, HA, HJ1, BK293, HB⟩ := hcut
  cases kq with
  | zero => exact absurd HA.out (by simp [impl_BoxOK.j0])
  | succ kj1 =>
   have H := HA.out
   clear HA
   simp only [impl_BoxOK.j0] at H
   by_cases c12 : x23_1 = true
   ·subst c12
    replace H := ifT H
    obtain rfl := Option.some.inj H
    go_wp2
    go_ret
    exact ⟨Z2, Z16⟩
   ·replace c12 := Bool.eq_false_iff.mpr c12
    subst c12
    replace H := ifF H
    have HC13 := Aside0.mk H
    clear H
    go_upto_region 3 with (fail)
    go_cut [42] (fun v42 wc => ∃ (kq : Nat) (x42_12 : Bool), v42 = .bool x42_12 ∧ Aside0 (impl_BoxOK.j1 kq x42_12 a0_0 a0_1 a0_2 l0_3 l0_4 = some r) ∧ Aside0 (kq ≤ kj1) ∧ Aside0 (wc.heap[gb293]? = some (.cells #[.string a0_0, .int .i64 a0_1, .int .i64 a0_2, (.slice A0_3 l0_3.length c0_3), (.slice A0_4 l0_4.length c0_4)] 59 (0, 0))) ∧ Aside0 (Below w.heap.size w wc))
    case first =>
     have H := HC13.out
     clear HC13
     by_cases c14 : (l0_3.length : Int) > 30
     ·rw [if_pos c14] at H
      have c14b0 : decide (30 < (l0_3.length : Int)) = true := decide_eq_true c14
      have c14b1 : decide (30 < l0_3.length) = true := decide_eq_true (Z43)
      clear c14
      (first | rw [c14b0] | rw [c14b1] | (simp only [i64_w, i32_w]; rw [c14b0]) | skip)
      have H' := Aside0.mk H
      clear H
      obtain ⟨hcz15_0, hcz15_1, hcz15_2, hcz15_3, hcz15_4⟩ := bc5 BK293.out
      obtain ⟨hfz15_0, hfz15_1, hfz15_2, hfz15_3, hfz15_4⟩ := bf5 BK293.out
      go_wp2
      go_meet
      case rel => exact ⟨_, (true), (Z3), H', ⟨Z142⟩, ⟨Z34⟩, ⟨Z16⟩⟩
     ·rw [if_neg c14] at H
      have c14b0 : decide (30 < (l0_3.length : Int)) = false := decide_eq_false c14
      have c14b1 : decide (30 < l0_3.length) = false := decide_eq_false (Z43)
      clear c14
      (first | rw [c14b0] | rw [c14b1] | (simp only [i64_w, i32_w]; rw [c14b0]) | skip)
      by_cases c16 : (l0_4.length : Int) > 60
      ·rw [if_pos c16] at H
       have c16b0 : decide (60 < (l0_4.length : Int)) = true := decide_eq_true c16
       have c16b1 : decide (60 < l0_4.length) = true := decide_eq_true (Z43)
       clear c16
       have H' := Aside0.mk H
       clear H
       obtain ⟨hcz17_0, hcz17_1, hcz17_2, hcz17_3, hcz17_4⟩ := bc5 BK293.out
       obtain ⟨hfz17_0, hfz17_1, hfz17_2, hfz17_3, hfz17_4⟩ := bf5 BK293.out
       go_wp2
       go_meet
       case rel => exact ⟨_, (true), (Z3), H', ⟨Z142⟩, ⟨Z34⟩, ⟨Z16⟩⟩
      ·rw [if_neg c16] at H
       have c16b0 : decide (60 < (l0_4.length : Int)) = false := decide_eq_false c16
       have c16b1 : decide (60 < l0_4.length) = false := decide_eq_false (Z43)
       clear c16
       have H' := Aside0.mk H
       clear H
       obtain ⟨hcz18_0, hcz18_1, hcz18_2, hcz18_3, hcz18_4⟩ := bc5 BK293.out
       obtain ⟨hfz18_0, hfz18_1, hfz18_2, hfz18_3, hfz18_4⟩ := bf5 BK293.out
       go_wp2
       go_meet
       case rel => exact ⟨_, (((l0_4.length : Int) != (wrap64 (a0_2 - 1)))), (Z3), H', ⟨Z142⟩, ⟨Z34⟩, ⟨Z16⟩⟩
    case rest =>
     clear HC13
     (try clear c12)
     obtain ⟨kq, x42_12, rfl, HA, HJ12, BK293, HB⟩ := hcut
     cases kq with
     | zero => exact absurd HA.out (by simp [impl_BoxOK.j1])
     | succ kj12 =>
      have H := HA.out
      clear HA
      simp only [impl_BoxOK.j1] at H
      by_cases c19 : x42_12 = true
      ·subst c19
       replace H := ifT H
       obtain rfl := Option.some.inj H
       go_wp2
       go_ret
       exact ⟨Z2, Z16⟩
      ·replace c19 := Bool.eq_false_iff.mpr c19
       subst c19
       replace H := ifF H
       have H' := Aside0.mk H
       clear H
       obtain ⟨hcz20_0, hcz20_1, hcz20_2, hcz20_3, hcz20_4⟩ := bc5 BK293.out
       obtain ⟨hfz20_0, hfz20_1, hfz20_2, hfz20_3, hfz20_4⟩ := bf5 BK293.out
       go_wp2
       go_loopg [3, 46] kj12 (fun kq v3 v46 w' => ∃ (x3_3 : Int) (x46_3 : Int), v3 = .int .i64 x3_3 ∧ v46 = .int .i64 x46_3 ∧ Aside0 (impl_BoxOK.l0 kq x3_3 l0_3 (l0_3.length : Int) x46_3 a0_0 a0_1 a0_2 l0_3 l0_4 = some r) ∧ Aside0 (kq ≤ kj12) ∧ Aside0 (w'.heap[gb293]? = some (.cells #[.string a0_0, .int .i64 a0_1, .int .i64 a0_2, (.slice A0_3 l0_3.length c0_3), (.slice A0_4 l0_4.length c0_4)] 59 (0, 0))) ∧ Aside0 (Below w.heap.size w w'))
       case atStart => exact ⟨(0), (0), (Z3), (Z3), H', ⟨Nat.le_refl _⟩, ⟨Z34⟩, ⟨Z16⟩⟩
       case round =>
        clear H'
        (try clear c12); (try clear c19); (try clear hcz20_0); (try clear hcz20_1); (try clear hcz20_2); (try clear hcz20_3); (try clear hcz20_4); (try clear hfz20_0); (try clear hfz20_1); (try clear hfz20_2); (try clear hfz20_3); (try clear hfz20_4)
        obtain ⟨x3_3, x46_3, rfl, rfl, HA, HK3, BK293, HB⟩ := hrel
        cases gk with
        | zero => exact absurd HA.out (by simp [impl_BoxOK.l0])
        | succ k3 =>
         have H := HA.out
         clear HA
         simp only [impl_BoxOK.l0] at H
         by_cases c21 : x46_3 < (l0_3.length : Int)
         ·rw [if_pos c21] at H
          have c21b0 := decide_eq_true c21
          clear c21
          obtain ⟨c22, H⟩ := ifS H
          have c22b0 : decide (0 ≤ x46_3) = true := decide_eq_true c22
          clear c22
          obtain ⟨c23, H⟩ := ifS H
          have c23b0 : decide (x46_3 < (l0_3.length : Int)) = true := decide_eq_true c23
          clear c23
          obtain ⟨t299, A24, H⟩ := bindA H
          try dsimp only at H
          by_cases c25 : t299 = true
          ·subst c25
           replace H := ifT H
           obtain ⟨t300, A26, H⟩ := bindA H
           try dsimp only at H
           by_cases c27 : t300 = true
           ·subst c27
            replace H := ifT H
            by_cases c28 : (((rd_T71 l0_3 x46_3).f2).size : Int) > 4000
            ·rw [if_pos c28] at H
             have c28b0 : decide (4000 < (((rd_T71 l0_3 x46_3).f2).size : Int)) = true := decide_eq_true c28
             have c28b1 : decide (4000 < ((rd_T71 l0_3 x46_3).f2).size) = true := decide_eq_true (Z43)
             clear c28
             obtain rfl := Option.some.inj H
             have p297 : 0 ≤ (x46_3 : Int) := of_decide_eq_true (Z4)
             have q297 : x46_3 < (l0_3.length : Int) := of_decide_eq_true (Z4)
             obtain ⟨ad297, e297, hx297_0, hx297_1, hx297_2⟩ := at_T71 HR0_3.out x46_3 p297 q297
             cases e297
             replace hx297_0 := cB HB.out hx297_0
             replace hx297_1 := cB HB.out hx297_1
             replace hx297_2 := cB HB.out hx297_2
             replace p297 := eq_true p297
             replace q297 := eq_true q297
             go_wp2_with (first | ((with_reducible refine gate_dst (N := 5) rfl ?_); (try (refine gate_guard (Z102) ?_; dsimp only)); refine bxE 5 #[.int .i64 0, .int .i64 0, .string (⟨#[]⟩ : ByteArray)] 71 ?_; intro gb298 hg w29 hbox hb; have BK298 := Aside0.mk (hbox); have GW298 := Aside0.mk ((szE w hg (Z16))); have GE298 := Aside0.mk ((szE w hg (Z16))); replace HB := Aside0.mk (below_step (Z16) hb); have NB293_298 := Aside0.mk ((nL BK293 hg (Z34))); have NB298_293 := Aside0.mk ((nG BK293 hg (Z34))); replace BK293 := Aside0.mk (kB BK293 (Z34) hb); clear hb hbox hg; have hnb30 := NB298_293.out; have hnc30 := NB293_298.out; obtain ⟨hcz31_0, hcz31_1, hcz31_2⟩ := bc3 BK298.out; obtain ⟨hfz31_0, hfz31_1, hfz31_2⟩ := bf3 BK298.out; obtain ⟨hcz32_0, hcz32_1, hcz32_2, hcz32_3, hcz32_4⟩ := bc5 BK293.out; obtain ⟨hfz32_0, hfz32_1, hfz32_2, hfz32_3, hfz32_4⟩ := bf5 BK293.out) | ((with_reducible refine gate_callee (f := 34) rfl ?_); refine goesL_ (some 57) rfl rfl Try.func34 (Z24) rfl #[.int .i64 ((rd_T71 l0_3 x46_3).f0), .int .i64 (wrap64 (x3_3 + 1)), .int .i64 (wrap64 (a0_2 - 1))] rfl (Z1) ?_; (with_reducible refine (impl_within.calls ((rd_T71 l0_3 x46_3).f0) (wrap64 (x3_3 + 1)) (wrap64 (a0_2 - 1)) true _ A24.out).mono ?_); rintro e w' ⟨rfl, ⟨nd, rfl⟩⟩; refine ⟨_, rfl, ?_⟩) | (go_at_call 34; (with_reducible refine (impl_within.calls ((rd_T71 l0_3 x46_3).f1) 0 31 true _ A26.out).mono ?_); rintro e w' ⟨rfl, ⟨nd, rfl⟩⟩))
             go_ret
             exact ⟨Z2, Z80⟩
            ·rw [if_neg c28] at H
             have c28b0 : decide (4000 < (((rd_T71 l0_3 x46_3).f2).size : Int)) = false := decide_eq_false c28
             have c28b1 : decide (4000 < ((rd_T71 l0_3 x46_3).f2).size) = false := decide_eq_false (Z43)
             clear c28
             have H' := Aside0.mk H
             clear H
             have p297 : 0 ≤ (x46_3 : Int) := of_decide_eq_true (Z4)
             have q297 : x46_3 < (l0_3.length : Int) := of_decide_eq_true (Z4)
             obtain ⟨ad297, e297, hx297_0, hx297_1, hx297_2⟩ := at_T71 HR0_3.out x46_3 p297 q297
             cases e297
             replace hx297_0 := cB HB.out hx297_0
             replace hx297_1 := cB HB.out hx297_1
             replace hx297_2 := cB HB.out hx297_2
             replace p297 := eq_true p297
             replace q297 := eq_true q297
             go_wp2_with (first | ((with_reducible refine gate_dst (N := 5) rfl ?_); (try (refine gate_guard (Z102) ?_; dsimp only)); refine bxE 5 #[.int .i64 0, .int .i64 0, .string (⟨#[]⟩ : ByteArray)] 71 ?_; intro gb298 hg w33 hbox hb; have BK298 := Aside0.mk (hbox); have GW298 := Aside0.mk ((szE w hg (Z16))); have GE298 := Aside0.mk ((szE w hg (Z16))); replace HB := Aside0.mk (below_step (Z16) hb); have NB293_298 := Aside0.mk ((nL BK293 hg (Z34))); have NB298_293 := Aside0.mk ((nG BK293 hg (Z34))); replace BK293 := Aside0.mk (kB BK293 (Z34) hb); clear hb hbox hg; have hnb34 := NB298_293.out; have hnc34 := NB293_298.out; obtain ⟨hcz35_0, hcz35_1, hcz35_2⟩ := bc3 BK298.out; obtain ⟨hfz35_0, hfz35_1, hfz35_2⟩ := bf3 BK298.out; obtain ⟨hcz36_0, hcz36_1, hcz36_2, hcz36_3, hcz36_4⟩ := bc5 BK293.out; obtain ⟨hfz36_0, hfz36_1, hfz36_2, hfz36_3, hfz36_4⟩ := bf5 BK293.out) | ((with_reducible refine gate_callee (f := 34) rfl ?_); refine goesL_ (some 57) rfl rfl Try.func34 (Z24) rfl #[.int .i64 ((rd_T71 l0_3 x46_3).f0), .int .i64 (wrap64 (x3_3 + 1)), .int .i64 (wrap64 (a0_2 - 1))] rfl (Z1) ?_; (with_reducible refine (impl_within.calls ((rd_T71 l0_3 x46_3).f0) (wrap64 (x3_3 + 1)) (wrap64 (a0_2 - 1)) true _ A24.out).mono ?_); rintro e w' ⟨rfl, ⟨nd, rfl⟩⟩; refine ⟨_, rfl, ?_⟩) | (go_at_call 34; (with_reducible refine (impl_within.calls ((rd_T71 l0_3 x46_3).f1) 0 31 true _ A26.out).mono ?_); rintro e w' ⟨rfl, ⟨nd, rfl⟩⟩))
             go_roundg k3
             case measure => have := HJ1.out; have := HJ12.out; have := HK3.out; omega
             case rel => exact ⟨((rd_T71 l0_3 x46_3).f0), (wrap64 (x46_3 + 1)), (Z3), (Z3), H', ⟨by have := HJ1.out; have := HJ12.out; have := HK3.out; omega⟩, ⟨by (with_reducible repeat (first | refine blk_drewN ?_ _ | refine blk_drew ?_ | refine blk_alloc ?_ _)); refine blk_far ?_ NB293_298.out _; (with_reducible repeat (first | refine blk_drewN ?_ _ | refine blk_drew ?_ | refine blk_alloc ?_ _)); refine blk_far ?_ NB293_298.out _; (with_reducible repeat (first | refine blk_drewN ?_ _ | refine blk_drew ?_ | refine blk_alloc ?_ _)); refine blk_far ?_ NB293_298.out _; (with_reducible repeat (first | refine blk_drewN ?_ _ | refine blk_drew ?_ | refine blk_alloc ?_ _)); exact BK293.out⟩, ⟨Z80⟩⟩
           ·replace c27 := Bool.eq_false_iff.mpr c27
            subst c27
            replace H := ifF H
            obtain rfl := Option.some.inj H
            have p297 : 0 ≤ (x46_3 : Int) := of_decide_eq_true (Z4)
            have q297 : x46_3 < (l0_3.length : Int) := of_decide_eq_true (Z4)
            obtain ⟨ad297, e297, hx297_0, hx297_1, hx297_2⟩ := at_T71 HR0_3.out x46_3 p297 q297
            cases e297
            replace hx297_0 := cB HB.out hx297_0
            replace hx297_1 := cB HB.out hx297_1
            replace hx297_2 := cB HB.out hx297_2
            replace p297 := eq_true p297
            replace q297 := eq_true q297
            go_wp2_with (first | ((with_reducible refine gate_dst (N := 5) rfl ?_); (try (refine gate_guard (Z102) ?_; dsimp only)); refine bxE 5 #[.int .i64 0, .int .i64 0, .string (⟨#[]⟩ : ByteArray)] 71 ?_; intro gb298 hg w37 hbox hb; have BK298 := Aside0.mk (hbox); have GW298 := Aside0.mk ((szE w hg (Z16))); have GE298 := Aside0.mk ((szE w hg (Z16))); replace HB := Aside0.mk (below_step (Z16) hb); have NB293_298 := Aside0.mk ((nL BK293 hg (Z34))); have NB298_293 := Aside0.mk ((nG BK293 hg (Z34))); replace BK293 := Aside0.mk (kB BK293 (Z34) hb); clear hb hbox hg; have hnb38 := NB298_293.out; have hnc38 := NB293_298.out; obtain ⟨hcz39_0, hcz39_1, hcz39_2⟩ := bc3 BK298.out; obtain ⟨hfz39_0, hfz39_1, hfz39_2⟩ := bf3 BK298.out; obtain ⟨hcz40_0, hcz40_1, hcz40_2, hcz40_3, hcz40_4⟩ := bc5 BK293.out; obtain ⟨hfz40_0, hfz40_1, hfz40_2, hfz40_3, hfz40_4⟩ := bf5 BK293.out) | ((with_reducible refine gate_callee (f := 34) rfl ?_); refine goesL_ (some 57) rfl rfl Try.func34 (Z24) rfl #[.int .i64 ((rd_T71 l0_3 x46_3).f0), .int .i64 (wrap64 (x3_3 + 1)), .int .i64 (wrap64 (a0_2 - 1))] rfl (Z1) ?_; (with_reducible refine (impl_within.calls ((rd_T71 l0_3 x46_3).f0) (wrap64 (x3_3 + 1)) (wrap64 (a0_2 - 1)) true _ A24.out).mono ?_); rintro e w' ⟨rfl, ⟨nd, rfl⟩⟩; refine ⟨_, rfl, ?_⟩) | (go_at_call 34; (with_reducible refine (impl_within.calls ((rd_T71 l0_3 x46_3).f1) 0 31 false _ A26.out).mono ?_); rintro e w' ⟨rfl, ⟨nd, rfl⟩⟩))
            go_ret
            exact ⟨Z2, Z80⟩
          ·replace c25 := Bool.eq_false_iff.mpr c25
           subst c25
           replace H := ifF H
           obtain rfl := Option.some.inj H
           have p297 : 0 ≤ (x46_3 : Int) := of_decide_eq_true (Z4)
           have q297 : x46_3 < (l0_3.length : Int) := of_decide_eq_true (Z4)
           obtain ⟨ad297, e297, hx297_0, hx297_1, hx297_2⟩ := at_T71 HR0_3.out x46_3 p297 q297
           cases e297
           replace hx297_0 := cB HB.out hx297_0
           replace hx297_1 := cB HB.out hx297_1
           replace hx297_2 := cB HB.out hx297_2
           replace p297 := eq_true p297
           replace q297 := eq_true q297
           go_wp2_with (first | ((with_reducible refine gate_dst (N := 5) rfl ?_); (try (refine gate_guard (Z102) ?_; dsimp only)); refine bxE 5 #[.int .i64 0, .int .i64 0, .string (⟨#[]⟩ : ByteArray)] 71 ?_; intro gb298 hg w41 hbox hb; have BK298 := Aside0.mk (hbox); have GW298 := Aside0.mk ((szE w hg (Z16))); have GE298 := Aside0.mk ((szE w hg (Z16))); replace HB := Aside0.mk (below_step (Z16) hb); have NB293_298 := Aside0.mk ((nL BK293 hg (Z34))); have NB298_293 := Aside0.mk ((nG BK293 hg (Z34))); replace BK293 := Aside0.mk (kB BK293 (Z34) hb); clear hb hbox hg; have hnb42 := NB298_293.out; have hnc42 := NB293_298.out; obtain ⟨hcz43_0, hcz43_1, hcz43_2⟩ := bc3 BK298.out; obtain ⟨hfz43_0, hfz43_1, hfz43_2⟩ := bf3 BK298.out; obtain ⟨hcz44_0, hcz44_1, hcz44_2, hcz44_3, hcz44_4⟩ := bc5 BK293.out; obtain ⟨hfz44_0, hfz44_1, hfz44_2, hfz44_3, hfz44_4⟩ := bf5 BK293.out) | ((with_reducible refine gate_callee (f := 34) rfl ?_); refine goesL_ (some 57) rfl rfl Try.func34 (Z24) rfl #[.int .i64 ((rd_T71 l0_3 x46_3).f0), .int .i64 (wrap64 (x3_3 + 1)), .int .i64 (wrap64 (a0_2 - 1))] rfl (Z1) ?_; (with_reducible refine (impl_within.calls ((rd_T71 l0_3 x46_3).f0) (wrap64 (x3_3 + 1)) (wrap64 (a0_2 - 1)) false _ A24.out).mono ?_); rintro e w' ⟨rfl, ⟨nd, rfl⟩⟩; refine ⟨_, rfl, ?_⟩))
           go_ret
           exact ⟨Z2, Z80⟩
         ·rw [if_neg c21] at H
          have c21b0 := decide_eq_false c21
          clear c21
          have H' := Aside0.mk H
          clear H
          obtain ⟨hcz45_0, hcz45_1, hcz45_2, hcz45_3, hcz45_4⟩ := bc5 BK293.out
          obtain ⟨hfz45_0, hfz45_1, hfz45_2, hfz45_3, hfz45_4⟩ := bf5 BK293.out
          go_wp2
          go_loopg [77] k3 (fun kq v77 w' => ∃ (x77_4 : Int), v77 = .int .i64 x77_4 ∧ Aside0 (impl_BoxOK.l1 kq l0_4 (l0_4.length : Int) x77_4 a0_0 a0_1 a0_2 l0_3 l0_4 = some r) ∧ Aside0 (kq ≤ k3) ∧ Aside0 (w'.heap[gb293]? = some (.cells #[.string a0_0, .int .i64 a0_1, .int .i64 a0_2, (.slice A0_3 l0_3.length c0_3), (.slice A0_4 l0_4.length c0_4)] 59 (0, 0))) ∧ Aside0 (Below w.heap.size w w'))
          case atStart => exact ⟨(0), (Z3), H', ⟨Nat.le_refl _⟩, ⟨Z34⟩, ⟨Z16⟩⟩
          case round =>
           clear H'
           (try clear c12); (try clear c19); (try clear c21); (try clear c21b0); (try clear hcz20_0); (try clear hcz20_1); (try clear hcz20_2); (try clear hcz20_3); (try clear hcz20_4); (try clear hcz45_0); (try clear hcz45_1); (try clear hcz45_2); (try clear hcz45_3); (try clear hcz45_4); (try clear hfz20_0); (try clear hfz20_1); (try clear hfz20_2); (try clear hfz20_3); (try clear hfz20_4); (try clear hfz45_0); (try clear hfz45_1); (try clear hfz45_2); (try clear hfz45_3); (try clear hfz45_4)
           obtain ⟨x77_4, rfl, HA, HK4, BK293, HB⟩ := hrel
           cases gk with
           | zero => exact absurd HA.out (by simp [impl_BoxOK.l1])
           | succ k4 =>
            have H := HA.out
            clear HA
            simp only [impl_BoxOK.l1] at H
            by_cases c46 : x77_4 < (l0_4.length : Int)
            ·rw [if_pos c46] at H
             have c46b0 := decide_eq_true c46
             clear c46
             obtain ⟨c47, H⟩ := ifS H
             have c47b0 : decide (0 ≤ x77_4) = true := decide_eq_true c47
             clear c47
             obtain ⟨c48, H⟩ := ifS H
             have c48b0 : decide (x77_4 < (l0_4.length : Int)) = true := decide_eq_true c48
             clear c48
             obtain ⟨t302, A49, H⟩ := bindA H
             try dsimp only at H
             by_cases c50 : t302 = true
             ·subst c50
              replace H := ifT H
              have c51b0 := eq_true (of_decide_eq_true (Z4) : 0 ≤ x77_4)
              obtain ⟨c52, H⟩ := ifS H
              have c52b0 := eq_true c52
              have c52b1 : decide (x77_4 ≤ (l0_4.length : Int)) = true := decide_eq_true c52
              clear c52
              obtain ⟨t304, A53, H⟩ := bindA H
              try dsimp only at H
              by_cases c54 : t304 = true
              ·subst c54
               replace H := ifT H
               obtain rfl := Option.some.inj H
               have p301 : 0 ≤ (x77_4 : Int) := of_decide_eq_true (Z4)
               have q301 : x77_4 < (l0_4.length : Int) := of_decide_eq_true (Z4)
               obtain ⟨ad301, e301, hx301_0⟩ := Kd.at_string HR0_4.out x77_4 p301 q301
               cases e301
               replace hx301_0 := cB HB.out hx301_0
               replace p301 := eq_true p301
               replace q301 := eq_true q301
               go_wp2_with (first | ((with_reducible refine gate_callee (f := 60) rfl ?_); refine goesL_ (some 83) rfl rfl Try.func60 (Z24) rfl #[.string (rdOf ByteArray.empty l0_4 x77_4)] rfl (Z1) ?_; (with_reducible refine (impl_keyOK.calls (rdOf ByteArray.empty l0_4 x77_4) true _ A49.out).mono ?_); rintro e w' ⟨rfl, ⟨nd, rfl⟩⟩; refine ⟨_, rfl, ?_⟩; obtain ⟨hcz55_0, hcz55_1, hcz55_2, hcz55_3, hcz55_4⟩ := bc5 BK293.out; obtain ⟨hfz55_0, hfz55_1, hfz55_2, hfz55_3, hfz55_4⟩ := bf5 BK293.out; obtain ⟨i056, hi056, _, hsz56, _⟩ := info_parts info9; obtain ⟨hcut56, hA56, hC56⟩ := print_take_of (P := Try.prog) Value.string (⟨#[]⟩ : ByteArray) 40 9 .i64 Try.underlying40 hi056 hsz56 (some ad301) c0_4 l0_4 x77_4 (of_decide_eq_true (Z4)) (of_decide_eq_true (Z4)) HC0_4.out; have HR303 := Aside0.mk (Kd.C_of_reads (h1 := fun _ => rfl) (hA56 _ (Kd.reads_of_C HR0_4.out))); have HC303 := Aside0.mk hC56; clear hA56 hC56 hi056 hsz56) | (go_at_call 61; refine (contains_front k4 _ _ l0_4 _ (rdOf ByteArray.empty l0_4 x77_4) true _ (Kd.C_below HR0_4.out (Z16)) (by have h_ : x77_4 ≤ (l0_4.length : Int) := of_decide_eq_true (Z144); omega) HC0_4.out A53.out).mono ?_; rintro e w' ⟨rfl, ⟨nd, rfl⟩⟩))
               go_ret
               exact ⟨Z2, Z16⟩
              ·replace c54 := Bool.eq_false_iff.mpr c54
               subst c54
               replace H := ifF H
               have H' := Aside0.mk H
               clear H
               have p301 : 0 ≤ (x77_4 : Int) := of_decide_eq_true (Z4)
               have q301 : x77_4 < (l0_4.length : Int) := of_decide_eq_true (Z4)
               obtain ⟨ad301, e301, hx301_0⟩ := Kd.at_string HR0_4.out x77_4 p301 q301
               cases e301
               replace hx301_0 := cB HB.out hx301_0
               replace p301 := eq_true p301
               replace q301 := eq_true q301
               go_wp2_with (first | ((with_reducible refine gate_callee (f := 60) rfl ?_); refine goesL_ (some 83) rfl rfl Try.func60 (Z24) rfl #[.string (rdOf ByteArray.empty l0_4 x77_4)] rfl (Z1) ?_; (with_reducible refine (impl_keyOK.calls (rdOf ByteArray.empty l0_4 x77_4) true _ A49.out).mono ?_); rintro e w' ⟨rfl, ⟨nd, rfl⟩⟩; refine ⟨_, rfl, ?_⟩; obtain ⟨hcz57_0, hcz57_1, hcz57_2, hcz57_3, hcz57_4⟩ := bc5 BK293.out; obtain ⟨hfz57_0, hfz57_1, hfz57_2, hfz57_3, hfz57_4⟩ := bf5 BK293.out; obtain ⟨i058, hi058, _, hsz58, _⟩ := info_parts info9; obtain ⟨hcut58, hA58, hC58⟩ := print_take_of (P := Try.prog) Value.string (⟨#[]⟩ : ByteArray) 40 9 .i64 Try.underlying40 hi058 hsz58 (some ad301) c0_4 l0_4 x77_4 (of_decide_eq_true (Z4)) (of_decide_eq_true (Z4)) HC0_4.out; have HR303 := Aside0.mk (Kd.C_of_reads (h1 := fun _ => rfl) (hA58 _ (Kd.reads_of_C HR0_4.out))); have HC303 := Aside0.mk hC58; clear hA58 hC58 hi058 hsz58) | (go_at_call 61; refine (contains_front k4 _ _ l0_4 _ (rdOf ByteArray.empty l0_4 x77_4) false _ (Kd.C_below HR0_4.out (Z16)) (by have h_ : x77_4 ≤ (l0_4.length : Int) := of_decide_eq_true (Z144); omega) HC0_4.out A53.out).mono ?_; rintro e w' ⟨rfl, ⟨nd, rfl⟩⟩))
               go_roundg k4
               case measure => have := HJ1.out; have := HJ12.out; have := HK3.out; have := HK4.out; omega
               case rel => exact ⟨(wrap64 (x77_4 + 1)), (Z3), H', ⟨by have := HJ1.out; have := HJ12.out; have := HK3.out; have := HK4.out; omega⟩, ⟨Z34⟩, ⟨Z16⟩⟩
             ·replace c50 := Bool.eq_false_iff.mpr c50
              subst c50
              replace H := ifF H
              obtain rfl := Option.some.inj H
              have p301 : 0 ≤ (x77_4 : Int) := of_decide_eq_true (Z4)
              have q301 : x77_4 < (l0_4.length : Int) := of_decide_eq_true (Z4)
              obtain ⟨ad301, e301, hx301_0⟩ := Kd.at_string HR0_4.out x77_4 p301 q301
              cases e301
              replace hx301_0 := cB HB.out hx301_0
              replace p301 := eq_true p301
              replace q301 := eq_true q301
              go_wp2_with (first | ((with_reducible refine gate_callee (f := 60) rfl ?_); refine goesL_ (some 83) rfl rfl Try.func60 (Z24) rfl #[.string (rdOf ByteArray.empty l0_4 x77_4)] rfl (Z1) ?_; (with_reducible refine (impl_keyOK.calls (rdOf ByteArray.empty l0_4 x77_4) false _ A49.out).mono ?_); rintro e w' ⟨rfl, ⟨nd, rfl⟩⟩; refine ⟨_, rfl, ?_⟩))
              go_ret
              exact ⟨Z2, Z16⟩
            ·rw [if_neg c46] at H
             have c46b0 := decide_eq_false c46
             clear c46
             obtain rfl := Option.some.inj H
             go_wp2
             go_ret
             exact ⟨Z2, Z16⟩

end Go.Proofs.Ytbikfhccfenkdaa.PFnExactEngineOK
