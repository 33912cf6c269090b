/- Contracts of the functions that a statement reaches: written for this seat by wip/x/xprint.py over the kit's print, with own contracts for what the print lacks. -/
import Derived.Test.YtnphhnhnmohfiaaDoorPFnExactSayAllx0
import Derived.Test.YtnphhnhnmohfiaaDoorPFnExactSayAllx4
namespace Go.Proofs.YtnphhnhnmohfiaaDoor.PFnExactSayAll
open Go.RowKit Go.Proofs.YtnphhnhnmohfiaaDoorW.PrintWords Go.Proofs.YtnphhnhnmohfiaaDoorW.PrintLast Go.Proofs.YtnphhnhnmohfiaaDoorW.PrintMore
attribute [local go_sem] max2_int min2_int max_two min_two max_three min_three max_four min_four   -- for this text's walks alone
set_option linter.unusedVariables false
set_option linter.unusedSimpArgs false

/-! ### impl_literal: function 183 -/
def impl_literal.f (k : Nat) (a0 : ByteArray) : Option (Int × Bool) := (strings_LastIndexByte.f k a0 123).bind fun t170 => (if t170 < 0 then (some (0, false)) else (if 0 ≤ (wrap64 (t170 + 1)) then (if (wrap64 (t170 + 1)) ≤ (a0.size : Int) then ((strings_CutSuffix.f (a0.extract ((wrap64 (t170 + 1)) : Int).toNat a0.size) (⟨#[125]⟩ : ByteArray)).bind fun bt171 => ((impl_number.f k bt171.1).bind fun bt173 => (if bt171.2 = true then (if bt173.2 = true then (if bt173.1 ≥ 0 then (some (bt173.1, decide ((bt171.1.size : Int) ≤ 6))) else (some (bt173.1, false))) else (some (bt173.1, false))) else (some (bt173.1, false))))) else (none)) else (none)))
theorem impl_literal.mono : ∀ a0 k, LeO (impl_literal.f k a0) (impl_literal.f (k + 1) a0) := by
  intro a0 k
  unfold impl_literal.f
  repeat' first
      | (with_reducible exact impl_number.mono _ _)
      | (with_reducible exact strings_LastIndexByte.mono _ _ _)
      | (with_reducible exact LeO.refl _)
      | (with_reducible exact LeO.none _)
      | (with_reducible refine LeO.ite ?_ ?_)
      | (with_reducible refine LeO.bind ?_ (fun _ => ?_))
      | exact impl_number.mono _ _
      | exact strings_LastIndexByte.mono _ _ _
      | exact LeO.none _
      | refine LeO.ite ?_ ?_
      | refine LeO.bind ?_ (fun _ => ?_)
set_option maxHeartbeats 8000000 in
set_option maxRecDepth 100000 in
theorem impl_literal.calls (k : Nat) (a0 : ByteArray) (r1 : Int) (r2 : Bool) (w : World) (h : impl_literal.f k a0 = some (r1, r2)) :
    Calls Tryd.prog 183 #[.string a0] w fun e w' => e = .returned (.tuple #[.int .i64 r1, .bool r2]) ∧ Below w.heap.size w w' := by
  have HB := Aside0.mk (Below.refl w.heap.size w)
  have H : ((strings_LastIndexByte.f k a0 123).bind fun t170 => (if t170 < 0 then (some (0, false)) else (if 0 ≤ (wrap64 (t170 + 1)) then (if (wrap64 (t170 + 1)) ≤ (a0.size : Int) then ((strings_CutSuffix.f (a0.extract ((wrap64 (t170 + 1)) : Int).toNat a0.size) (⟨#[125]⟩ : ByteArray)).bind fun bt171 => ((impl_number.f k bt171.1).bind fun bt173 => (if bt171.2 = true then (if bt173.2 = true then (if bt173.1 ≥ 0 then (some (bt173.1, decide ((bt171.1.size : Int) ≤ 6))) else (some (bt173.1, false))) else (some (bt173.1, false))) else (some (bt173.1, false))))) else (none)) else (none)))) = some (r1, r2) := h
  clear h
  replace H := Option.bind_eq_some_iff.mp H
  obtain ⟨t170, A20, H⟩ := H
  replace H : (if t170 < 0 then (some (0, false)) else (if 0 ≤ (wrap64 (t170 + 1)) then (if (wrap64 (t170 + 1)) ≤ (a0.size : Int) then ((strings_CutSuffix.f (a0.extract ((wrap64 (t170 + 1)) : Int).toNat a0.size) (⟨#[125]⟩ : ByteArray)).bind fun bt171 => ((impl_number.f k bt171.1).bind fun bt173 => (if bt171.2 = true then (if bt173.2 = true then (if bt173.1 ≥ 0 then (some (bt173.1, decide ((bt171.1.size : Int) ≤ 6))) else (some (bt173.1, false))) else (some (bt173.1, false))) else (some (bt173.1, false))))) else (none)) else (none))) = some (r1, r2) := H
  have A2 := Aside0.mk A20
  clear A20
  by_cases c3 : t170 < 0
  · rw [if_pos c3] at H
    have c3b0 : decide (t170 < 0) = true := decide_eq_true c3
    clear c3
    simp only [Option.some.injEq, Prod.mk.injEq] at H
    obtain ⟨rfl, rfl⟩ := H
    go_enter Tryd.func183, Tryd.ntmps183
    go_wp2_with (first | ((with_reducible refine gate_callee (f := 213) rfl ?_); refine goesL_ (some 10) rfl rfl Tryd.func213 (by kernel_rfl) rfl #[.string a0, .int .u8 123] rfl (by (try simp only [List.map_toArray, List.map_cons, List.map_nil]); first | done | rfl | (simp only [List.length_drop, List.length_take]; rfl)) ?_; (with_reducible refine (strings_LastIndexByte.calls k a0 123 t170 _ A2.out).mono ?_); rintro e w' ⟨rfl, ⟨nd, rfl⟩⟩; refine ⟨_, rfl, ?_⟩))
    go_ret2
    exact ⟨by first | rfl | (simp [errW_none, errW_some] <;> rfl) | (simp [*, errW_none, errW_some] <;> rfl), by repeat (first | (with_reducible first | exact HB.out | apply below_alloc | apply pw_below_drewN | apply below_drew1) | exact HB.out)⟩
  · rw [if_neg c3] at H
    have c3b0 : decide (t170 < 0) = false := decide_eq_false c3
    clear c3
    obtain ⟨ji4, hji4⟩ : ∃ j_ : Int, (wrap64 (t170 + 1)) = j_ := ⟨_, rfl⟩
    replace H : (if 0 ≤ (ji4) then (if (ji4) ≤ (a0.size : Int) then ((strings_CutSuffix.f (a0.extract ((ji4) : Int).toNat a0.size) (⟨#[125]⟩ : ByteArray)).bind fun bt171 => ((impl_number.f k bt171.1).bind fun bt173 => (if bt171.2 = true then (if bt173.2 = true then (if bt173.1 ≥ 0 then (some (bt173.1, decide ((bt171.1.size : Int) ≤ 6))) else (some (bt173.1, false))) else (some (bt173.1, false))) else (some (bt173.1, false))))) else (none)) else (none)) = some (r1, r2) := by first | (rw [hji4] at H; exact H) | (simp only [hji4] at H ⊢; exact H)
    (try rw [hji4] at A2)
    have hji4w : (IntKind.i64.wrap (t170 + 1)) = ji4 := (i64_w _).trans hji4
    by_cases c5 : 0 ≤ (ji4)
    · rw [if_pos c5] at H
      have c5b0 := eq_true c5
      have c5b1 : decide (0 ≤ (ji4)) = true := decide_eq_true c5
      clear c5
      by_cases c6 : (ji4) ≤ (a0.size : Int)
      · rw [if_pos c6] at H
        have c6b0 := eq_true c6
        have c6b1 : decide ((ji4) ≤ (a0.size : Int)) = true := decide_eq_true c6
        clear c6
        replace H := Option.bind_eq_some_iff.mp H
        obtain ⟨⟨t171, t172⟩, A70, H⟩ := H
        replace H : ((impl_number.f k t171).bind fun bt173 => (if t172 = true then (if bt173.2 = true then (if bt173.1 ≥ 0 then (some (bt173.1, decide ((t171.size : Int) ≤ 6))) else (some (bt173.1, false))) else (some (bt173.1, false))) else (some (bt173.1, false)))) = some (r1, r2) := H
        have A7 := Aside0.mk A70
        clear A70
        replace H := Option.bind_eq_some_iff.mp H
        obtain ⟨⟨t173, t174⟩, A80, H⟩ := H
        replace H : (if t172 = true then (if t174 = true then (if t173 ≥ 0 then (some (t173, decide ((t171.size : Int) ≤ 6))) else (some (t173, false))) else (some (t173, false))) else (some (t173, false))) = some (r1, r2) := H
        have A8 := Aside0.mk A80
        clear A80
        by_cases c9 : t172 = true
        · subst c9
          have H1 : (if t174 = true then (if t173 ≥ 0 then (some (t173, decide ((t171.size : Int) ≤ 6))) else (some (t173, false))) else (some (t173, false))) = some (r1, r2) := by rw [if_pos rfl] at H; exact H
          clear H
          have H := H1
          clear H1
          by_cases c10 : t174 = true
          · subst c10
            have H1 : (if t173 ≥ 0 then (some (t173, decide ((t171.size : Int) ≤ 6))) else (some (t173, false))) = some (r1, r2) := by rw [if_pos rfl] at H; exact H
            clear H
            have H := H1
            clear H1
            by_cases c11 : t173 ≥ 0
            · rw [if_pos c11] at H
              have c11b0 : decide (0 ≤ t173) = true := decide_eq_true c11
              clear c11
              simp only [Option.some.injEq, Prod.mk.injEq] at H
              obtain ⟨rfl, rfl⟩ := H
              go_enter Tryd.func183, Tryd.ntmps183
              go_wp2_with (first | ((with_reducible refine gate_callee (f := 213) rfl ?_); refine goesL_ (some 10) rfl rfl Tryd.func213 (by kernel_rfl) rfl #[.string a0, .int .u8 123] rfl (by (try simp only [List.map_toArray, List.map_cons, List.map_nil]); first | done | rfl | (simp only [List.length_drop, List.length_take]; rfl)) ?_; (with_reducible refine (strings_LastIndexByte.calls k a0 123 t170 _ A2.out).mono ?_); rintro e w' ⟨rfl, ⟨nd, rfl⟩⟩; refine ⟨_, rfl, ?_⟩) | ((with_reducible refine gate_callee (f := 144) rfl ?_); refine goesL_ (some 18) rfl rfl Tryd.func144 (by kernel_rfl) rfl #[.string (a0.extract ((ji4) : Int).toNat a0.size), .string (⟨#[125]⟩ : ByteArray)] rfl (by (try simp only [List.map_toArray, List.map_cons, List.map_nil]); first | done | (simp only [hji4]; rfl) | rfl | (simp only [List.length_drop, List.length_take]; rfl)) ?_; (with_reducible refine (strings_CutSuffix.calls (a0.extract ((ji4) : Int).toNat a0.size) (⟨#[125]⟩ : ByteArray) t171 true _ A7.out).mono ?_); rintro e w' ⟨rfl, ⟨nd, rfl⟩⟩; refine ⟨_, rfl, ?_⟩) | ((with_reducible refine gate_callee (f := 159) rfl ?_); refine goesL_ (some 23) rfl rfl Tryd.func159 (by kernel_rfl) rfl #[.string t171] rfl (by (try simp only [List.map_toArray, List.map_cons, List.map_nil]); first | done | rfl | (simp only [List.length_drop, List.length_take]; rfl)) ?_; (with_reducible refine (impl_number.calls k t171 t173 true _ A8.out).mono ?_); rintro e w12 ⟨rfl, hb⟩; refine ⟨_, rfl, ?_⟩; have n0_ := Aside0.mk (below_step (by repeat (first | (with_reducible first | exact HB.out | apply below_alloc | apply pw_below_drewN | apply below_drew1) | exact HB.out)) hb); clear HB; have HB := n0_; clear n0_; (try clear hb); (try clear hb2); (try clear hk); (try clear hi)))
              go_ret2
              exact ⟨by first | rfl | (simp [errW_none, errW_some] <;> rfl) | (simp only [← hji4]; first | rfl | (simp [errW_none, errW_some] <;> rfl)) | (simp [*, errW_none, errW_some] <;> rfl), by repeat (first | (with_reducible first | exact HB.out | apply below_alloc | apply pw_below_drewN | apply below_drew1) | exact HB.out)⟩
            · rw [if_neg c11] at H
              have c11b0 : decide (0 ≤ t173) = false := decide_eq_false c11
              clear c11
              simp only [Option.some.injEq, Prod.mk.injEq] at H
              obtain ⟨rfl, rfl⟩ := H
              go_enter Tryd.func183, Tryd.ntmps183
              go_wp2_with (first | ((with_reducible refine gate_callee (f := 213) rfl ?_); refine goesL_ (some 10) rfl rfl Tryd.func213 (by kernel_rfl) rfl #[.string a0, .int .u8 123] rfl (by (try simp only [List.map_toArray, List.map_cons, List.map_nil]); first | done | rfl | (simp only [List.length_drop, List.length_take]; rfl)) ?_; (with_reducible refine (strings_LastIndexByte.calls k a0 123 t170 _ A2.out).mono ?_); rintro e w' ⟨rfl, ⟨nd, rfl⟩⟩; refine ⟨_, rfl, ?_⟩) | ((with_reducible refine gate_callee (f := 144) rfl ?_); refine goesL_ (some 18) rfl rfl Tryd.func144 (by kernel_rfl) rfl #[.string (a0.extract ((ji4) : Int).toNat a0.size), .string (⟨#[125]⟩ : ByteArray)] rfl (by (try simp only [List.map_toArray, List.map_cons, List.map_nil]); first | done | (simp only [hji4]; rfl) | rfl | (simp only [List.length_drop, List.length_take]; rfl)) ?_; (with_reducible refine (strings_CutSuffix.calls (a0.extract ((ji4) : Int).toNat a0.size) (⟨#[125]⟩ : ByteArray) t171 true _ A7.out).mono ?_); rintro e w' ⟨rfl, ⟨nd, rfl⟩⟩; refine ⟨_, rfl, ?_⟩) | ((with_reducible refine gate_callee (f := 159) rfl ?_); refine goesL_ (some 23) rfl rfl Tryd.func159 (by kernel_rfl) rfl #[.string t171] rfl (by (try simp only [List.map_toArray, List.map_cons, List.map_nil]); first | done | rfl | (simp only [List.length_drop, List.length_take]; rfl)) ?_; (with_reducible refine (impl_number.calls k t171 t173 true _ A8.out).mono ?_); rintro e w13 ⟨rfl, hb⟩; refine ⟨_, rfl, ?_⟩; have n0_ := Aside0.mk (below_step (by repeat (first | (with_reducible first | exact HB.out | apply below_alloc | apply pw_below_drewN | apply below_drew1) | exact HB.out)) hb); clear HB; have HB := n0_; clear n0_; (try clear hb); (try clear hb2); (try clear hk); (try clear hi)))
              go_ret2
              exact ⟨by first | rfl | (simp [errW_none, errW_some] <;> rfl) | (simp only [← hji4]; first | rfl | (simp [errW_none, errW_some] <;> rfl)) | (simp [*, errW_none, errW_some] <;> rfl), by repeat (first | (with_reducible first | exact HB.out | apply below_alloc | apply pw_below_drewN | apply below_drew1) | exact HB.out)⟩
          · replace c10 := Bool.eq_false_iff.mpr c10
            subst c10
            have H1 : (some (t173, false)) = some (r1, r2) := by rw [if_neg (show ¬ (false = true) by decide)] at H; exact H
            clear H
            have H := H1
            clear H1
            simp only [Option.some.injEq, Prod.mk.injEq] at H
            obtain ⟨rfl, rfl⟩ := H
            go_enter Tryd.func183, Tryd.ntmps183
            go_wp2_with (first | ((with_reducible refine gate_callee (f := 213) rfl ?_); refine goesL_ (some 10) rfl rfl Tryd.func213 (by kernel_rfl) rfl #[.string a0, .int .u8 123] rfl (by (try simp only [List.map_toArray, List.map_cons, List.map_nil]); first | done | rfl | (simp only [List.length_drop, List.length_take]; rfl)) ?_; (with_reducible refine (strings_LastIndexByte.calls k a0 123 t170 _ A2.out).mono ?_); rintro e w' ⟨rfl, ⟨nd, rfl⟩⟩; refine ⟨_, rfl, ?_⟩) | ((with_reducible refine gate_callee (f := 144) rfl ?_); refine goesL_ (some 18) rfl rfl Tryd.func144 (by kernel_rfl) rfl #[.string (a0.extract ((ji4) : Int).toNat a0.size), .string (⟨#[125]⟩ : ByteArray)] rfl (by (try simp only [List.map_toArray, List.map_cons, List.map_nil]); first | done | (simp only [hji4]; rfl) | rfl | (simp only [List.length_drop, List.length_take]; rfl)) ?_; (with_reducible refine (strings_CutSuffix.calls (a0.extract ((ji4) : Int).toNat a0.size) (⟨#[125]⟩ : ByteArray) t171 true _ A7.out).mono ?_); rintro e w' ⟨rfl, ⟨nd, rfl⟩⟩; refine ⟨_, rfl, ?_⟩) | ((with_reducible refine gate_callee (f := 159) rfl ?_); refine goesL_ (some 23) rfl rfl Tryd.func159 (by kernel_rfl) rfl #[.string t171] rfl (by (try simp only [List.map_toArray, List.map_cons, List.map_nil]); first | done | rfl | (simp only [List.length_drop, List.length_take]; rfl)) ?_; (with_reducible refine (impl_number.calls k t171 t173 false _ A8.out).mono ?_); rintro e w14 ⟨rfl, hb⟩; refine ⟨_, rfl, ?_⟩; have n0_ := Aside0.mk (below_step (by repeat (first | (with_reducible first | exact HB.out | apply below_alloc | apply pw_below_drewN | apply below_drew1) | exact HB.out)) hb); clear HB; have HB := n0_; clear n0_; (try clear hb); (try clear hb2); (try clear hk); (try clear hi)))
            go_ret2
            exact ⟨by first | rfl | (simp [errW_none, errW_some] <;> rfl) | (simp only [← hji4]; first | rfl | (simp [errW_none, errW_some] <;> rfl)) | (simp [*, errW_none, errW_some] <;> rfl), by repeat (first | (with_reducible first | exact HB.out | apply below_alloc | apply pw_below_drewN | apply below_drew1) | exact HB.out)⟩
        · replace c9 := Bool.eq_false_iff.mpr c9
          subst c9
          have H1 : (some (t173, false)) = some (r1, r2) := by rw [if_neg (show ¬ (false = true) by decide)] at H; exact H
          clear H
          have H := H1
          clear H1
          simp only [Option.some.injEq, Prod.mk.injEq] at H
          obtain ⟨rfl, rfl⟩ := H
          go_enter Tryd.func183, Tryd.ntmps183
          go_wp2_with (first | ((with_reducible refine gate_callee (f := 213) rfl ?_); refine goesL_ (some 10) rfl rfl Tryd.func213 (by kernel_rfl) rfl #[.string a0, .int .u8 123] rfl (by (try simp only [List.map_toArray, List.map_cons, List.map_nil]); first | done | rfl | (simp only [List.length_drop, List.length_take]; rfl)) ?_; (with_reducible refine (strings_LastIndexByte.calls k a0 123 t170 _ A2.out).mono ?_); rintro e w' ⟨rfl, ⟨nd, rfl⟩⟩; refine ⟨_, rfl, ?_⟩) | ((with_reducible refine gate_callee (f := 144) rfl ?_); refine goesL_ (some 18) rfl rfl Tryd.func144 (by kernel_rfl) rfl #[.string (a0.extract ((ji4) : Int).toNat a0.size), .string (⟨#[125]⟩ : ByteArray)] rfl (by (try simp only [List.map_toArray, List.map_cons, List.map_nil]); first | done | (simp only [hji4]; rfl) | rfl | (simp only [List.length_drop, List.length_take]; rfl)) ?_; (with_reducible refine (strings_CutSuffix.calls (a0.extract ((ji4) : Int).toNat a0.size) (⟨#[125]⟩ : ByteArray) t171 false _ A7.out).mono ?_); rintro e w' ⟨rfl, ⟨nd, rfl⟩⟩; refine ⟨_, rfl, ?_⟩) | ((with_reducible refine gate_callee (f := 159) rfl ?_); refine goesL_ (some 23) rfl rfl Tryd.func159 (by kernel_rfl) rfl #[.string t171] rfl (by (try simp only [List.map_toArray, List.map_cons, List.map_nil]); first | done | rfl | (simp only [List.length_drop, List.length_take]; rfl)) ?_; (with_reducible refine (impl_number.calls k t171 t173 t174 _ A8.out).mono ?_); rintro e w15 ⟨rfl, hb⟩; refine ⟨_, rfl, ?_⟩; have n0_ := Aside0.mk (below_step (by repeat (first | (with_reducible first | exact HB.out | apply below_alloc | apply pw_below_drewN | apply below_drew1) | exact HB.out)) hb); clear HB; have HB := n0_; clear n0_; (try clear hb); (try clear hb2); (try clear hk); (try clear hi)))
          go_ret2
          exact ⟨by first | rfl | (simp [errW_none, errW_some] <;> rfl) | (simp only [← hji4]; first | rfl | (simp [errW_none, errW_some] <;> rfl)) | (simp [*, errW_none, errW_some] <;> rfl), by repeat (first | (with_reducible first | exact HB.out | apply below_alloc | apply pw_below_drewN | apply below_drew1) | exact HB.out)⟩
      · rw [if_neg c6] at H
        exact absurd H (by simp)
    · rw [if_neg c5] at H
      exact absurd H (by simp)

/-! ### impl_takeCommand: function 148 -/
mutual
def impl_takeCommand.l0 : Nat → ByteArray → Int → Option (Int × Int)
  | 0, _, _ => none
  | k + 1, x0, x4 => if 0 ≤ x4 then (if x4 ≤ (x0.size : Int) then ((strings_Index.f (x0.extract (x4 : Int).toNat x0.size) (⟨#[13, 10]⟩ : ByteArray)).bind fun t175 => (if t175 < 0 then (if (x0.size : Int) > 4002 then (some (0, 4)) else (some (0, 18))) else (if (wrap64 (x4 + t175)) > 4000 then (some (0, 4)) else (if x4 ≤ (wrap64 (x4 + t175)) then (if (wrap64 (x4 + t175)) ≤ (x0.size : Int) then ((impl_literal.f k (x0.extract (x4 : Int).toNat ((wrap64 (x4 + t175)) : Int).toNat)).bind fun bt176 => (if bt176.2 = true then (if bt176.1 > 4000 then (impl_takeCommand.j1 k x0 (wrap64 ((wrap64 ((wrap64 (x4 + t175)) + 2)) + bt176.1)) true) else (impl_takeCommand.j1 k x0 (wrap64 ((wrap64 ((wrap64 (x4 + t175)) + 2)) + bt176.1)) (decide ((wrap64 ((wrap64 ((wrap64 (x4 + t175)) + 2)) + bt176.1)) > 4000)))) else (some (wrap64 (x4 + t175), 0)))) else (none)) else (none))))) else (none)) else (none)
def impl_takeCommand.j1 : Nat → ByteArray → Int → Bool → Option (Int × Int)
  | 0, _, _, _ => none
  | k + 1, x0, x4, x43 => if x43 = true then (some (0, 4)) else (if x4 > (x0.size : Int) then (some (0, 18)) else (impl_takeCommand.l0 k x0 x4))
end
def impl_takeCommand.f (k : Nat) (a0 : ByteArray) : Option (Int × Int) := impl_takeCommand.l0 k a0 0
theorem impl_takeCommand.mono_l : ∀ k, (∀ y0 y1, LeO (impl_takeCommand.l0 k y0 y1) (impl_takeCommand.l0 (k + 1) y0 y1)) ∧ (∀ y0 y1 y2, LeO (impl_takeCommand.j1 k y0 y1 y2) (impl_takeCommand.j1 (k + 1) y0 y1 y2))
  | 0 => ⟨fun _ _ r h => by simp [impl_takeCommand.l0] at h, fun _ _ _ r h => by simp [impl_takeCommand.j1] at h⟩
  | k + 1 => by
    obtain ⟨ih0, ih1⟩ := impl_takeCommand.mono_l k
    refine ⟨?_, ?_⟩
    · intro y0 y1
      unfold impl_takeCommand.l0
      repeat' first
      | (with_reducible exact ih0 _ _)
      | (with_reducible exact ih1 _ _ _)
      | (with_reducible exact impl_literal.mono _ _)
      | (with_reducible exact LeO.refl _)
      | (with_reducible exact LeO.none _)
      | (with_reducible refine LeO.ite ?_ ?_)
      | (with_reducible refine LeO.bind ?_ (fun _ => ?_))
      | exact ih0 _ _
      | exact ih1 _ _ _
      | exact impl_literal.mono _ _
      | exact LeO.none _
      | refine LeO.ite ?_ ?_
      | refine LeO.bind ?_ (fun _ => ?_)
    · intro y0 y1 y2
      unfold impl_takeCommand.j1
      repeat' first
      | (with_reducible exact ih0 _ _)
      | (with_reducible exact ih1 _ _ _)
      | (with_reducible exact impl_literal.mono _ _)
      | (with_reducible exact LeO.refl _)
      | (with_reducible exact LeO.none _)
      | (with_reducible refine LeO.ite ?_ ?_)
      | (with_reducible refine LeO.bind ?_ (fun _ => ?_))
      | exact ih0 _ _
      | exact ih1 _ _ _
      | exact impl_literal.mono _ _
      | exact LeO.none _
      | refine LeO.ite ?_ ?_
      | refine LeO.bind ?_ (fun _ => ?_)
theorem impl_takeCommand.mono : ∀ a0 k, LeO (impl_takeCommand.f k a0) (impl_takeCommand.f (k + 1) a0) := by
  intro a0 k
  obtain ⟨ih0, ih1⟩ := impl_takeCommand.mono_l k
  unfold impl_takeCommand.f
  repeat' first
      | (with_reducible exact ih0 _ _)
      | (with_reducible exact ih1 _ _ _)
      | (with_reducible exact impl_literal.mono _ _)
      | (with_reducible exact LeO.refl _)
      | (with_reducible exact LeO.none _)
      | (with_reducible refine LeO.ite ?_ ?_)
      | (with_reducible refine LeO.bind ?_ (fun _ => ?_))
      | exact ih0 _ _
      | exact ih1 _ _ _
      | exact impl_literal.mono _ _
      | exact LeO.none _
      | refine LeO.ite ?_ ?_
      | refine LeO.bind ?_ (fun _ => ?_)
set_option maxHeartbeats 8000000 in
set_option maxRecDepth 100000 in
theorem impl_takeCommand.calls (k : Nat) (a0 : ByteArray) (r1 : Int) (r2 : Int) (w : World) (HG : Aside0 (Glob w)) (h : impl_takeCommand.f k a0 = some (r1, r2)) :
    Calls Tryd.prog 148 #[.string a0] w fun e w' => e = .returned (.tuple #[.int .i64 r1, .int .i64 r2]) ∧ Below w.heap.size w w' := by
  have HB := Aside0.mk (Below.refl w.heap.size w)
  have H : (impl_takeCommand.l0 k a0 0) = some (r1, r2) := h
  clear h
  have H' := Aside0.mk H
  clear H
  go_enter Tryd.func148, Tryd.ntmps148
  go_wp2
  go_loopg [4] k (fun kq v4 w' => ∃ (x4_1 : Int), v4 = .int .i64 x4_1 ∧ Aside0 (impl_takeCommand.l0 kq a0 x4_1 = some (r1, r2)) ∧ Aside0 (kq ≤ k) ∧ Aside0 (Below w.heap.size w w'))
  case atStart => exact ⟨(0), (by first | rfl | (simp; done) | (simp [*]; done)), H', ⟨Nat.le_refl _⟩, ⟨by repeat (first | (with_reducible first | exact HB.out | apply below_alloc | apply pw_below_drewN | apply below_drew1) | exact HB.out)⟩⟩
  case round =>
    clear H'
    try clear c1
    obtain ⟨x4_1, rfl, HA, HK1, HB⟩ := hrel
    cases gk with
    | zero => exact absurd HA.out (by simp [impl_takeCommand.l0])
    | succ k1 =>
      have H := HA.out
      clear HA
      simp only [impl_takeCommand.l0] at H
      by_cases c2 : 0 ≤ x4_1
      · rw [if_pos c2] at H
        have c2b0 := eq_true c2
        have c2b1 : decide (0 ≤ x4_1) = true := decide_eq_true c2
        clear c2
        by_cases c3 : x4_1 ≤ (a0.size : Int)
        · rw [if_pos c3] at H
          have c3b0 := eq_true c3
          have c3b1 : decide (x4_1 ≤ (a0.size : Int)) = true := decide_eq_true c3
          clear c3
          replace H := Option.bind_eq_some_iff.mp H
          obtain ⟨t175, A40, H⟩ := H
          replace H : (if t175 < 0 then (if (a0.size : Int) > 4002 then (some (0, 4)) else (some (0, 18))) else (if (wrap64 (x4_1 + t175)) > 4000 then (some (0, 4)) else (if x4_1 ≤ (wrap64 (x4_1 + t175)) then (if (wrap64 (x4_1 + t175)) ≤ (a0.size : Int) then ((impl_literal.f k1 (a0.extract (x4_1 : Int).toNat ((wrap64 (x4_1 + t175)) : Int).toNat)).bind fun bt176 => (if bt176.2 = true then (if bt176.1 > 4000 then (impl_takeCommand.j1 k1 a0 (wrap64 ((wrap64 ((wrap64 (x4_1 + t175)) + 2)) + bt176.1)) true) else (impl_takeCommand.j1 k1 a0 (wrap64 ((wrap64 ((wrap64 (x4_1 + t175)) + 2)) + bt176.1)) (decide ((wrap64 ((wrap64 ((wrap64 (x4_1 + t175)) + 2)) + bt176.1)) > 4000)))) else (some (wrap64 (x4_1 + t175), 0)))) else (none)) else (none)))) = some (r1, r2) := H
          have A4 := Aside0.mk A40
          clear A40
          by_cases c5 : t175 < 0
          · rw [if_pos c5] at H
            have c5b0 : decide (t175 < 0) = true := decide_eq_true c5
            clear c5
            by_cases c6 : (a0.size : Int) > 4002
            · rw [if_pos c6] at H
              have c6b0 : decide (4002 < (a0.size : Int)) = true := decide_eq_true c6
              have c6b1 : decide (4002 < a0.size) = true := decide_eq_true (by omega)
              clear c6
              simp only [Option.some.injEq, Prod.mk.injEq] at H
              obtain ⟨rfl, rfl⟩ := H
              go_wp2_with (first | ((with_reducible refine gate_callee (f := 99) rfl ?_); refine goesL_ (some 12) rfl rfl Tryd.func99 (by kernel_rfl) rfl #[.string (a0.extract (x4_1 : Int).toNat a0.size), .string (⟨#[13, 10]⟩ : ByteArray)] rfl (by (try simp only [List.map_toArray, List.map_cons, List.map_nil]); first | done | rfl | (simp only [List.length_drop, List.length_take]; rfl)) ?_; (with_reducible refine (strings_Index.calls (a0.extract (x4_1 : Int).toNat a0.size) (⟨#[13, 10]⟩ : ByteArray) t175 _ ?side1 A4.out).mono ?_); (case side1 => first | exact HG | exact ⟨HG.out.of rfl⟩ | (refine ⟨HG.out.on ?_⟩; (repeat (first | (with_reducible first | exact HB.out | apply below_alloc | apply pw_below_drewN | apply below_drew1) | exact HB.out)); done) | exact ⟨HG.out.on HBW.out⟩); rintro e w' ⟨rfl, ⟨nd, rfl⟩⟩; refine ⟨_, rfl, ?_⟩))
              go_ret2
              exact ⟨by first | rfl | (simp [errW_none, errW_some] <;> rfl) | (simp [*, errW_none, errW_some] <;> rfl), by repeat (first | (with_reducible first | exact HB.out | apply below_alloc | apply pw_below_drewN | apply below_drew1) | exact HB.out)⟩
            · rw [if_neg c6] at H
              have c6b0 : decide (4002 < (a0.size : Int)) = false := decide_eq_false c6
              have c6b1 : decide (4002 < a0.size) = false := decide_eq_false (by omega)
              clear c6
              simp only [Option.some.injEq, Prod.mk.injEq] at H
              obtain ⟨rfl, rfl⟩ := H
              go_wp2_with (first | ((with_reducible refine gate_callee (f := 99) rfl ?_); refine goesL_ (some 12) rfl rfl Tryd.func99 (by kernel_rfl) rfl #[.string (a0.extract (x4_1 : Int).toNat a0.size), .string (⟨#[13, 10]⟩ : ByteArray)] rfl (by (try simp only [List.map_toArray, List.map_cons, List.map_nil]); first | done | rfl | (simp only [List.length_drop, List.length_take]; rfl)) ?_; (with_reducible refine (strings_Index.calls (a0.extract (x4_1 : Int).toNat a0.size) (⟨#[13, 10]⟩ : ByteArray) t175 _ ?side1 A4.out).mono ?_); (case side1 => first | exact HG | exact ⟨HG.out.of rfl⟩ | (refine ⟨HG.out.on ?_⟩; (repeat (first | (with_reducible first | exact HB.out | apply below_alloc | apply pw_below_drewN | apply below_drew1) | exact HB.out)); done) | exact ⟨HG.out.on HBW.out⟩); rintro e w' ⟨rfl, ⟨nd, rfl⟩⟩; refine ⟨_, rfl, ?_⟩))
              go_ret2
              exact ⟨by first | rfl | (simp [errW_none, errW_some] <;> rfl) | (simp [*, errW_none, errW_some] <;> rfl), by repeat (first | (with_reducible first | exact HB.out | apply below_alloc | apply pw_below_drewN | apply below_drew1) | exact HB.out)⟩
          · rw [if_neg c5] at H
            have c5b0 : decide (t175 < 0) = false := decide_eq_false c5
            clear c5
            by_cases c7 : (wrap64 (x4_1 + t175)) > 4000
            · rw [if_pos c7] at H
              have c7b0 : decide (4000 < (wrap64 (x4_1 + t175))) = true := decide_eq_true c7
              clear c7
              simp only [Option.some.injEq, Prod.mk.injEq] at H
              obtain ⟨rfl, rfl⟩ := H
              go_wp2_with (first | ((with_reducible refine gate_callee (f := 99) rfl ?_); refine goesL_ (some 12) rfl rfl Tryd.func99 (by kernel_rfl) rfl #[.string (a0.extract (x4_1 : Int).toNat a0.size), .string (⟨#[13, 10]⟩ : ByteArray)] rfl (by (try simp only [List.map_toArray, List.map_cons, List.map_nil]); first | done | rfl | (simp only [List.length_drop, List.length_take]; rfl)) ?_; (with_reducible refine (strings_Index.calls (a0.extract (x4_1 : Int).toNat a0.size) (⟨#[13, 10]⟩ : ByteArray) t175 _ ?side1 A4.out).mono ?_); (case side1 => first | exact HG | exact ⟨HG.out.of rfl⟩ | (refine ⟨HG.out.on ?_⟩; (repeat (first | (with_reducible first | exact HB.out | apply below_alloc | apply pw_below_drewN | apply below_drew1) | exact HB.out)); done) | exact ⟨HG.out.on HBW.out⟩); rintro e w' ⟨rfl, ⟨nd, rfl⟩⟩; refine ⟨_, rfl, ?_⟩))
              go_ret2
              exact ⟨by first | rfl | (simp [errW_none, errW_some] <;> rfl) | (simp [*, errW_none, errW_some] <;> rfl), by repeat (first | (with_reducible first | exact HB.out | apply below_alloc | apply pw_below_drewN | apply below_drew1) | exact HB.out)⟩
            · rw [if_neg c7] at H
              have c7b0 : decide (4000 < (wrap64 (x4_1 + t175))) = false := decide_eq_false c7
              clear c7
              have c8b0 := eq_true (of_decide_eq_true (by first | (with_reducible assumption) | assumption) : 0 ≤ x4_1)
              by_cases c9 : x4_1 ≤ (wrap64 (x4_1 + t175))
              · rw [if_pos c9] at H
                have c9b0 := eq_true c9
                have c9b1 : decide (x4_1 ≤ (wrap64 (x4_1 + t175))) = true := decide_eq_true c9
                by_cases c10 : (wrap64 (x4_1 + t175)) ≤ (a0.size : Int)
                · rw [if_pos c10] at H
                  have c10b0 := eq_true c10
                  have c10b1 : decide ((wrap64 (x4_1 + t175)) ≤ (a0.size : Int)) = true := decide_eq_true c10
                  replace H := Option.bind_eq_some_iff.mp H
                  obtain ⟨⟨t176, t177⟩, A110, H⟩ := H
                  replace H : (if t177 = true then (if t176 > 4000 then (impl_takeCommand.j1 k1 a0 (wrap64 ((wrap64 ((wrap64 (x4_1 + t175)) + 2)) + t176)) true) else (impl_takeCommand.j1 k1 a0 (wrap64 ((wrap64 ((wrap64 (x4_1 + t175)) + 2)) + t176)) (decide ((wrap64 ((wrap64 ((wrap64 (x4_1 + t175)) + 2)) + t176)) > 4000)))) else (some (wrap64 (x4_1 + t175), 0))) = some (r1, r2) := H
                  have A11 := Aside0.mk A110
                  clear A110
                  by_cases c12 : t177 = true
                  · subst c12
                    have H1 : (if t176 > 4000 then (impl_takeCommand.j1 k1 a0 (wrap64 ((wrap64 ((wrap64 (x4_1 + t175)) + 2)) + t176)) true) else (impl_takeCommand.j1 k1 a0 (wrap64 ((wrap64 ((wrap64 (x4_1 + t175)) + 2)) + t176)) (decide ((wrap64 ((wrap64 ((wrap64 (x4_1 + t175)) + 2)) + t176)) > 4000)))) = some (r1, r2) := by rw [if_pos rfl] at H; exact H
                    clear H
                    have H := H1
                    clear H1
                    have HC13 := Aside0.mk H
                    clear H
                    go_upto_region 14 with (first | ((with_reducible refine gate_callee (f := 99) rfl ?_); refine goesL_ (some 12) rfl rfl Tryd.func99 (by kernel_rfl) rfl #[.string (a0.extract (x4_1 : Int).toNat a0.size), .string (⟨#[13, 10]⟩ : ByteArray)] rfl (by (try simp only [List.map_toArray, List.map_cons, List.map_nil]); first | done | rfl | (simp only [List.length_drop, List.length_take]; rfl)) ?_; (with_reducible refine (strings_Index.calls (a0.extract (x4_1 : Int).toNat a0.size) (⟨#[13, 10]⟩ : ByteArray) t175 _ ?side1 A4.out).mono ?_); (case side1 => first | exact HG | exact ⟨HG.out.of rfl⟩ | (refine ⟨HG.out.on ?_⟩; (repeat (first | (with_reducible first | exact HB.out | apply below_alloc | apply pw_below_drewN | apply below_drew1) | exact HB.out)); done) | exact ⟨HG.out.on HBW.out⟩); rintro e w' ⟨rfl, ⟨nd, rfl⟩⟩; refine ⟨_, rfl, ?_⟩) | ((with_reducible refine gate_callee (f := 183) rfl ?_); refine goesL_ (some 28) rfl rfl Tryd.func183 (by kernel_rfl) rfl #[.string (a0.extract (x4_1 : Int).toNat ((wrap64 (x4_1 + t175)) : Int).toNat)] rfl (by (try simp only [List.map_toArray, List.map_cons, List.map_nil]); first | done | rfl | (simp only [List.length_drop, List.length_take]; rfl)) ?_; (with_reducible refine (impl_literal.calls k1 (a0.extract (x4_1 : Int).toNat ((wrap64 (x4_1 + t175)) : Int).toNat) t176 true _ A11.out).mono ?_); rintro e w14 ⟨rfl, hb⟩; refine ⟨_, rfl, ?_⟩; have n0_ := Aside0.mk (below_step (by repeat (first | (with_reducible first | exact HB.out | apply below_alloc | apply pw_below_drewN | apply below_drew1) | exact HB.out)) hb); clear HB; have HB := n0_; clear n0_; (try clear hb); (try clear hb2); (try clear hk); (try clear hi)))
                    (try simp only [Act.put, List.setIfInBounds_toArray, List.set_cons_zero, List.set_cons_succ])
                    go_cut [43] (fun v43 wc => ∃ (kq : Nat) (x43_12 : Bool), v43 = .bool x43_12 ∧ Aside0 (impl_takeCommand.j1 kq a0 (wrap64 ((wrap64 ((wrap64 (x4_1 + t175)) + 2)) + t176)) x43_12 = some (r1, r2)) ∧ Aside0 (kq ≤ k1) ∧ Aside0 (Below w.heap.size w wc))
                    case first =>
                      have H := HC13.out
                      clear HC13
                      by_cases c15 : t176 > 4000
                      · rw [if_pos c15] at H
                        have c15b0 : decide (4000 < t176) = true := decide_eq_true c15
                        clear c15
                        (first | rw [c15b0] | (simp only [i64_w, i32_w]; rw [c15b0]) | skip)
                        have H' := Aside0.mk H
                        clear H
                        go_wp2
                        go_meet
                        case rel => exact ⟨_, (true), (by first | rfl | (simp; done) | (simp [*]; done)), H', ⟨by have := HK1.out; first | omega | exact Nat.le_refl _⟩, ⟨by repeat (first | (with_reducible first | exact HB.out | apply below_alloc | apply pw_below_drewN | apply below_drew1) | exact HB.out)⟩⟩
                      · rw [if_neg c15] at H
                        have c15b0 : decide (4000 < t176) = false := decide_eq_false c15
                        clear c15
                        (first | rw [c15b0] | (simp only [i64_w, i32_w]; rw [c15b0]) | skip)
                        have H' := Aside0.mk H
                        clear H
                        go_wp2
                        go_meet
                        case rel => exact ⟨_, (decide ((wrap64 ((wrap64 ((wrap64 (x4_1 + t175)) + 2)) + t176)) > 4000)), (by first | rfl | (simp; done) | (simp [*]; done)), H', ⟨by have := HK1.out; first | omega | exact Nat.le_refl _⟩, ⟨by repeat (first | (with_reducible first | exact HB.out | apply below_alloc | apply pw_below_drewN | apply below_drew1) | exact HB.out)⟩⟩
                    case rest =>
                      clear HC13
                      try clear c1
                      try clear c2
                      try clear c2b0
                      try clear c2b1
                      try clear p2
                      try clear c3
                      try clear c3b0
                      try clear c3b1
                      try clear c5
                      try clear c5b0
                      try clear c6
                      try clear c6b0
                      try clear c6b1
                      try clear p6
                      try clear c7
                      try clear c7b0
                      try clear c8
                      try clear c8b0
                      try clear c9
                      try clear c9b0
                      try clear c9b1
                      try clear c10
                      try clear c10b0
                      try clear c10b1
                      try clear c12
                      try clear c14
                      try clear c15
                      try clear c15b0
                      obtain ⟨kq, x43_12, rfl, HA, HJ12, HB⟩ := hcut
                      cases kq with
                      | zero => exact absurd HA.out (by simp [impl_takeCommand.j1])
                      | succ kj12 =>
                        have H := HA.out
                        clear HA
                        simp only [impl_takeCommand.j1] at H
                        by_cases c16 : x43_12 = true
                        · subst c16
                          have H1 : (some (0, 4)) = some (r1, r2) := by rw [if_pos rfl] at H; exact H
                          clear H
                          have H := H1
                          clear H1
                          simp only [Option.some.injEq, Prod.mk.injEq] at H
                          obtain ⟨rfl, rfl⟩ := H
                          go_wp2
                          go_ret2
                          exact ⟨by first | rfl | (simp [errW_none, errW_some] <;> rfl) | (simp [*, errW_none, errW_some] <;> rfl), by repeat (first | (with_reducible first | exact HB.out | apply below_alloc | apply pw_below_drewN | apply below_drew1) | exact HB.out)⟩
                        · replace c16 := Bool.eq_false_iff.mpr c16
                          subst c16
                          have H1 : (if (wrap64 ((wrap64 ((wrap64 (x4_1 + t175)) + 2)) + t176)) > (a0.size : Int) then (some (0, 18)) else (impl_takeCommand.l0 kj12 a0 (wrap64 ((wrap64 ((wrap64 (x4_1 + t175)) + 2)) + t176)))) = some (r1, r2) := by rw [if_neg (show ¬ (false = true) by decide)] at H; exact H
                          clear H
                          have H := H1
                          clear H1
                          by_cases c17 : (wrap64 ((wrap64 ((wrap64 (x4_1 + t175)) + 2)) + t176)) > (a0.size : Int)
                          · rw [if_pos c17] at H
                            have c17b0 : decide ((a0.size : Int) < (wrap64 ((wrap64 ((wrap64 (x4_1 + t175)) + 2)) + t176))) = true := decide_eq_true c17
                            clear c17
                            simp only [Option.some.injEq, Prod.mk.injEq] at H
                            obtain ⟨rfl, rfl⟩ := H
                            go_wp2
                            go_ret2
                            exact ⟨by first | rfl | (simp [errW_none, errW_some] <;> rfl) | (simp [*, errW_none, errW_some] <;> rfl), by repeat (first | (with_reducible first | exact HB.out | apply below_alloc | apply pw_below_drewN | apply below_drew1) | exact HB.out)⟩
                          · rw [if_neg c17] at H
                            have c17b0 : decide ((a0.size : Int) < (wrap64 ((wrap64 ((wrap64 (x4_1 + t175)) + 2)) + t176))) = false := decide_eq_false c17
                            clear c17
                            have H' := Aside0.mk H
                            clear H
                            go_wp2
                            go_roundg kj12
                            case measure => have := HK1.out; have := HJ12.out; omega
                            case rel => exact ⟨((wrap64 ((wrap64 ((wrap64 (x4_1 + t175)) + 2)) + t176))), (by first | rfl | (simp; done) | (simp [*]; done)), H', ⟨by have := HK1.out; have := HJ12.out; omega⟩, ⟨by repeat (first | (with_reducible first | exact HB.out | apply below_alloc | apply pw_below_drewN | apply below_drew1) | exact HB.out)⟩⟩
                  · replace c12 := Bool.eq_false_iff.mpr c12
                    subst c12
                    have H1 : (some (wrap64 (x4_1 + t175), 0)) = some (r1, r2) := by rw [if_neg (show ¬ (false = true) by decide)] at H; exact H
                    clear H
                    have H := H1
                    clear H1
                    simp only [Option.some.injEq, Prod.mk.injEq] at H
                    obtain ⟨rfl, rfl⟩ := H
                    go_wp2_with (first | ((with_reducible refine gate_callee (f := 99) rfl ?_); refine goesL_ (some 12) rfl rfl Tryd.func99 (by kernel_rfl) rfl #[.string (a0.extract (x4_1 : Int).toNat a0.size), .string (⟨#[13, 10]⟩ : ByteArray)] rfl (by (try simp only [List.map_toArray, List.map_cons, List.map_nil]); first | done | rfl | (simp only [List.length_drop, List.length_take]; rfl)) ?_; (with_reducible refine (strings_Index.calls (a0.extract (x4_1 : Int).toNat a0.size) (⟨#[13, 10]⟩ : ByteArray) t175 _ ?side1 A4.out).mono ?_); (case side1 => first | exact HG | exact ⟨HG.out.of rfl⟩ | (refine ⟨HG.out.on ?_⟩; (repeat (first | (with_reducible first | exact HB.out | apply below_alloc | apply pw_below_drewN | apply below_drew1) | exact HB.out)); done) | exact ⟨HG.out.on HBW.out⟩); rintro e w' ⟨rfl, ⟨nd, rfl⟩⟩; refine ⟨_, rfl, ?_⟩) | ((with_reducible refine gate_callee (f := 183) rfl ?_); refine goesL_ (some 28) rfl rfl Tryd.func183 (by kernel_rfl) rfl #[.string (a0.extract (x4_1 : Int).toNat ((wrap64 (x4_1 + t175)) : Int).toNat)] rfl (by (try simp only [List.map_toArray, List.map_cons, List.map_nil]); first | done | rfl | (simp only [List.length_drop, List.length_take]; rfl)) ?_; (with_reducible refine (impl_literal.calls k1 (a0.extract (x4_1 : Int).toNat ((wrap64 (x4_1 + t175)) : Int).toNat) t176 false _ A11.out).mono ?_); rintro e w18 ⟨rfl, hb⟩; refine ⟨_, rfl, ?_⟩; have n0_ := Aside0.mk (below_step (by repeat (first | (with_reducible first | exact HB.out | apply below_alloc | apply pw_below_drewN | apply below_drew1) | exact HB.out)) hb); clear HB; have HB := n0_; clear n0_; (try clear hb); (try clear hb2); (try clear hk); (try clear hi)))
                    go_ret2
                    exact ⟨by first | rfl | (simp [errW_none, errW_some] <;> rfl) | (simp [*, errW_none, errW_some] <;> rfl), by repeat (first | (with_reducible first | exact HB.out | apply below_alloc | apply pw_below_drewN | apply below_drew1) | exact HB.out)⟩
                · rw [if_neg c10] at H
                  exact absurd H (by simp)
              · rw [if_neg c9] at H
                exact absurd H (by simp)
        · rw [if_neg c3] at H
          exact absurd H (by simp)
      · rw [if_neg c2] at H
        exact absurd H (by simp)

/-! ### impl_TakeCommand: function 113 -/
def impl_TakeCommand.f (k : Nat) (a0 : ByteArray) : Option (ByteArray × ByteArray × Int) := if (a0.size : Int) > 65536 then (some ((⟨#[]⟩ : ByteArray), (⟨#[]⟩ : ByteArray), 2)) else ((impl_takeCommand.f k a0).bind fun bt178 => (if bt178.2 = 0 then (if 0 ≤ bt178.1 then (if bt178.1 ≤ (a0.size : Int) then (if 0 ≤ (wrap64 (bt178.1 + 2)) then (if (wrap64 (bt178.1 + 2)) ≤ (a0.size : Int) then (some (a0.extract 0 (bt178.1 : Int).toNat, a0.extract ((wrap64 (bt178.1 + 2)) : Int).toNat a0.size, 0)) else (none)) else (none)) else (none)) else (none)) else (some ((⟨#[]⟩ : ByteArray), a0, bt178.2))))
theorem impl_TakeCommand.mono : ∀ a0 k, LeO (impl_TakeCommand.f k a0) (impl_TakeCommand.f (k + 1) a0) := by
  intro a0 k
  unfold impl_TakeCommand.f
  repeat' first
      | (with_reducible exact impl_takeCommand.mono _ _)
      | (with_reducible exact LeO.refl _)
      | (with_reducible exact LeO.none _)
      | (with_reducible refine LeO.ite ?_ ?_)
      | (with_reducible refine LeO.bind ?_ (fun _ => ?_))
      | exact impl_takeCommand.mono _ _
      | exact LeO.none _
      | refine LeO.ite ?_ ?_
      | refine LeO.bind ?_ (fun _ => ?_)
set_option maxHeartbeats 8000000 in
set_option maxRecDepth 100000 in
theorem impl_TakeCommand.calls (k : Nat) (a0 : ByteArray) (r1 : ByteArray) (r2 : ByteArray) (r3 : Int) (w : World) (HG : Aside0 (Glob w)) (h : impl_TakeCommand.f k a0 = some (r1, r2, r3)) :
    Calls Tryd.prog 113 #[.string a0] w fun e w' => e = .returned (.tuple #[.string r1, .string r2, .int .i64 r3]) ∧ Below w.heap.size w w' := by
  have HB := Aside0.mk (Below.refl w.heap.size w)
  have H : (if (a0.size : Int) > 65536 then (some ((⟨#[]⟩ : ByteArray), (⟨#[]⟩ : ByteArray), 2)) else ((impl_takeCommand.f k a0).bind fun bt178 => (if bt178.2 = 0 then (if 0 ≤ bt178.1 then (if bt178.1 ≤ (a0.size : Int) then (if 0 ≤ (wrap64 (bt178.1 + 2)) then (if (wrap64 (bt178.1 + 2)) ≤ (a0.size : Int) then (some (a0.extract 0 (bt178.1 : Int).toNat, a0.extract ((wrap64 (bt178.1 + 2)) : Int).toNat a0.size, 0)) else (none)) else (none)) else (none)) else (none)) else (some ((⟨#[]⟩ : ByteArray), a0, bt178.2))))) = some (r1, r2, r3) := h
  clear h
  by_cases c2 : (a0.size : Int) > 65536
  · rw [if_pos c2] at H
    have c2b0 : decide (65536 < (a0.size : Int)) = true := decide_eq_true c2
    have c2b1 : decide (65536 < a0.size) = true := decide_eq_true (by omega)
    clear c2
    simp only [Option.some.injEq, Prod.mk.injEq] at H
    obtain ⟨rfl, rfl, rfl⟩ := H
    go_enter Tryd.func113, Tryd.ntmps113
    go_wp2
    repeat (go_quiet (fail); try go_wp2)
    go_ret3
    exact ⟨by first | rfl | (simp [errW_none, errW_some] <;> rfl) | (simp [*, errW_none, errW_some] <;> rfl), by repeat (first | (with_reducible first | exact HB.out | apply below_alloc | apply pw_below_drewN | apply below_drew1) | exact HB.out)⟩
  · rw [if_neg c2] at H
    have c2b0 : decide (65536 < (a0.size : Int)) = false := decide_eq_false c2
    have c2b1 : decide (65536 < a0.size) = false := decide_eq_false (by omega)
    clear c2
    replace H := Option.bind_eq_some_iff.mp H
    obtain ⟨⟨t178, t179⟩, A30, H⟩ := H
    replace H : (if t179 = 0 then (if 0 ≤ t178 then (if t178 ≤ (a0.size : Int) then (if 0 ≤ (wrap64 (t178 + 2)) then (if (wrap64 (t178 + 2)) ≤ (a0.size : Int) then (some (a0.extract 0 (t178 : Int).toNat, a0.extract ((wrap64 (t178 + 2)) : Int).toNat a0.size, 0)) else (none)) else (none)) else (none)) else (none)) else (some ((⟨#[]⟩ : ByteArray), a0, t179))) = some (r1, r2, r3) := H
    have A3 := Aside0.mk A30
    clear A30
    by_cases c4 : t179 = 0
    · rw [if_pos c4] at H
      have c4b0 : (t179 == 0) = true := beq_iff_eq.mpr c4
      have c4b1 : (t179 != 0) = false := bne_eq_false_iff_eq.mpr c4
      clear c4
      by_cases c5 : 0 ≤ t178
      · rw [if_pos c5] at H
        have c5b0 := eq_true c5
        have c5b1 : decide (0 ≤ t178) = true := decide_eq_true c5
        clear c5
        by_cases c6 : t178 ≤ (a0.size : Int)
        · rw [if_pos c6] at H
          have c6b0 := eq_true c6
          have c6b1 : decide (t178 ≤ (a0.size : Int)) = true := decide_eq_true c6
          clear c6
          obtain ⟨ji7, hji7⟩ : ∃ j_ : Int, (wrap64 (t178 + 2)) = j_ := ⟨_, rfl⟩
          replace H : (if 0 ≤ (ji7) then (if (ji7) ≤ (a0.size : Int) then (some (a0.extract 0 (t178 : Int).toNat, a0.extract ((ji7) : Int).toNat a0.size, 0)) else (none)) else (none)) = some (r1, r2, r3) := by first | (rw [hji7] at H; exact H) | (simp only [hji7] at H ⊢; exact H)
          (try rw [hji7] at A3)
          have hji7w : (IntKind.i64.wrap (t178 + 2)) = ji7 := (i64_w _).trans hji7
          by_cases c8 : 0 ≤ (ji7)
          · rw [if_pos c8] at H
            have c8b0 := eq_true c8
            have c8b1 : decide (0 ≤ (ji7)) = true := decide_eq_true c8
            clear c8
            by_cases c9 : (ji7) ≤ (a0.size : Int)
            · rw [if_pos c9] at H
              have c9b0 := eq_true c9
              have c9b1 : decide ((ji7) ≤ (a0.size : Int)) = true := decide_eq_true c9
              clear c9
              simp only [Option.some.injEq, Prod.mk.injEq] at H
              obtain ⟨rfl, rfl, rfl⟩ := H
              go_enter Tryd.func113, Tryd.ntmps113
              go_wp2_with (first | (go_at_call 148; (with_reducible refine (impl_takeCommand.calls k a0 t178 t179 _ ?side1 A3.out).mono ?_); (case side1 => first | exact HG | exact ⟨HG.out.of rfl⟩ | (refine ⟨HG.out.on ?_⟩; (repeat (first | (with_reducible first | exact HB.out | apply below_alloc | apply pw_below_drewN | apply below_drew1) | exact HB.out)); done) | exact ⟨HG.out.on HBW.out⟩); rintro e w10 ⟨rfl, hb⟩; have n0_ := Aside0.mk (below_step (by repeat (first | (with_reducible first | exact HB.out | apply below_alloc | apply pw_below_drewN | apply below_drew1) | exact HB.out)) hb); clear HB; have HB := n0_; clear n0_; (try clear hb); (try clear hb2); (try clear hk); (try clear hi)))
              repeat (go_quiet (first | (go_at_call 148; (with_reducible refine (impl_takeCommand.calls k a0 t178 t179 _ ?side1 A3.out).mono ?_); (case side1 => first | exact HG | exact ⟨HG.out.of rfl⟩ | (refine ⟨HG.out.on ?_⟩; (repeat (first | (with_reducible first | exact HB.out | apply below_alloc | apply pw_below_drewN | apply below_drew1) | exact HB.out)); done) | exact ⟨HG.out.on HBW.out⟩); rintro e w10 ⟨rfl, hb⟩; have n0_ := Aside0.mk (below_step (by repeat (first | (with_reducible first | exact HB.out | apply below_alloc | apply pw_below_drewN | apply below_drew1) | exact HB.out)) hb); clear HB; have HB := n0_; clear n0_; (try clear hb); (try clear hb2); (try clear hk); (try clear hi))); try go_wp2_with (first | (go_at_call 148; (with_reducible refine (impl_takeCommand.calls k a0 t178 t179 _ ?side1 A3.out).mono ?_); (case side1 => first | exact HG | exact ⟨HG.out.of rfl⟩ | (refine ⟨HG.out.on ?_⟩; (repeat (first | (with_reducible first | exact HB.out | apply below_alloc | apply pw_below_drewN | apply below_drew1) | exact HB.out)); done) | exact ⟨HG.out.on HBW.out⟩); rintro e w10 ⟨rfl, hb⟩; have n0_ := Aside0.mk (below_step (by repeat (first | (with_reducible first | exact HB.out | apply below_alloc | apply pw_below_drewN | apply below_drew1) | exact HB.out)) hb); clear HB; have HB := n0_; clear n0_; (try clear hb); (try clear hb2); (try clear hk); (try clear hi))))
              go_ret3
              exact ⟨by first | rfl | (simp [errW_none, errW_some] <;> rfl) | (simp only [← hji7]; first | rfl | (simp [errW_none, errW_some] <;> rfl)) | (simp [*, errW_none, errW_some] <;> rfl), by repeat (first | (with_reducible first | exact HB.out | apply below_alloc | apply pw_below_drewN | apply below_drew1) | exact HB.out)⟩
            · rw [if_neg c9] at H
              exact absurd H (by simp)
          · rw [if_neg c8] at H
            exact absurd H (by simp)
        · rw [if_neg c6] at H
          exact absurd H (by simp)
      · rw [if_neg c5] at H
        exact absurd H (by simp)
    · rw [if_neg c4] at H
      have c4b0 : (t179 == 0) = false := beq_eq_false_iff_ne.mpr c4
      have c4b1 : (t179 != 0) = true := bne_iff_ne.mpr c4
      simp only [Option.some.injEq, Prod.mk.injEq] at H
      obtain ⟨rfl, rfl, rfl⟩ := H
      go_enter Tryd.func113, Tryd.ntmps113
      go_wp2_with (first | (go_at_call 148; (with_reducible refine (impl_takeCommand.calls k a0 t178 t179 _ ?side1 A3.out).mono ?_); (case side1 => first | exact HG | exact ⟨HG.out.of rfl⟩ | (refine ⟨HG.out.on ?_⟩; (repeat (first | (with_reducible first | exact HB.out | apply below_alloc | apply pw_below_drewN | apply below_drew1) | exact HB.out)); done) | exact ⟨HG.out.on HBW.out⟩); rintro e w11 ⟨rfl, hb⟩; have n0_ := Aside0.mk (below_step (by repeat (first | (with_reducible first | exact HB.out | apply below_alloc | apply pw_below_drewN | apply below_drew1) | exact HB.out)) hb); clear HB; have HB := n0_; clear n0_; (try clear hb); (try clear hb2); (try clear hk); (try clear hi)))
      repeat (go_quiet (first | (go_at_call 148; (with_reducible refine (impl_takeCommand.calls k a0 t178 t179 _ ?side1 A3.out).mono ?_); (case side1 => first | exact HG | exact ⟨HG.out.of rfl⟩ | (refine ⟨HG.out.on ?_⟩; (repeat (first | (with_reducible first | exact HB.out | apply below_alloc | apply pw_below_drewN | apply below_drew1) | exact HB.out)); done) | exact ⟨HG.out.on HBW.out⟩); rintro e w11 ⟨rfl, hb⟩; have n0_ := Aside0.mk (below_step (by repeat (first | (with_reducible first | exact HB.out | apply below_alloc | apply pw_below_drewN | apply below_drew1) | exact HB.out)) hb); clear HB; have HB := n0_; clear n0_; (try clear hb); (try clear hb2); (try clear hk); (try clear hi))); try go_wp2_with (first | (go_at_call 148; (with_reducible refine (impl_takeCommand.calls k a0 t178 t179 _ ?side1 A3.out).mono ?_); (case side1 => first | exact HG | exact ⟨HG.out.of rfl⟩ | (refine ⟨HG.out.on ?_⟩; (repeat (first | (with_reducible first | exact HB.out | apply below_alloc | apply pw_below_drewN | apply below_drew1) | exact HB.out)); done) | exact ⟨HG.out.on HBW.out⟩); rintro e w11 ⟨rfl, hb⟩; have n0_ := Aside0.mk (below_step (by repeat (first | (with_reducible first | exact HB.out | apply below_alloc | apply pw_below_drewN | apply below_drew1) | exact HB.out)) hb); clear HB; have HB := n0_; clear n0_; (try clear hb); (try clear hb2); (try clear hk); (try clear hi))))
      go_ret3
      exact ⟨by first | rfl | (simp [errW_none, errW_some] <;> rfl) | (simp [*, errW_none, errW_some] <;> rfl), by repeat (first | (with_reducible first | exact HB.out | apply below_alloc | apply pw_below_drewN | apply below_drew1) | exact HB.out)⟩

/-! ### impl_sayOK: function 71 -/
def impl_sayOK.f (k : Nat) (a0 : ByteArray) (a1 : Int) : Option (Bool) := if a1 = 2 then (if (a0.size : Int) ≤ 502 then (if 0 ≤ (wrap64 ((a0.size : Int) - 2)) then (if (wrap64 ((a0.size : Int) - 2)) ≤ (a0.size : Int) then ((impl_allWithin.f k (a0.extract 0 ((wrap64 ((a0.size : Int) - 2)) : Int).toNat) 32 126).bind fun t180 => (some t180)) else (none)) else (none)) else (some false)) else ((impl_TakeCommand.f k a0).bind fun bt181 => (if bt181.2.2 = 0 then (some (bt181.2.1.toList == ([] : List UInt8))) else (some false)))
theorem impl_sayOK.mono : ∀ a0 a1 k, LeO (impl_sayOK.f k a0 a1) (impl_sayOK.f (k + 1) a0 a1) := by
  intro a0 a1 k
  unfold impl_sayOK.f
  repeat' first
      | (with_reducible exact impl_TakeCommand.mono _ _)
      | (with_reducible exact impl_allWithin.mono _ _ _ _)
      | (with_reducible exact LeO.refl _)
      | (with_reducible exact LeO.none _)
      | (with_reducible refine LeO.ite ?_ ?_)
      | (with_reducible refine LeO.bind ?_ (fun _ => ?_))
      | exact impl_TakeCommand.mono _ _
      | exact impl_allWithin.mono _ _ _ _
      | exact LeO.none _
      | refine LeO.ite ?_ ?_
      | refine LeO.bind ?_ (fun _ => ?_)
set_option maxHeartbeats 8000000 in
set_option maxRecDepth 100000 in
theorem impl_sayOK.calls (k : Nat) (a0 : ByteArray) (a1 : Int) (r : Bool) (w : World) (HG : Aside0 (Glob w)) (h : impl_sayOK.f k a0 a1 = some r) :
    Calls Tryd.prog 71 #[.string a0, .int .i64 a1] w fun e w' => e = .returned (.bool r) ∧ Below w.heap.size w w' := by
  have HB := Aside0.mk (Below.refl w.heap.size w)
  have H : (if a1 = 2 then (if (a0.size : Int) ≤ 502 then (if 0 ≤ (wrap64 ((a0.size : Int) - 2)) then (if (wrap64 ((a0.size : Int) - 2)) ≤ (a0.size : Int) then ((impl_allWithin.f k (a0.extract 0 ((wrap64 ((a0.size : Int) - 2)) : Int).toNat) 32 126).bind fun t180 => (some t180)) else (none)) else (none)) else (some false)) else ((impl_TakeCommand.f k a0).bind fun bt181 => (if bt181.2.2 = 0 then (some (bt181.2.1.toList == ([] : List UInt8))) else (some false)))) = some r := h
  clear h
  by_cases c3 : a1 = 2
  · rw [if_pos c3] at H
    have c3b0 : (a1 == 2) = true := beq_iff_eq.mpr c3
    have c3b1 : (a1 != 2) = false := bne_eq_false_iff_eq.mpr c3
    clear c3
    by_cases c4 : (a0.size : Int) ≤ 502
    · rw [if_pos c4] at H
      have c4b0 : decide ((a0.size : Int) ≤ 502) = true := decide_eq_true c4
      have c4b1 : decide (a0.size ≤ 502) = true := decide_eq_true (by omega)
      clear c4
      obtain ⟨ji5, hji5⟩ : ∃ j_ : Int, (wrap64 ((a0.size : Int) - 2)) = j_ := ⟨_, rfl⟩
      replace H : (if 0 ≤ (ji5) then (if (ji5) ≤ (a0.size : Int) then ((impl_allWithin.f k (a0.extract 0 ((ji5) : Int).toNat) 32 126).bind fun t180 => (some t180)) else (none)) else (none)) = some r := by first | (rw [hji5] at H; exact H) | (simp only [hji5] at H ⊢; exact H)
      have hji5w : (IntKind.i64.wrap ((a0.size : Int) - 2)) = ji5 := (i64_w _).trans hji5
      by_cases c6 : 0 ≤ (ji5)
      · rw [if_pos c6] at H
        have c6b0 := eq_true c6
        have c6b1 : decide (0 ≤ (ji5)) = true := decide_eq_true c6
        clear c6
        by_cases c7 : (ji5) ≤ (a0.size : Int)
        · rw [if_pos c7] at H
          have c7b0 := eq_true c7
          have c7b1 : decide ((ji5) ≤ (a0.size : Int)) = true := decide_eq_true c7
          clear c7
          replace H := Option.bind_eq_some_iff.mp H
          obtain ⟨t180, A80, H⟩ := H
          replace H : (some t180) = some r := H
          have A8 := Aside0.mk A80
          clear A80
          obtain rfl := Option.some.inj H
          go_enter Tryd.func71, Tryd.ntmps71
          go_wp2_with (first | (go_at_call 64; (with_reducible refine (impl_allWithin.calls k (a0.extract 0 ((ji5) : Int).toNat) 32 126 t180 _ A8.out).mono ?_); rintro e w' ⟨rfl, ⟨nd, rfl⟩⟩))
          go_ret
          exact ⟨by first | rfl | (simp [errW_none, errW_some] <;> rfl) | (simp only [← hji5]; first | rfl | (simp [errW_none, errW_some] <;> rfl)) | (simp [*, errW_none, errW_some] <;> rfl), by repeat (first | (with_reducible first | exact HB.out | apply below_alloc | apply pw_below_drewN | apply below_drew1) | exact HB.out)⟩
        · rw [if_neg c7] at H
          exact absurd H (by simp)
      · rw [if_neg c6] at H
        exact absurd H (by simp)
    · rw [if_neg c4] at H
      have c4b0 : decide ((a0.size : Int) ≤ 502) = false := decide_eq_false c4
      have c4b1 : decide (a0.size ≤ 502) = false := decide_eq_false (by omega)
      clear c4
      obtain rfl := Option.some.inj H
      go_enter Tryd.func71, Tryd.ntmps71
      go_wp2
      go_ret
      exact ⟨by first | rfl | (simp [errW_none, errW_some] <;> rfl) | (simp [*, errW_none, errW_some] <;> rfl), by repeat (first | (with_reducible first | exact HB.out | apply below_alloc | apply pw_below_drewN | apply below_drew1) | exact HB.out)⟩
  · rw [if_neg c3] at H
    have c3b0 : (a1 == 2) = false := beq_eq_false_iff_ne.mpr c3
    have c3b1 : (a1 != 2) = true := bne_iff_ne.mpr c3
    replace H := Option.bind_eq_some_iff.mp H
    obtain ⟨⟨t181, t182, t183⟩, A90, H⟩ := H
    replace H : (if t183 = 0 then (some (t182.toList == ([] : List UInt8))) else (some false)) = some r := H
    have A9 := Aside0.mk A90
    clear A90
    by_cases c10 : t183 = 0
    · rw [if_pos c10] at H
      have c10b0 : (t183 == 0) = true := beq_iff_eq.mpr c10
      have c10b1 : (t183 != 0) = false := bne_eq_false_iff_eq.mpr c10
      clear c10
      obtain rfl := Option.some.inj H
      go_enter Tryd.func71, Tryd.ntmps71
      go_wp2_with (first | ((with_reducible refine gate_callee (f := 113) rfl ?_); refine goesL_ (some 23) rfl rfl Tryd.func113 (by kernel_rfl) rfl #[.string a0] rfl (by (try simp only [List.map_toArray, List.map_cons, List.map_nil]); first | done | rfl | (simp only [List.length_drop, List.length_take]; rfl)) ?_; (with_reducible refine (impl_TakeCommand.calls k a0 t181 t182 t183 _ ?side1 A9.out).mono ?_); (case side1 => first | exact HG | exact ⟨HG.out.of rfl⟩ | (refine ⟨HG.out.on ?_⟩; (repeat (first | (with_reducible first | exact HB.out | apply below_alloc | apply pw_below_drewN | apply below_drew1) | exact HB.out)); done) | exact ⟨HG.out.on HBW.out⟩); rintro e w11 ⟨rfl, hb⟩; refine ⟨_, rfl, ?_⟩; have n0_ := Aside0.mk (below_step (by repeat (first | (with_reducible first | exact HB.out | apply below_alloc | apply pw_below_drewN | apply below_drew1) | exact HB.out)) hb); clear HB; have HB := n0_; clear n0_; (try clear hb); (try clear hb2); (try clear hk); (try clear hi)))
      go_ret
      exact ⟨by first | rfl | (simp [errW_none, errW_some] <;> rfl) | (simp [*, errW_none, errW_some] <;> rfl), by repeat (first | (with_reducible first | exact HB.out | apply below_alloc | apply pw_below_drewN | apply below_drew1) | exact HB.out)⟩
    · rw [if_neg c10] at H
      have c10b0 : (t183 == 0) = false := beq_eq_false_iff_ne.mpr c10
      have c10b1 : (t183 != 0) = true := bne_iff_ne.mpr c10
      obtain rfl := Option.some.inj H
      go_enter Tryd.func71, Tryd.ntmps71
      go_wp2_with (first | ((with_reducible refine gate_callee (f := 113) rfl ?_); refine goesL_ (some 23) rfl rfl Tryd.func113 (by kernel_rfl) rfl #[.string a0] rfl (by (try simp only [List.map_toArray, List.map_cons, List.map_nil]); first | done | rfl | (simp only [List.length_drop, List.length_take]; rfl)) ?_; (with_reducible refine (impl_TakeCommand.calls k a0 t181 t182 t183 _ ?side1 A9.out).mono ?_); (case side1 => first | exact HG | exact ⟨HG.out.of rfl⟩ | (refine ⟨HG.out.on ?_⟩; (repeat (first | (with_reducible first | exact HB.out | apply below_alloc | apply pw_below_drewN | apply below_drew1) | exact HB.out)); done) | exact ⟨HG.out.on HBW.out⟩); rintro e w12 ⟨rfl, hb⟩; refine ⟨_, rfl, ?_⟩; have n0_ := Aside0.mk (below_step (by repeat (first | (with_reducible first | exact HB.out | apply below_alloc | apply pw_below_drewN | apply below_drew1) | exact HB.out)) hb); clear HB; have HB := n0_; clear n0_; (try clear hb); (try clear hb2); (try clear hk); (try clear hi)))
      go_ret
      exact ⟨by first | rfl | (simp [errW_none, errW_some] <;> rfl) | (simp [*, errW_none, errW_some] <;> rfl), by repeat (first | (with_reducible first | exact HB.out | apply below_alloc | apply pw_below_drewN | apply below_drew1) | exact HB.out)⟩

end Go.Proofs.YtnphhnhnmohfiaaDoor.PFnExactSayAll
