/- Contracts of functions that a statement reaches (wip/x/xprint.py, short.py, compact.py). -/
import Derived.Test.YtbikfhccfenkdaaPFnExactEngineOKx0
import Derived.Test.YtbikfhccfenkdaaPFnExactEngineOKx2
namespace Go.Proofs.Ytbikfhccfenkdaa.PFnExactEngineOK
open Go.RowKit Go.Proofs.YtbikfhccfenkdaaW.PrintWords Go.Proofs.YtbikfhccfenkdaaW.PrintLast Go.Proofs.YtbikfhccfenkdaaW.PrintMore Go.Proofs.Ytbikfhccfenkdaa.Mac
attribute [local go_sem] max2_int min2_int max_two min_two max_three min_three max_four min_four
set_option linter.unusedVariables false
set_option linter.unusedSimpArgs false

/-! ### spec_l08Number: function 29 -/
def spec_l08Number.l0 : Nat → ByteArray → Int → Int → Option (Int)
 | 0, _, _, _ => none
 | k + 1, x0, x3, x4 => if x4 < (x0.size : Int) then (if 0 ≤ x4 then (spec_l08Number.l0 k x0 (wrap64 ((wrap64 (x3 * 256)) + (wrap64 (bt x0 x4)))) (wrap64 (x4 + 1))) else (none)) else (some x3)
def spec_l08Number.f (k : Nat) (a0 : ByteArray) : Option (Int) := spec_l08Number.l0 k a0 0 0
theorem spec_l08Number.mono_l : ∀ k, (∀ y0 y1 y2, LeO (spec_l08Number.l0 k y0 y1 y2) (spec_l08Number.l0 (k + 1) y0 y1 y2))
 | 0 => fun _ _ _ r h => by simp [spec_l08Number.l0] at h
 | k + 1 => by
  have ih0 := spec_l08Number.mono_l k
  ·intro y0 y1 y2
   unfold spec_l08Number.l0
   exact tM
theorem spec_l08Number.mono : ∀ a0 k, LeO (spec_l08Number.f k a0) (spec_l08Number.f (k + 1) a0) := by
 intro a0 k
 have ih0 := spec_l08Number.mono_l k
 unfold spec_l08Number.f
 exact tM
set_option maxHeartbeats 40000000 in
set_option maxRecDepth 100000 in
theorem spec_l08Number.calls (k : Nat) (a0 : ByteArray) (r : Int) (w : World) (h : spec_l08Number.f k a0 = some r) :
  Calls Try.prog 29 #[.string a0] w fun e w' => e = .returned (.int .i64 r) ∧ Drawn0 w w' := by
 have H : (spec_l08Number.l0 k a0 0 0) = some r := h
 clear h
 have H' := Aside0.mk H
 clear H
 go_enter Try.func29, Try.ntmps29
 go_wp2
 go_loopg [3, 4] k (fun kq v3 v4 w' => ∃ (x3_1 : Int) (x4_1 : Int), v3 = .int .i64 x3_1 ∧ v4 = .int .i64 x4_1 ∧ Aside0 (spec_l08Number.l0 kq a0 x3_1 x4_1 = some r) ∧ Aside0 (kq ≤ k) ∧ Drawn0 w w')
 case atStart => exact ⟨(0), (0), (Z3), (Z3), H', ⟨Nat.le_refl _⟩, Z13⟩
 case round =>
  clear H'
  obtain ⟨x3_1, x4_1, rfl, rfl, HA, HK1, ⟨m1, rfl⟩⟩ := hrel
  cases gk with
  | zero => exact absurd HA.out (by simp [spec_l08Number.l0])
  | succ k1 =>
   have H := HA.out
   clear HA
   simp only [spec_l08Number.l0] at H
   by_cases c2 : x4_1 < (a0.size : Int)
   ·rw [if_pos c2] at H
    have c2b0 := decide_eq_true c2
    clear c2
    obtain ⟨c3, H⟩ := ifS H
    have c3b0 : decide (0 ≤ x4_1) = true := decide_eq_true c3
    clear c3
    have H' := Aside0.mk H
    clear H
    have p4 : 0 ≤ (x4_1 : Int) := of_decide_eq_true (Z4)
    have q4 : x4_1 < (a0.size : Int) := of_decide_eq_true (Z4)
    have hx4 := bt_at a0 x4_1
    replace p4 := eq_true p4
    replace q4 := eq_true q4
    go_wp2
    go_roundg k1
    case measure => have := HK1.out; omega
    case rel => exact ⟨(wrap64 ((wrap64 (x3_1 * 256)) + (wrap64 (bt a0 x4_1)))), (wrap64 (x4_1 + 1)), (Z3), (Z3), H', ⟨Z110⟩, Z13⟩
   ·rw [if_neg c2] at H
    have c2b0 := decide_eq_false c2
    clear c2
    obtain rfl := Option.some.inj H
    go_wp2
    go_ret
    exact ⟨Z3, Z13⟩

def spec_l08Frame.f (a0 : ByteArray) : Option ByteArray := if a0.size ≤ 65000 then some (bs (frameL a0.data.toList)) else none
theorem spec_l08Frame.calls (a0 r : ByteArray) (w : World) (h : spec_l08Frame.f a0 = some r) :
  Calls Try.prog 30 #[.string a0] w fun e w' => e = .returned (.string r) ∧ Below w.heap.size w w' := by
 unfold spec_l08Frame.f at h
 split at h
 ·injection h with h
  subst h
  have := s_l08Frame a0.data.toList w (by rw [← bs_size, bs_of]; omega)
  rwa [bs_of] at this
 ·cases h

/-! ### spec_l08Records: function 13 -/
def spec_l08Records.l0 : Nat → ByteArray → List ByteArray → Int → Option (List ByteArray × Int × Int)
 | 0, _, _, _ => none
 | k + 1, x0, x5, x6 => if x6 < (x0.size : Int) then (if (wrap64 (x6 + 7)) > (x0.size : Int) then (some (x5, x6, 18)) else (if 0 ≤ x6 then (if x6 ≤ (wrap64 (x6 + 3)) then (if (wrap64 (x6 + 3)) ≤ (x0.size : Int) then ((spec_l08Number.f k (x0.extract (x6 : Int).toNat ((wrap64 (x6 + 3)) : Int).toNat)).bind fun t150 => ((spec_l01In.f t150 1 20000).bind fun t151 => (if t151 = true then (if (wrap64 ((wrap64 (x6 + 7)) + t150)) > (x0.size : Int) then (some (x5, x6, 18)) else (if 0 ≤ (wrap64 (x6 + 7)) then (if (wrap64 (x6 + 7)) ≤ (wrap64 ((wrap64 (x6 + 7)) + t150)) then (if (wrap64 ((wrap64 (x6 + 7)) + t150)) ≤ (x0.size : Int) then ((spec_l08Frame.f (x0.extract ((wrap64 (x6 + 7)) : Int).toNat ((wrap64 ((wrap64 (x6 + 7)) + t150)) : Int).toNat)).bind fun t152 => (if x6 ≤ (wrap64 ((wrap64 (x6 + 7)) + t150)) then (if t152.toList = (x0.extract (x6 : Int).toNat ((wrap64 ((wrap64 (x6 + 7)) + t150)) : Int).toNat).toList then (if x5.length < 8796093022208 then (spec_l08Records.l0 k x0 (x5 ++ [x0.extract ((wrap64 (x6 + 7)) : Int).toNat ((wrap64 ((wrap64 (x6 + 7)) + t150)) : Int).toNat]) (wrap64 (x6 + (wrap64 (7 + t150))))) else (none)) else (some (x5, x6, 8))) else (none))) else (none)) else (none)) else (none))) else (some (x5, x6, 8))))) else (none)) else (none)) else (none))) else (some (x5, x6, 0))
def spec_l08Records.f (k : Nat) (a0 : ByteArray) : Option (List ByteArray × Int × Int) := spec_l08Records.l0 k a0 (([] : List ByteArray)) 0
theorem spec_l08Records.mono_l : ∀ k, (∀ y0 y1 y2, LeO (spec_l08Records.l0 k y0 y1 y2) (spec_l08Records.l0 (k + 1) y0 y1 y2))
 | 0 => fun _ _ _ r h => by simp [spec_l08Records.l0] at h
 | k + 1 => by
  have ih0 := spec_l08Records.mono_l k
  ·intro y0 y1 y2
   unfold spec_l08Records.l0
   have m0 := @spec_l08Number.mono
   exact tM
theorem spec_l08Records.mono : ∀ a0 k, LeO (spec_l08Records.f k a0) (spec_l08Records.f (k + 1) a0) := by
 intro a0 k
 have ih0 := spec_l08Records.mono_l k
 unfold spec_l08Records.f
 have m0 := @spec_l08Number.mono
 exact tM
def spec_l08Records.T11 : Bool × List (List Nat × List Nat) := (true, [([], []), ([], []), ([1], [1]), ([], []), ([3], [3]), ([], []), ([4, 5], [4, 5]), ([0, 2, 6], [0, 2, 6]), ([7], [7]), ([], []), ([], []), ([], []), ([11], [11]), ([], []), ([12, 13], [12, 13]), ([9, 10, 14], [9, 10, 14]), ([8, 15], [8, 15])])
def spec_l08Records.B11 : List Nat := [0, 0, 2, 0, 8, 0, 56, 127, 255, 0, 0, 0, 2048, 0, 14336, 32256, 65535]
theorem spec_l08Records.tab11 : rtab .any (opsOf Try.f13 11) = spec_l08Records.T11 := by kernel_rfl
theorem spec_l08Records.bits11 : waitsOk spec_l08Records.T11.2 spec_l08Records.B11 = true := by kernel_rfl
set_option maxHeartbeats 40000000 in
set_option maxRecDepth 100000 in
theorem spec_l08Records.calls (k : Nat) (a0 : ByteArray) (r1 : List ByteArray) (r2 : Int) (r3 : Int) (w : World) (h : spec_l08Records.f k a0 = some (r1, r2, r3)) :
  Calls Try.prog 13 #[.string a0] w fun e w' => ∃ v0_ : Value, e = .returned (.tuple #[v0_, .int .i64 r2, .int .i64 r3]) ∧ Kd.R Kd.string 9 w' w.heap.size (fun _ => True) v0_ r1 ∧ Below w.heap.size w w' := by
 have HB := Aside0.mk (Below.refl w.heap.size w)
 have H : (spec_l08Records.l0 k a0 (([] : List ByteArray)) 0) = some (r1, r2, r3) := h
 clear h
 obtain ⟨y147, hy147⟩ : ∃ y_ : List ByteArray, y_ = (([] : List ByteArray)) := ⟨_, rfl⟩
 replace H : (spec_l08Records.l0 k a0 y147 0) = some (r1, r2, r3) := by first | (rw [hy147]; with_reducible exact H) | (have H2_ := (Option.bind_some _ _).symm.trans H; rw [hy147]; with_reducible exact H2_) | (have H2_ := (Option.bind_some _ _).symm.trans H; with_reducible exact H2_) | with_reducible exact H | (rw [hy147]; exact H) | exact H
 have Ny147 := Aside0.mk hy147
 clear hy147
 have H' := Aside0.mk H
 clear H
 go_enter Try.func13, Try.ntmps13
 go_wp2_with (first | ((with_reducible refine gate_dst (N := 8) rfl ?_); refine Kd.R_lit Kd.string _ 9 ?hg (N := 8) ?hd (xs := ([] : List ByteArray)) (inner := []) (ok := fun _ => True) (okp := fun _ => True) ?hr ?hp (fun _ hk => hk) trivial (Below.refl _ _) (Nat.le_refl _) (Z124) ?_; (case hd => rfl); (case hg => rfl); (case hr => first | (go_simp; done) | (go_simp; rfl)); (case hp => exact (Reps.none _ _)); intro v148 w2 ho3 hb hg_ hnew_; clear hg_ hnew_; (first | rw [← Ny147.out] at ho3 | (simp only [Int.reduceToNat] at ho3; rw [← Ny147.out] at ho3)); have HO149 := Aside0.mk (Kd.R_lower ho3 (below_size (Z0))); replace HB := Aside0.mk (below_step (Z0) hb); clear hb ho3))
 go_loopg [5, 6] k (fun kq v5 v6 w' => ∃ (x5_1 : List ByteArray) (x6_1 : Int), v6 = .int .i64 x6_1 ∧ Aside0 (spec_l08Records.l0 kq a0 x5_1 x6_1 = some (r1, r2, r3)) ∧ Aside0 (kq ≤ k) ∧ Aside0 (Kd.R Kd.string 9 w' w.heap.size (fun _ => True) v5 x5_1) ∧ Aside0 (Below w.heap.size w w'))
 case atStart => exact ⟨(y147), (0), (Z3), H', ⟨Nat.le_refl _⟩, ⟨by (with_reducible repeat (first | apply Kd.R_alloc | apply Kd.R_drewN | apply Kd.R_drew)); exact HO149.out⟩, ⟨Z0⟩⟩
 case round =>
  clear H'
  obtain ⟨x5_1, x6_1, rfl, HA, HK1, HO_5, HB⟩ := hrel
  cases gk with
  | zero => exact absurd HA.out (by simp [spec_l08Records.l0])
  | succ k1 =>
   have H := HA.out
   clear HA
   simp only [spec_l08Records.l0] at H
   by_cases c4 : x6_1 < (a0.size : Int)
   ·rw [if_pos c4] at H
    have c4b0 := decide_eq_true c4
    clear c4
    by_cases c5 : (wrap64 (x6_1 + 7)) > (a0.size : Int)
    ·rw [if_pos c5] at H
     have c5b0 : decide ((a0.size : Int) < (wrap64 (x6_1 + 7))) = true := decide_eq_true c5
     clear c5
     simp only [Option.some.injEq, Prod.mk.injEq] at H
     obtain ⟨rfl, rfl, rfl⟩ := H
     go_wp2
     go_ret3
     exact ⟨_, Z2, Z69, Z0⟩
    ·rw [if_neg c5] at H
     have c5b0 : decide ((a0.size : Int) < (wrap64 (x6_1 + 7))) = false := decide_eq_false c5
     clear c5
     obtain ⟨c6, H⟩ := ifS H
     have c6b0 := eq_true c6
     have c6b1 : decide (0 ≤ x6_1) = true := decide_eq_true c6
     clear c6
     obtain ⟨c7, H⟩ := ifS H
     have c7b0 := eq_true c7
     have c7b1 : decide (x6_1 ≤ (wrap64 (x6_1 + 3))) = true := decide_eq_true c7
     obtain ⟨c8, H⟩ := ifS H
     have c8b0 := eq_true c8
     have c8b1 : decide ((wrap64 (x6_1 + 3)) ≤ (a0.size : Int)) = true := decide_eq_true c8
     obtain ⟨t150, A9, H⟩ := bindA H
     try dsimp only at H
     obtain ⟨t151, A10, H⟩ := bindA H
     try dsimp only at H
     by_cases c11 : t151 = true
     ·subst c11
      replace H := ifT H
      by_cases c12 : (wrap64 ((wrap64 (x6_1 + 7)) + t150)) > (a0.size : Int)
      ·rw [if_pos c12] at H
       have c12b0 : decide ((a0.size : Int) < (wrap64 ((wrap64 (x6_1 + 7)) + t150))) = true := decide_eq_true c12
       clear c12
       simp only [Option.some.injEq, Prod.mk.injEq] at H
       obtain ⟨rfl, rfl, rfl⟩ := H
       go_wp2_with (first | ((with_reducible refine gate_callee (f := 29) rfl ?_); refine goesL_ (some 25) rfl rfl Try.func29 (Z24) rfl #[.string (a0.extract (x6_1 : Int).toNat ((wrap64 (x6_1 + 3)) : Int).toNat)] rfl (Z1) ?_; (with_reducible refine (spec_l08Number.calls k1 (a0.extract (x6_1 : Int).toNat ((wrap64 (x6_1 + 3)) : Int).toNat) t150 _ A9.out).mono ?_); rintro e w' ⟨rfl, ⟨nd, rfl⟩⟩; refine ⟨_, rfl, ?_⟩) | ((with_reducible refine gate_callee (f := 26) rfl ?_); refine goesL_ (some 27) rfl rfl Try.func26 (Z24) rfl #[.int .i64 t150, .int .i64 1, .int .i64 20000] rfl (Z1) ?_; (with_reducible refine (spec_l01In.calls t150 1 20000 true _ A10.out).mono ?_); rintro e w' ⟨rfl, ⟨nd, rfl⟩⟩; refine ⟨_, rfl, ?_⟩))
       go_ret3
       exact ⟨_, Z2, Z69, Z0⟩
      ·rw [if_neg c12] at H
       have c12b0 : decide ((a0.size : Int) < (wrap64 ((wrap64 (x6_1 + 7)) + t150))) = false := decide_eq_false c12
       clear c12
       obtain ⟨ji13, hji13⟩ : ∃ j_ : Int, (wrap64 (x6_1 + 7)) = j_ := ⟨_, rfl⟩
       replace H : (if 0 ≤ (ji13) then (if (ji13) ≤ (wrap64 ((ji13) + t150)) then (if (wrap64 ((ji13) + t150)) ≤ (a0.size : Int) then ((spec_l08Frame.f (a0.extract ((ji13) : Int).toNat ((wrap64 ((ji13) + t150)) : Int).toNat)).bind fun t152 => (if x6_1 ≤ (wrap64 ((ji13) + t150)) then (if t152.toList = (a0.extract (x6_1 : Int).toNat ((wrap64 ((ji13) + t150)) : Int).toNat).toList then (if x5_1.length < 8796093022208 then (spec_l08Records.l0 k1 a0 (x5_1 ++ [a0.extract ((ji13) : Int).toNat ((wrap64 ((ji13) + t150)) : Int).toNat]) (wrap64 (x6_1 + (wrap64 (7 + t150))))) else (none)) else (some (x5_1, x6_1, 8))) else (none))) else (none)) else (none)) else (none)) = some (r1, r2, r3) := by first | (rw [hji13] at H; exact H) | (simp only [hji13] at H ⊢; exact H)
       (try rw [hji13] at c5b0)
       (try rw [hji13] at c12b0)
       (try rw [hji13] at A9)
       (try rw [hji13] at A10)
       have hji13w : (IntKind.i64.wrap (x6_1 + 7)) = ji13 := (i64_w _).trans hji13
       obtain ⟨c14, H⟩ := ifS H
       have c14b0 := eq_true c14
       have c14b1 : decide (0 ≤ (ji13)) = true := decide_eq_true c14
       clear c14
       obtain ⟨c15, H⟩ := ifS H
       have c15b0 := eq_true c15
       have c15b1 : decide ((ji13) ≤ (wrap64 ((ji13) + t150))) = true := decide_eq_true c15
       obtain ⟨c16, H⟩ := ifS H
       have c16b0 := eq_true c16
       have c16b1 : decide ((wrap64 ((ji13) + t150)) ≤ (a0.size : Int)) = true := decide_eq_true c16
       obtain ⟨t152, A17, H⟩ := bindA H
       try dsimp only at H
       have c18b0 := eq_true (of_decide_eq_true (Z4) : 0 ≤ x6_1)
       obtain ⟨c19, H⟩ := ifS H
       have c19b0 := eq_true c19
       have c19b1 : decide (x6_1 ≤ (wrap64 ((ji13) + t150))) = true := decide_eq_true c19
       have c20b0 := eq_true (of_decide_eq_true (Z4) : (wrap64 ((ji13) + t150)) ≤ (a0.size : Int))
       by_cases c21 : t152.toList = (a0.extract (x6_1 : Int).toNat ((wrap64 ((ji13) + t150)) : Int).toNat).toList
       ·rw [if_pos c21] at H
        have c21b0 := beq_iff_eq.mpr c21
        have c21b1 := bne_eq_false_iff_eq.mpr c21
        clear c21
        have c22b0 := eq_true (of_decide_eq_true (Z4) : 0 ≤ (ji13))
        have c23b0 := eq_true (of_decide_eq_true (Z4) : (ji13) ≤ (wrap64 ((ji13) + t150)))
        have c24b0 := eq_true (of_decide_eq_true (Z4) : (wrap64 ((ji13) + t150)) ≤ (a0.size : Int))
        obtain ⟨c25, H⟩ := ifS H
        have LMc25 := Aside0.mk c25
        clear c25
        obtain ⟨y153, hy153⟩ : ∃ y_ : List ByteArray, y_ = (x5_1 ++ [a0.extract ((ji13) : Int).toNat ((wrap64 ((ji13) + t150)) : Int).toNat]) := ⟨_, rfl⟩
        replace H : (spec_l08Records.l0 k1 a0 y153 (wrap64 (x6_1 + (wrap64 (7 + t150))))) = some (r1, r2, r3) := by first | (rw [hy153]; with_reducible exact H) | (have H2_ := (Option.bind_some _ _).symm.trans H; rw [hy153]; with_reducible exact H2_) | (have H2_ := (Option.bind_some _ _).symm.trans H; with_reducible exact H2_) | with_reducible exact H | (rw [hy153]; exact H) | exact H
        have Ny153 := Aside0.mk hy153
        clear hy153
        have H' := Aside0.mk H
        clear H
        try go_wp2_with (first | ((with_reducible refine gate_callee (f := 29) rfl ?_); refine goesL_ (some 25) rfl rfl Try.func29 (Z24) rfl #[.string (a0.extract (x6_1 : Int).toNat ((wrap64 (x6_1 + 3)) : Int).toNat)] rfl (Z1) ?_; (with_reducible refine (spec_l08Number.calls k1 (a0.extract (x6_1 : Int).toNat ((wrap64 (x6_1 + 3)) : Int).toNat) t150 _ A9.out).mono ?_); rintro e w' ⟨rfl, ⟨nd, rfl⟩⟩; refine ⟨_, rfl, ?_⟩) | ((with_reducible refine gate_callee (f := 26) rfl ?_); refine goesL_ (some 27) rfl rfl Try.func26 (Z24) rfl #[.int .i64 t150, .int .i64 1, .int .i64 20000] rfl (Z1) ?_; (with_reducible refine (spec_l01In.calls t150 1 20000 true _ A10.out).mono ?_); rintro e w' ⟨rfl, ⟨nd, rfl⟩⟩; refine ⟨_, rfl, ?_⟩))
        (try (rw [drewN_self wr]; generalize hq_ : World.drewN wr _ = wr; have n0_ : Aside0 (Kd.R Kd.string 9 wr w.heap.size (fun _ => True) u5 x5_1) := ⟨by rw [← hq_]; exact (Z69)⟩; have n1_ : Aside0 (Below w.heap.size w wr) := ⟨Z140⟩; clear HO_5 HB hq_; have HO_5 := n0_; have HB := n1_; clear n0_ n1_))
        replace HO_5 := Aside0.mk (Kd.R_drew HO_5.out)
        replace HB := Aside0.mk (below_drew1 HB.out)
        refine start_ (n := 17) (S := fun w' => True) (ds := []) #[false, false, false, false, false, false, false, false, false, false, false, false, false, false, false, false, false] (Z24) rfl rfl trivial (fun hHeld => ?_); refine with_tabW spec_l08Records.tab11 spec_l08Records.bits11 (fun HT_ HW_ => ?_)
        generalize wr.drew = w26 at HO_5 HB hHeld ⊢
        refine pA 0 40 ?_
        refine pA 1 41 ?_
        refine pA 2 42 ?_
        refine pA 3 43 ?_
        refine pA 4 44 ?_
        refine pA 5 45 ?_
        refine pA 6 46 ?_
        refine pA 7 47 ?_
        refine pA 9 49 ?_
        refine pA 10 50 ?_
        refine pA 11 51 ?_
        refine pA 12 52 ?_
        refine pA 13 53 ?_
        refine pA 14 54 ?_
        refine pA 15 55 ?_
        refine oA 8 48 (fun K hK => ?_)
        refine goes_ Try.func30 (Z24) rfl #[.string (a0.extract ((ji13) : Int).toNat ((wrap64 ((ji13) + t150)) : Int).toNat)] (Z102) rfl rfl (Z135) ?_
        with_reducible refine (spec_l08Frame.calls (a0.extract ((ji13) : Int).toNat ((wrap64 ((ji13) + t150)) : Int).toNat) t152 _ A17.out).mono ?_
        rintro e w27 ⟨rfl, hb⟩
        refine ⟨_, rfl, ?_⟩
        replace HO_5 := Aside0.mk (Kd.R_below (Z69) hb)
        replace HB := Aside0.mk (below_step (Z0) hb)
        (try clear hb); (try clear hk)
        refine hK.out _ _ trivial (fun hHeld => ?_)
        clear hK K
        refine nB 48 ?_
        refine pA 16 56 ?_
        refine done_ (done_of HT_.out (Z24)) ?_
        try go_wp2_with (first | ((with_reducible refine gate_builtin (b := .append) (xs := #[.tmp 59, .tmp 68]) rfl ?_); at_builtin; refine Kd.R_append Kd.string (w0 := w) w.heap.size rfl (.tmp 59) (.tmp 68) 40 9 (.string ⟨#[]⟩) 16 rfl Try.underlying40 info9 rfl (Z79) (Z43) u5 x5_1 (a0.extract ((ji13) : Int).toNat ((wrap64 ((ji13) + t150)) : Int).toNat) [.string (a0.extract ((ji13) : Int).toNat ((wrap64 ((ji13) + t150)) : Int).toNat)] (fun _ => True) (fun _ => False) rfl rfl ?aP (fun _ hk => hk.elim) ?aF ?aO ?aB ?aS ?aL ?_; (case aP => exact rfl); (case aB => exact (Z0)); (case aF => exact (fun _ _ => trivial)); (case aO => exact (Z69)); (case aS => exact (below_size (Z0))); (case aL => have := LMc25.out; omega); intro v154 w28 ho hb hg hat; rw [← Ny153.out] at ho; have n0_ := Aside0.mk (hb); have n1_ := Aside0.mk (ho); clear HB; clear HO_5; have HB := n0_; have HO155 := n1_; clear n0_ n1_; clear ho hb hg hat))
        go_roundg k1
        case measure => have := HK1.out; omega
        case rel => exact ⟨(y153), (wrap64 (x6_1 + (wrap64 (7 + t150)))), (Z3), H', ⟨Z110⟩, ⟨by (with_reducible repeat (first | apply Kd.R_alloc | apply Kd.R_drewN | apply Kd.R_drew)); exact HO155.out⟩, ⟨Z0⟩⟩
       ·rw [if_neg c21] at H
        have c21b0 := beq_eq_false_iff_ne.mpr c21
        have c21b1 := bne_iff_ne.mpr c21
        simp only [Option.some.injEq, Prod.mk.injEq] at H
        obtain ⟨rfl, rfl, rfl⟩ := H
        try go_wp2_with (first | ((with_reducible refine gate_callee (f := 29) rfl ?_); refine goesL_ (some 25) rfl rfl Try.func29 (Z24) rfl #[.string (a0.extract (x6_1 : Int).toNat ((wrap64 (x6_1 + 3)) : Int).toNat)] rfl (Z1) ?_; (with_reducible refine (spec_l08Number.calls k1 (a0.extract (x6_1 : Int).toNat ((wrap64 (x6_1 + 3)) : Int).toNat) t150 _ A9.out).mono ?_); rintro e w' ⟨rfl, ⟨nd, rfl⟩⟩; refine ⟨_, rfl, ?_⟩) | ((with_reducible refine gate_callee (f := 26) rfl ?_); refine goesL_ (some 27) rfl rfl Try.func26 (Z24) rfl #[.int .i64 t150, .int .i64 1, .int .i64 20000] rfl (Z1) ?_; (with_reducible refine (spec_l01In.calls t150 1 20000 true _ A10.out).mono ?_); rintro e w' ⟨rfl, ⟨nd, rfl⟩⟩; refine ⟨_, rfl, ?_⟩))
        (try (rw [drewN_self wr]; generalize hq_ : World.drewN wr _ = wr; have n0_ : Aside0 (Kd.R Kd.string 9 wr w.heap.size (fun _ => True) u5 x5_1) := ⟨by rw [← hq_]; exact (Z69)⟩; have n1_ : Aside0 (Below w.heap.size w wr) := ⟨Z140⟩; clear HO_5 HB hq_; have HO_5 := n0_; have HB := n1_; clear n0_ n1_))
        replace HO_5 := Aside0.mk (Kd.R_drew HO_5.out)
        replace HB := Aside0.mk (below_drew1 HB.out)
        refine start_ (n := 17) (S := fun w' => True) (ds := []) #[false, false, false, false, false, false, false, false, false, false, false, false, false, false, false, false, false] (Z24) rfl rfl trivial (fun hHeld => ?_); refine with_tabW spec_l08Records.tab11 spec_l08Records.bits11 (fun HT_ HW_ => ?_)
        generalize wr.drew = w29 at HO_5 HB hHeld ⊢
        refine pA 0 40 ?_
        refine pA 1 41 ?_
        refine pA 2 42 ?_
        refine pA 3 43 ?_
        refine pA 4 44 ?_
        refine pA 5 45 ?_
        refine pA 6 46 ?_
        refine pA 7 47 ?_
        refine pA 9 49 ?_
        refine pA 10 50 ?_
        refine pA 11 51 ?_
        refine pA 12 52 ?_
        refine pA 13 53 ?_
        refine pA 14 54 ?_
        refine pA 15 55 ?_
        refine oA 8 48 (fun K hK => ?_)
        refine goes_ Try.func30 (Z24) rfl #[.string (a0.extract ((ji13) : Int).toNat ((wrap64 ((ji13) + t150)) : Int).toNat)] (Z102) rfl rfl (Z135) ?_
        with_reducible refine (spec_l08Frame.calls (a0.extract ((ji13) : Int).toNat ((wrap64 ((ji13) + t150)) : Int).toNat) t152 _ A17.out).mono ?_
        rintro e w30 ⟨rfl, hb⟩
        refine ⟨_, rfl, ?_⟩
        replace HO_5 := Aside0.mk (Kd.R_below (Z69) hb)
        replace HB := Aside0.mk (below_step (Z0) hb)
        (try clear hb); (try clear hk)
        refine hK.out _ _ trivial (fun hHeld => ?_)
        clear hK K
        refine nB 48 ?_
        refine pA 16 56 ?_
        refine done_ (done_of HT_.out (Z24)) ?_
        try go_wp2
        go_ret3
        exact ⟨_, by first | rfl | (simp only [nil_beq, nil_bne]; rfl) | (simp [nil_beq, nil_bne]; done) | (simp [errW_none, errW_some] <;> rfl) | (simp only [← hji13]; first | rfl | (simp [errW_none, errW_some] <;> rfl)) | (simp [*, errW_none, errW_some] <;> rfl), Z69, Z0⟩
     ·replace c11 := Bool.eq_false_iff.mpr c11
      subst c11
      replace H := ifF H
      simp only [Option.some.injEq, Prod.mk.injEq] at H
      obtain ⟨rfl, rfl, rfl⟩ := H
      go_wp2_with (first | ((with_reducible refine gate_callee (f := 29) rfl ?_); refine goesL_ (some 25) rfl rfl Try.func29 (Z24) rfl #[.string (a0.extract (x6_1 : Int).toNat ((wrap64 (x6_1 + 3)) : Int).toNat)] rfl (Z1) ?_; (with_reducible refine (spec_l08Number.calls k1 (a0.extract (x6_1 : Int).toNat ((wrap64 (x6_1 + 3)) : Int).toNat) t150 _ A9.out).mono ?_); rintro e w' ⟨rfl, ⟨nd, rfl⟩⟩; refine ⟨_, rfl, ?_⟩) | ((with_reducible refine gate_callee (f := 26) rfl ?_); refine goesL_ (some 27) rfl rfl Try.func26 (Z24) rfl #[.int .i64 t150, .int .i64 1, .int .i64 20000] rfl (Z1) ?_; (with_reducible refine (spec_l01In.calls t150 1 20000 false _ A10.out).mono ?_); rintro e w' ⟨rfl, ⟨nd, rfl⟩⟩; refine ⟨_, rfl, ?_⟩))
      go_ret3
      exact ⟨_, Z2, Z69, Z0⟩
   ·rw [if_neg c4] at H
    have c4b0 := decide_eq_false c4
    clear c4
    simp only [Option.some.injEq, Prod.mk.injEq] at H
    obtain ⟨rfl, rfl, rfl⟩ := H
    go_wp2
    go_ret3
    exact ⟨_, Z2, Z69, Z0⟩

end Go.Proofs.Ytbikfhccfenkdaa.PFnExactEngineOK
