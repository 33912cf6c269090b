import Derived.Test.YtifkmkiljpeaaacGreatPFnExactWorldOKxA
set_option maxHeartbeats 40000000
set_option maxRecDepth 100000
namespace Go.Proofs.YtifkmkiljpeaaacGreat.PFnExactWorldOK
open Go.RowKit Go.Proofs.YtifkmkiljpeaaacGreatW.PrintWords Go.Proofs.YtifkmkiljpeaaacGreatW.PrintLast Go.Proofs.YtifkmkiljpeaaacGreatW.PrintMore Go.Proofs.YtifkmkiljpeaaacGreat.Mac Go.Proofs.Tryz
set_option linter.unusedVariables false
set_option linter.unusedSimpArgs false
def spec_l08Number.l0 : Nat → ByteArray → Int → Int → Option (Int)
 | 0, _, _, _ => none
 | k + 1, x0, x3, x4 => if x4 < (x0.size : Int) then (if 0 ≤ x4 then (spec_l08Number.l0 k x0 (wrap64 ((wrap64 (x3 * 256)) + (wrap64 (bt x0 x4)))) (wrap64 (x4 + 1))) else (none)) else (some x3)
def spec_l08Number.f (k : Nat) (a0 : ByteArray) : Option (Int) := spec_l08Number.l0 k a0 0 0
theorem spec_l08Number.calls (k : Nat) (a0 : ByteArray) (r : Int) (w : World) (h : spec_l08Number.f k a0 = some r) :
  Calls prog 52 #[.string a0] w fun e w' => e = .returned (.int .i64 r) ∧ Drawn0 w w' := by
 have H := h
 clear h
 unfold spec_l08Number.f at H
 have H' := aM H
 clear H
 go_enter func52, ntmps52
 go_wp2
 go_loopg [3, 4] k (fun kq I J w' => ∃ (y : Int) (s : Int), I = .int .i64 y ∧ J = .int .i64 s ∧ Aside0 (spec_l08Number.l0 kq a0 y s = some r) ∧ Aside0 (kq ≤ k) ∧ Drawn0 w w')
 case atStart => exact ⟨(0), (0), (Z3), (Z3), H', ⟨Nat.le_refl _⟩, Z9⟩
 case round =>
  clear H'
  obtain ⟨y, s, rfl, rfl, HA, HK1, ⟨m1, rfl⟩⟩ := hrel
  cases gk with
  | zero => exact absurd HA.out (by simp [spec_l08Number.l0])
  | succ M =>
   have H := HA.out
   clear HA
   simp only [spec_l08Number.l0] at H
   by_cases c2 : s < (a0.size : Int)
   ·rw [if_pos c2] at H
    have O := decide_eq_true c2
    clear c2
    obtain ⟨c3, H⟩ := ifS H
    have U := decide_eq_true c3
    clear c3
    have H' := aM H
    clear H
    have p4 : 0 ≤ (s : Int) := of_decide_eq_true (Z4)
    have D : s < (a0.size : Int) := of_decide_eq_true (Z4)
    have X := bt_at a0 s
    replace p4 := eq_true p4
    replace D := eq_true D
    go_wp2
    go_roundg M
    case measure => have := HK1.out; omega
    case rel => exact ⟨(wrap64 ((wrap64 (y * 256)) + (wrap64 (bt a0 s)))), (wrap64 (s + 1)), (Z3), (Z3), H', ⟨Z125⟩, Z9⟩
   ·rw [if_neg c2] at H
    have O := decide_eq_false c2
    clear c2
    obtain rfl := oI H
    go_wp2
    go_ret
    exact ⟨Z3, Z9⟩
def spec_l08Frame.f (a0 : ByteArray) : Option ByteArray := if a0.size ≤ 65000 then some (bs (frameL a0.data.toList)) else none
theorem spec_l08Frame.calls (a0 r : ByteArray) (w : World) (h : spec_l08Frame.f a0 = some r) :
  Calls prog 53 #[.string a0] w fun e w' => e = .returned (.string r) ∧ Below w.heap.size w w' := by
 unfold spec_l08Frame.f at h
 split at h
 ·injection h with h
  subst h
  have := s_l08Frame a0.data.toList w (by rw [← bs_size, bs_of]; omega)
  rwa [bs_of] at this
 ·cases h
def spec_l08Records.l0 : Nat → ByteArray → List ByteArray → Int → Option (List ByteArray × Int × Int)
 | 0, _, _, _ => none
 | k + 1, x0, x5, x6 => if x6 < (x0.size : Int) then (if (wrap64 (x6 + 7)) > (x0.size : Int) then (some (x5, x6, 18)) else (if 0 ≤ x6 then (if x6 ≤ (wrap64 (x6 + 3)) then (if (wrap64 (x6 + 3)) ≤ (x0.size : Int) then ((spec_l08Number.f k (x0.extract (x6 : Int).toNat ((wrap64 (x6 + 3)) : Int).toNat)).bind fun s => ((spec_l01In.f s 1 20000).bind fun y => (if y = true then (if (wrap64 ((wrap64 (x6 + 7)) + s)) > (x0.size : Int) then (some (x5, x6, 18)) else (if 0 ≤ (wrap64 (x6 + 7)) then (if (wrap64 (x6 + 7)) ≤ (wrap64 ((wrap64 (x6 + 7)) + s)) then (if (wrap64 ((wrap64 (x6 + 7)) + s)) ≤ (x0.size : Int) then ((spec_l08Frame.f (x0.extract ((wrap64 (x6 + 7)) : Int).toNat ((wrap64 ((wrap64 (x6 + 7)) + s)) : Int).toNat)).bind fun D => (if x6 ≤ (wrap64 ((wrap64 (x6 + 7)) + s)) then (if D.toList = (x0.extract (x6 : Int).toNat ((wrap64 ((wrap64 (x6 + 7)) + s)) : Int).toNat).toList then (if x5.length < 8796093022208 then (spec_l08Records.l0 k x0 (x5 ++ [x0.extract ((wrap64 (x6 + 7)) : Int).toNat ((wrap64 ((wrap64 (x6 + 7)) + s)) : Int).toNat]) (wrap64 (x6 + (wrap64 (7 + s))))) else (none)) else (some (x5, x6, 8))) else (none))) else (none)) else (none)) else (none))) else (some (x5, x6, 8))))) else (none)) else (none)) else (none))) else (some (x5, x6, 0))
def spec_l08Records.f (k : Nat) (a0 : ByteArray) : Option (List ByteArray × Int × Int) := spec_l08Records.l0 k a0 (([] : List ByteArray)) 0
def spec_l08Records.T11 : Bool × List (List Nat × List Nat) := (true, [([], []), ([], []), ([1], [1]), ([], []), ([3], [3]), ([], []), ([4, 5], [4, 5]), ([0, 2, 6], [0, 2, 6]), ([7], [7]), ([], []), ([], []), ([], []), ([11], [11]), ([], []), ([12, 13], [12, 13]), ([9, 10, 14], [9, 10, 14]), ([8, 15], [8, 15])])
def spec_l08Records.B11 : List Nat := [0, 0, 2, 0, 8, 0, 56, 127, 255, 0, 0, 0, 2048, 0, 14336, 32256, 65535]
theorem spec_l08Records.tab11 : rtab .any (opsOf Tryz.f26 11) = spec_l08Records.T11 := by kernel_rfl
theorem spec_l08Records.bits11 : waitsOk spec_l08Records.T11.2 spec_l08Records.B11 = true := by kernel_rfl
theorem spec_l08Records.calls (k : Nat) (a0 : ByteArray) (M : List ByteArray) (O : Int) (U : Int) (w : World) (h : spec_l08Records.f k a0 = some (M, O, U)) :
  Calls prog 26 #[.string a0] w fun e w' => ∃ v0_ : Value, e = .returned (.tuple #[v0_, .int .i64 O, .int .i64 U]) ∧ Kd.R Kd.string 9 w' w.heap.size (fun _ => True) v0_ M ∧ Below w.heap.size w w' := by
 have HB := aM (Below.refl w.heap.size w)
 have H := h
 clear h
 unfold spec_l08Records.f at H
 obtain ⟨aI, Y⟩ : ∃ y_ : List ByteArray, y_ = (([] : List ByteArray)) := ⟨_, rfl⟩
 replace H : (spec_l08Records.l0 k a0 aI 0) = some (M, O, U) := by first | (rw [Y]; with_reducible exact H) | (have H2_ := (Option.bind_some _ _).symm.trans H; rw [Y]; with_reducible exact H2_) | (have H2_ := (Option.bind_some _ _).symm.trans H; with_reducible exact H2_) | with_reducible exact H | (rw [Y]; exact H) | exact H
 have aJ := aM Y
 clear Y
 have H' := aM H
 clear H
 go_enter func26, ntmps26
 go_wp2_with (first | ((with_reducible refine gD 8 ?_); refine Kd.R_lit Kd.string _ 9 ?hg (N := 8) ?hd (xs := ([] : List ByteArray)) (inner := []) (ok := fun _ => True) (okp := fun _ => True) ?hr ?hp (fun _ hk => hk) trivial (Below.refl _ _) (Nat.le_refl _) (Z174) ?_; (case hd => rfl); (case hg => rfl); (case hr => first | (go_simp; done) | (go_simp; rfl)); (case hp => exact (Reps.none _ _)); intro bA w2 Z hb hg_ hnew_; clear hg_ hnew_; (first | rw [← aJ.out] at Z | (simp only [Int.reduceToNat] at Z; rw [← aJ.out] at Z)); have aX := aM (Kd.R_lower Z (below_size (Z0))); replace HB := aM (below_step (Z0) hb); clear hb Z))
 go_loopg [5, 6] k (fun kq v5 v6 w' => ∃ (x5_1 : List ByteArray) (s : Int), v6 = .int .i64 s ∧ Aside0 (spec_l08Records.l0 kq a0 x5_1 s = some (M, O, U)) ∧ Aside0 (kq ≤ k) ∧ Aside0 (Kd.R Kd.string 9 w' w.heap.size (fun _ => True) v5 x5_1) ∧ Aside0 (Below w.heap.size w w'))
 case atStart => exact ⟨(aI), (0), (Z3), H', ⟨Nat.le_refl _⟩, ⟨by (with_reducible repeat (first | apply Kd.R_alloc | apply Kd.R_drewN | apply Kd.R_drew)); exact aX.out⟩, ⟨Z0⟩⟩
 case round =>
  clear H'
  obtain ⟨x5_1, s, rfl, HA, HK1, HO_5, HB⟩ := hrel
  cases gk with
  | zero => exact absurd HA.out (by simp [spec_l08Records.l0])
  | succ I =>
   have H := HA.out
   clear HA
   simp only [spec_l08Records.l0] at H
   by_cases c4 : s < (a0.size : Int)
   ·rw [if_pos c4] at H
    have a2 := decide_eq_true c4
    clear c4
    by_cases c5 : (wrap64 (s + 7)) > (a0.size : Int)
    ·rw [if_pos c5] at H
     have aK : decide ((a0.size : Int) < (wrap64 (s + 7))) = true := decide_eq_true c5
     clear c5
     simp only [Option.some.injEq, Prod.mk.injEq] at H
     obtain ⟨rfl, rfl, rfl⟩ := H
     go_wp2
     go_ret3
     exact ⟨_, Z1, Z100, Z0⟩
    ·rw [if_neg c5] at H
     have aK : decide ((a0.size : Int) < (wrap64 (s + 7))) = false := decide_eq_false c5
     clear c5
     obtain ⟨c6, H⟩ := ifS H
     have bB := eq_true c6
     have bC : decide (0 ≤ s) = true := decide_eq_true c6
     clear c6
     obtain ⟨c7, H⟩ := ifS H
     have bD := eq_true c7
     have bE : decide (s ≤ (wrap64 (s + 3))) = true := decide_eq_true c7
     obtain ⟨c8, H⟩ := ifS H
     have bF := eq_true c8
     have bG : decide ((wrap64 (s + 3)) ≤ (a0.size : Int)) = true := decide_eq_true c8
     obtain ⟨y, A9, H⟩ := bindA H
     try dsimp only at H
     obtain ⟨a3, aC, H⟩ := bindA H
     try dsimp only at H
     by_cases aG : a3 = true
     ·subst aG
      replace H := ifT H
      by_cases X : (wrap64 ((wrap64 (s + 7)) + y)) > (a0.size : Int)
      ·rw [if_pos X] at H
       have aN : decide ((a0.size : Int) < (wrap64 ((wrap64 (s + 7)) + y))) = true := decide_eq_true X
       clear X
       simp only [Option.some.injEq, Prod.mk.injEq] at H
       obtain ⟨rfl, rfl, rfl⟩ := H
       go_wp2_with (first | ((with_reducible refine gC 52 ?_); refine gL 25 func52 #[.string (a0.extract (s : Int).toNat ((wrap64 (s + 3)) : Int).toNat)] ?_; (with_reducible refine (spec_l08Number.calls I (a0.extract (s : Int).toNat ((wrap64 (s + 3)) : Int).toNat) y _ A9.out).mono ?_); rintro e w' ⟨rfl, ⟨nd, rfl⟩⟩; refine ⟨_, rfl, ?_⟩) | ((with_reducible refine gC 50 ?_); refine gL 27 func50 #[.int .i64 y, .int .i64 1, .int .i64 20000] ?_; (with_reducible refine (spec_l01In.calls y 1 20000 true _ aC.out).mono ?_); rintro e w' ⟨rfl, ⟨nd, rfl⟩⟩; refine ⟨_, rfl, ?_⟩))
       go_ret3
       exact ⟨_, Z1, Z100, Z0⟩
      ·rw [if_neg X] at H
       have aN : decide ((a0.size : Int) < (wrap64 ((wrap64 (s + 7)) + y))) = false := decide_eq_false X
       clear X
       obtain ⟨D, hji13⟩ : ∃ j_ : Int, (wrap64 (s + 7)) = j_ := ⟨_, rfl⟩
       replace H : (if 0 ≤ (D) then (if (D) ≤ (wrap64 ((D) + y)) then (if (wrap64 ((D) + y)) ≤ (a0.size : Int) then ((spec_l08Frame.f (a0.extract ((D) : Int).toNat ((wrap64 ((D) + y)) : Int).toNat)).bind fun aD => (if s ≤ (wrap64 ((D) + y)) then (if aD.toList = (a0.extract (s : Int).toNat ((wrap64 ((D) + y)) : Int).toNat).toList then (if x5_1.length < 8796093022208 then (spec_l08Records.l0 I a0 (x5_1 ++ [a0.extract ((D) : Int).toNat ((wrap64 ((D) + y)) : Int).toNat]) (wrap64 (s + (wrap64 (7 + y))))) else (none)) else (some (x5_1, s, 8))) else (none))) else (none)) else (none)) else (none)) = some (M, O, U) := by first | (rw [hji13] at H; exact H) | (simp only [hji13] at H ⊢; exact H)
       (try rw [hji13] at aK)
       (try rw [hji13] at aN)
       (try rw [hji13] at A9)
       (try rw [hji13] at aC)
       have hji13w : (IntKind.i64.wrap (s + 7)) = D := (i64_w _).trans hji13
       obtain ⟨aH, H⟩ := ifS H
       have bH := eq_true aH
       have bI : decide (0 ≤ (D)) = true := decide_eq_true aH
       clear aH
       obtain ⟨aQ, H⟩ := ifS H
       have bJ := eq_true aQ
       have bK : decide ((D) ≤ (wrap64 ((D) + y))) = true := decide_eq_true aQ
       obtain ⟨aR, H⟩ := ifS H
       have bL := eq_true aR
       have bM : decide ((wrap64 ((D) + y)) ≤ (a0.size : Int)) = true := decide_eq_true aR
       obtain ⟨aD, aT, H⟩ := bindA H
       try dsimp only at H
       have bN := eq_true (of_decide_eq_true (Z4) : 0 ≤ s)
       obtain ⟨aU, H⟩ := ifS H
       have bO := eq_true aU
       have bP : decide (s ≤ (wrap64 ((D) + y))) = true := decide_eq_true aU
       have bQ := eq_true (of_decide_eq_true (Z4) : (wrap64 ((D) + y)) ≤ (a0.size : Int))
       by_cases J : aD.toList = (a0.extract (s : Int).toNat ((wrap64 ((D) + y)) : Int).toNat).toList
       ·rw [if_pos J] at H
        have a5 := beq_iff_eq.mpr J
        have a6 := bne_eq_false_iff_eq.mpr J
        clear J
        have bR := eq_true (of_decide_eq_true (Z4) : 0 ≤ (D))
        have bS := eq_true (of_decide_eq_true (Z4) : (D) ≤ (wrap64 ((D) + y)))
        have bT := eq_true (of_decide_eq_true (Z4) : (wrap64 ((D) + y)) ≤ (a0.size : Int))
        obtain ⟨aV, H⟩ := ifS H
        have a7 := aM aV
        clear aV
        obtain ⟨aW, aE⟩ : ∃ y_ : List ByteArray, y_ = (x5_1 ++ [a0.extract ((D) : Int).toNat ((wrap64 ((D) + y)) : Int).toNat]) := ⟨_, rfl⟩
        replace H : (spec_l08Records.l0 I a0 aW (wrap64 (s + (wrap64 (7 + y))))) = some (M, O, U) := by first | (rw [aE]; with_reducible exact H) | (have H2_ := (Option.bind_some _ _).symm.trans H; rw [aE]; with_reducible exact H2_) | (have H2_ := (Option.bind_some _ _).symm.trans H; with_reducible exact H2_) | with_reducible exact H | (rw [aE]; exact H) | exact H
        have a8 := aM aE
        clear aE
        have H' := aM H
        clear H
        try go_wp2_with (first | ((with_reducible refine gC 52 ?_); refine gL 25 func52 #[.string (a0.extract (s : Int).toNat ((wrap64 (s + 3)) : Int).toNat)] ?_; (with_reducible refine (spec_l08Number.calls I (a0.extract (s : Int).toNat ((wrap64 (s + 3)) : Int).toNat) y _ A9.out).mono ?_); rintro e w' ⟨rfl, ⟨nd, rfl⟩⟩; refine ⟨_, rfl, ?_⟩) | ((with_reducible refine gC 50 ?_); refine gL 27 func50 #[.int .i64 y, .int .i64 1, .int .i64 20000] ?_; (with_reducible refine (spec_l01In.calls y 1 20000 true _ aC.out).mono ?_); rintro e w' ⟨rfl, ⟨nd, rfl⟩⟩; refine ⟨_, rfl, ?_⟩))
        (try (rw [drewN_self wr]; generalize hq_ : World.drewN wr _ = wr; have n0_ : Aside0 (Kd.R Kd.string 9 wr w.heap.size (fun _ => True) u5 x5_1) := ⟨by rw [← hq_]; exact (Z100)⟩; have n1_ : Aside0 (Below w.heap.size w wr) := ⟨Z201⟩; clear HO_5 HB hq_; have HO_5 := n0_; have HB := n1_; clear n0_ n1_))
        replace HO_5 := aM (Kd.R_drew HO_5.out)
        replace HB := aM (below_drew1 HB.out)
        refine start_ (n := 17) (S := fun w' => True) (ds := []) #[false, false, false, false, false, false, false, false, false, false, false, false, false, false, false, false, false] (Z18) rfl rfl trivial (fun hHeld => ?_); refine with_tabW spec_l08Records.tab11 spec_l08Records.bits11 (fun HT_ HW_ => ?_)
        generalize wr.drew = bU at HO_5 HB hHeld ⊢
        refine pA 0 40 ?_
        refine pA 1 41 ?_
        refine pA 2 42 ?_
        refine pA 3 43 ?_
        refine pA 4 44 ?_
        refine pA 5 45 ?_
        refine pA 6 46 ?_
        refine pA 7 47 ?_
        refine pA 9 49 ?_
        refine pA 10 50 ?_
        refine pA 11 51 ?_
        refine pA 12 52 ?_
        refine pA 13 53 ?_
        refine pA 14 54 ?_
        refine pA 15 55 ?_
        refine oA 8 48 (fun K hK => ?_)
        refine goes_ func53 (Z18) rfl #[.string (a0.extract ((D) : Int).toNat ((wrap64 ((D) + y)) : Int).toNat)] (Z117) rfl rfl (Z195) ?_
        with_reducible refine (spec_l08Frame.calls (a0.extract ((D) : Int).toNat ((wrap64 ((D) + y)) : Int).toNat) aD _ aT.out).mono ?_
        rintro e bV ⟨rfl, hb⟩
        refine ⟨_, rfl, ?_⟩
        replace HO_5 := aM (Kd.R_below (Z100) hb)
        replace HB := aM (below_step (Z0) hb)
        (try clear hb); (try clear hk)
        refine hK.out _ _ trivial (fun hHeld => ?_)
        clear hK K
        refine nB 48 ?_
        refine pA 16 56 ?_
        refine done_ (done_of HT_.out (Z18)) ?_
        try go_wp2_with (first | ((with_reducible refine gate_builtin (b := .append) (xs := #[.tmp 59, .tmp 68]) rfl ?_); at_builtin; refine Kd.R_append Kd.string (w0 := w) w.heap.size rfl (.tmp 59) (.tmp 68) 69 9 (.string ⟨#[]⟩) 16 rfl underlying69 info9 rfl (Z101) (Z42) u5 x5_1 (a0.extract ((D) : Int).toNat ((wrap64 ((D) + y)) : Int).toNat) [.string (a0.extract ((D) : Int).toNat ((wrap64 ((D) + y)) : Int).toNat)] (fun _ => True) (fun _ => False) rfl rfl ?aP (fun _ hk => hk.elim) ?aF ?aO ?aB ?aS ?aL ?_; (case aP => exact rfl); (case aB => exact (Z0)); (case aF => exact (fun _ _ => trivial)); (case aO => exact (Z100)); (case aS => exact (below_size (Z0))); (case aL => have := a7.out; omega); intro bW bX ho hb hg hat; rw [← a8.out] at ho; have n0_ := aM (hb); have n1_ := aM (ho); clear HB; clear HO_5; have HB := n0_; have a9 := n1_; clear n0_ n1_; clear ho hb hg hat))
        go_roundg I
        case measure => have := HK1.out; omega
        case rel => exact ⟨(aW), (wrap64 (s + (wrap64 (7 + y)))), (Z3), H', ⟨Z125⟩, ⟨by (with_reducible repeat (first | apply Kd.R_alloc | apply Kd.R_drewN | apply Kd.R_drew)); exact a9.out⟩, ⟨Z0⟩⟩
       ·rw [if_neg J] at H
        have a5 := beq_eq_false_iff_ne.mpr J
        have a6 := bne_iff_ne.mpr J
        simp only [Option.some.injEq, Prod.mk.injEq] at H
        obtain ⟨rfl, rfl, rfl⟩ := H
        try go_wp2_with (first | ((with_reducible refine gC 52 ?_); refine gL 25 func52 #[.string (a0.extract (s : Int).toNat ((wrap64 (s + 3)) : Int).toNat)] ?_; (with_reducible refine (spec_l08Number.calls I (a0.extract (s : Int).toNat ((wrap64 (s + 3)) : Int).toNat) y _ A9.out).mono ?_); rintro e w' ⟨rfl, ⟨nd, rfl⟩⟩; refine ⟨_, rfl, ?_⟩) | ((with_reducible refine gC 50 ?_); refine gL 27 func50 #[.int .i64 y, .int .i64 1, .int .i64 20000] ?_; (with_reducible refine (spec_l01In.calls y 1 20000 true _ aC.out).mono ?_); rintro e w' ⟨rfl, ⟨nd, rfl⟩⟩; refine ⟨_, rfl, ?_⟩))
        (try (rw [drewN_self wr]; generalize hq_ : World.drewN wr _ = wr; have n0_ : Aside0 (Kd.R Kd.string 9 wr w.heap.size (fun _ => True) u5 x5_1) := ⟨by rw [← hq_]; exact (Z100)⟩; have n1_ : Aside0 (Below w.heap.size w wr) := ⟨Z201⟩; clear HO_5 HB hq_; have HO_5 := n0_; have HB := n1_; clear n0_ n1_))
        replace HO_5 := aM (Kd.R_drew HO_5.out)
        replace HB := aM (below_drew1 HB.out)
        refine start_ (n := 17) (S := fun w' => True) (ds := []) #[false, false, false, false, false, false, false, false, false, false, false, false, false, false, false, false, false] (Z18) rfl rfl trivial (fun hHeld => ?_); refine with_tabW spec_l08Records.tab11 spec_l08Records.bits11 (fun HT_ HW_ => ?_)
        generalize wr.drew = bY at HO_5 HB hHeld ⊢
        refine pA 0 40 ?_
        refine pA 1 41 ?_
        refine pA 2 42 ?_
        refine pA 3 43 ?_
        refine pA 4 44 ?_
        refine pA 5 45 ?_
        refine pA 6 46 ?_
        refine pA 7 47 ?_
        refine pA 9 49 ?_
        refine pA 10 50 ?_
        refine pA 11 51 ?_
        refine pA 12 52 ?_
        refine pA 13 53 ?_
        refine pA 14 54 ?_
        refine pA 15 55 ?_
        refine oA 8 48 (fun K hK => ?_)
        refine goes_ func53 (Z18) rfl #[.string (a0.extract ((D) : Int).toNat ((wrap64 ((D) + y)) : Int).toNat)] (Z117) rfl rfl (Z195) ?_
        with_reducible refine (spec_l08Frame.calls (a0.extract ((D) : Int).toNat ((wrap64 ((D) + y)) : Int).toNat) aD _ aT.out).mono ?_
        rintro e bZ ⟨rfl, hb⟩
        refine ⟨_, rfl, ?_⟩
        replace HO_5 := aM (Kd.R_below (Z100) hb)
        replace HB := aM (below_step (Z0) hb)
        (try clear hb); (try clear hk)
        refine hK.out _ _ trivial (fun hHeld => ?_)
        clear hK K
        refine nB 48 ?_
        refine pA 16 56 ?_
        refine done_ (done_of HT_.out (Z18)) ?_
        try go_wp2
        go_ret3
        exact ⟨_, by first | rfl | (simp only [nil_beq, nil_bne]; rfl) | (simp [nil_beq, nil_bne]; done) | (simp [errW_none, errW_some] <;> rfl) | (simp only [← hji13]; first | rfl | (simp [errW_none, errW_some] <;> rfl)) | (simp [*, errW_none, errW_some] <;> rfl), Z100, Z0⟩
     ·replace aG := Bool.eq_false_iff.mpr aG
      subst aG
      replace H := ifF H
      simp only [Option.some.injEq, Prod.mk.injEq] at H
      obtain ⟨rfl, rfl, rfl⟩ := H
      go_wp2_with (first | ((with_reducible refine gC 52 ?_); refine gL 25 func52 #[.string (a0.extract (s : Int).toNat ((wrap64 (s + 3)) : Int).toNat)] ?_; (with_reducible refine (spec_l08Number.calls I (a0.extract (s : Int).toNat ((wrap64 (s + 3)) : Int).toNat) y _ A9.out).mono ?_); rintro e w' ⟨rfl, ⟨nd, rfl⟩⟩; refine ⟨_, rfl, ?_⟩) | ((with_reducible refine gC 50 ?_); refine gL 27 func50 #[.int .i64 y, .int .i64 1, .int .i64 20000] ?_; (with_reducible refine (spec_l01In.calls y 1 20000 false _ aC.out).mono ?_); rintro e w' ⟨rfl, ⟨nd, rfl⟩⟩; refine ⟨_, rfl, ?_⟩))
      go_ret3
      exact ⟨_, Z1, Z100, Z0⟩
   ·rw [if_neg c4] at H
    have a2 := decide_eq_false c4
    clear c4
    simp only [Option.some.injEq, Prod.mk.injEq] at H
    obtain ⟨rfl, rfl, rfl⟩ := H
    go_wp2
    go_ret3
    exact ⟨_, Z1, Z100, Z0⟩
mutual
def spec_MutationOK.j0 : Nat → Bool → Int → Int → Int → Int → ByteArray → List (S130) → Option (Bool)
 | 0, _, _, _, _, _, _, _ => none
 | k + 1, s, y, D, I, J, M, O => if s = true then (some false) else (spec_MutationOK.l0 k 0 y D I J M O)
def spec_MutationOK.l0 : Nat → Int → Int → Int → Int → Int → ByteArray → List (S130) → Option (Bool)
 | 0, _, _, _, _, _, _, _ => none
 | k + 1, x3, s, D, I, J, M, y => if x3 < (y.length : Int) then (if 0 ≤ x3 then ((spec_l01In.f (((rd_T130 y x3).f0).size : Int) 1 200).bind fun O => (if O = true then (if (((rd_T130 y x3).f1).size : Int) > 4000 then (some false) else (spec_MutationOK.l0 k (wrap64 (x3 + 1)) s D I J M y)) else (some false))) else (none)) else (if s = 1 then (spec_MutationOK.j2 k s (s == 1) s D I J M y) else (spec_MutationOK.j2 k s (s == 4) s D I J M y))
def spec_MutationOK.j2 : Nat → Int → Bool → Int → Int → Int → Int → ByteArray → List (S130) → Option (Bool)
 | 0, _, _, _, _, _, _, _, _ => none
 | k + 1, J, M, Y, s, y, D, Z, I => if M = true then (if s = 0 then (if y = 0 then (if D = 0 then (some ((I.length : Int) == 0)) else (some false)) else (some false)) else (some false)) else (if J = 2 then (if s = 0 then (if y = 0 then (if D = 0 then (some (decide ((I.length : Int) > 0))) else (some false)) else (some false)) else (some false)) else (if J = 3 then ((spec_l01In.f s 1 1000).bind fun O => (if O = true then ((spec_l01In.f y 1 3).bind fun U => (if U = true then ((spec_l01In.f D 0 31).bind fun X => (if X = true then (some ((I.length : Int) == 0)) else (some false))) else (some false))) else (some false))) else (some false)))
end
def spec_MutationOK.f (k : Nat) (D : Int) (I : Int) (J : Int) (M : Int) (s : ByteArray) (y : List (S130)) : Option (Bool) := (spec_NameOK.f k s).bind fun O => (if O = true then (spec_MutationOK.j0 k (decide ((y.length : Int) > 20)) D I J M s y) else (spec_MutationOK.j0 k true D I J M s y))
theorem spec_MutationOK.calls (k : Nat) (D : Int) (y : Int) (I : Int) (J : Int) (M : ByteArray) (aL : Option Addr) (aN : Nat) (s : List (S130)) (r : Bool) (w : World) (Z : Kd.C k130 w aL s.length s) (bD : s.length ≤ aN) (h : spec_MutationOK.f k D y I J M s = some r) :
  Calls prog 85 #[.agg #[.int .i64 D, .int .i64 y, .int .i64 I, .int .i64 J, .string M, .slice aL s.length aN]] w fun e w' => e = .returned (.bool r) ∧ Below w.heap.size w w' := by
 have cD := underlying103
 replace Z := aM Z
 replace bD := aM bD
 have HB := aM (Below.refl w.heap.size w)
 have H := h
 clear h
 unfold spec_MutationOK.f at H
 have a5 := aM H
 clear H
 go_enter func85, ntmps85
 go_upto_region 1 with (first | ((with_reducible refine gD 1 ?_); (try (refine gate_guard (Z117) ?_; dsimp only)); refine bxF w 1 #[.int .i64 D, .int .i64 y, .int .i64 I, .int .i64 J, .string M, .slice aL s.length aN] 103 (Z0) ?_; intro a6 hg w3 BK167 cG GE167 HB hb; clear hb hg))
 (try simp only [Act.put, List.setIfInBounds_toArray, List.set_cons_zero, List.set_cons_succ])
 go_cut [13] (fun bJ wc => ∃ (kq : Nat) (aT : Bool), bJ = .bool aT ∧ Aside0 (spec_MutationOK.j0 kq aT D y I J M s = some r) ∧ Aside0 (kq ≤ k) ∧ Aside0 (wc.heap[a6]? = some (.cells #[.int .i64 D, .int .i64 y, .int .i64 I, .int .i64 J, .string M, (.slice aL s.length aN)] 103 (0, 0))) ∧ Aside0 (Below w.heap.size w wc))
 case first =>
  have H := a5.out
  clear a5
  obtain ⟨bK, A4, H⟩ := bindA H
  try dsimp only at H
  by_cases c5 : bK = true
  ·subst c5
   replace H := ifT H
   have H' := aM H
   clear H
   refine bD6 BK167 ?_
   intros
   go_wp2_with (first | ((with_reducible refine gC 57 ?_); refine gL 6 func57 #[.string M] ?_; (with_reducible refine (spec_NameOK.calls k M true _ A4.out).mono ?_); rintro e w' ⟨rfl, ⟨nd, rfl⟩⟩; refine ⟨_, rfl, ?_⟩))
   go_meet
   case rel => exact ⟨_, (decide ((s.length : Int) > 20)), (Z3), H', ⟨Z84⟩, ⟨Z127⟩, ⟨Z24⟩⟩
  ·replace c5 := Bool.eq_false_iff.mpr c5
   subst c5
   replace H := ifF H
   have H' := aM H
   clear H
   refine bD6 BK167 ?_
   intros
   go_wp2_with (first | ((with_reducible refine gC 57 ?_); refine gL 6 func57 #[.string M] ?_; (with_reducible refine (spec_NameOK.calls k M false _ A4.out).mono ?_); rintro e w' ⟨rfl, ⟨nd, rfl⟩⟩; refine ⟨_, rfl, ?_⟩))
   go_meet
   case rel => exact ⟨_, (true), (Z3), H', ⟨Z84⟩, ⟨Z127⟩, ⟨Z24⟩⟩
 case rest =>
  clear a5
  obtain ⟨kq, aT, rfl, HA, HJ1, BK167, HB⟩ := hcut
  cases kq with
  | zero => exact absurd HA.out (by simp [spec_MutationOK.j0])
  | succ bF =>
   have H := HA.out
   clear HA
   simp only [spec_MutationOK.j0] at H
   by_cases c8 : aT = true
   ·subst c8
    replace H := ifT H
    obtain rfl := oI H
    go_wp2
    go_ret
    exact ⟨Z1, Z24⟩
   ·replace c8 := Bool.eq_false_iff.mpr c8
    subst c8
    replace H := ifF H
    have H' := aM H
    clear H
    go_wp2
    go_loopg [3] bF (fun kq v3 w' => ∃ (x3_2 : Int), v3 = .int .i64 x3_2 ∧ Aside0 (spec_MutationOK.l0 kq x3_2 D y I J M s = some r) ∧ Aside0 (kq ≤ bF) ∧ Aside0 (w'.heap[a6]? = some (.cells #[.int .i64 D, .int .i64 y, .int .i64 I, .int .i64 J, .string M, (.slice aL s.length aN)] 103 (0, 0))) ∧ Aside0 (Below w.heap.size w w'))
    case atStart => exact ⟨(0), (Z3), H', ⟨Nat.le_refl _⟩, ⟨Z127⟩, ⟨Z24⟩⟩
    case round =>
     clear H'
     (try clear c8)
     obtain ⟨x3_2, rfl, HA, HK2, BK167, HB⟩ := hrel
     cases gk with
     | zero => exact absurd HA.out (by simp [spec_MutationOK.l0])
     | succ k2 =>
      have H := HA.out
      clear HA
      simp only [spec_MutationOK.l0] at H
      by_cases c9 : x3_2 < (s.length : Int)
      ·rw [if_pos c9] at H
       have bH := decide_eq_true c9
       clear c9
       obtain ⟨c10, H⟩ := ifS H
       have cH := decide_eq_true c10
       clear c10
       obtain ⟨bM, a7, H⟩ := bindA H
       try dsimp only at H
       by_cases aU : bM = true
       ·subst aU
        replace H := ifT H
        by_cases aO : (((rd_T130 s x3_2).f1).size : Int) > 4000
        ·rw [if_pos aO] at H
         have bN : decide (4000 < (((rd_T130 s x3_2).f1).size : Int)) = true := decide_eq_true aO
         have bO : decide (4000 < ((rd_T130 s x3_2).f1).size) = true := decide_eq_true (Z42)
         clear aO
         obtain rfl := oI H
         refine bD6 BK167 ?_
         intros
         have O : 0 ≤ (x3_2 : Int) := of_decide_eq_true (Z4)
         have U : x3_2 < (s.length : Int) := of_decide_eq_true (Z4)
         obtain ⟨aV, aP, X, Y⟩ := at_T130 Z.out x3_2 O U
         cases aP
         replace X := cB HB.out X
         replace Y := cB HB.out Y
         replace O := eq_true O
         replace U := eq_true U
         go_wp2_with (first | ((with_reducible refine gC 50 ?_); refine gL 28 func50 #[.int .i64 (((rd_T130 s x3_2).f0).size : Int), .int .i64 1, .int .i64 200] ?_; (with_reducible refine (spec_l01In.calls (((rd_T130 s x3_2).f0).size : Int) 1 200 true _ a7.out).mono ?_); rintro e w' ⟨rfl, ⟨nd, rfl⟩⟩; refine ⟨_, rfl, ?_⟩; have aA : 0 ≤ (x3_2 : Int) := of_decide_eq_true (Z4); have aB : x3_2 < (s.length : Int) := of_decide_eq_true (Z4); obtain ⟨a8, a9, aQ, aR⟩ := at_T130 Z.out x3_2 aA aB; obtain rfl : aV = a8 := (by injection a9); replace aQ := cB HB.out aQ; replace aR := cB HB.out aR; replace aA := eq_true aA; replace aB := eq_true aB))
         go_ret
         exact ⟨Z1, Z24⟩
        ·rw [if_neg aO] at H
         have bN : decide (4000 < (((rd_T130 s x3_2).f1).size : Int)) = false := decide_eq_false aO
         have bO : decide (4000 < ((rd_T130 s x3_2).f1).size) = false := decide_eq_false (Z42)
         clear aO
         have H' := aM H
         clear H
         refine bD6 BK167 ?_
         intros
         have O : 0 ≤ (x3_2 : Int) := of_decide_eq_true (Z4)
         have U : x3_2 < (s.length : Int) := of_decide_eq_true (Z4)
         obtain ⟨aV, aP, X, Y⟩ := at_T130 Z.out x3_2 O U
         cases aP
         replace X := cB HB.out X
         replace Y := cB HB.out Y
         replace O := eq_true O
         replace U := eq_true U
         go_wp2_with (first | ((with_reducible refine gC 50 ?_); refine gL 28 func50 #[.int .i64 (((rd_T130 s x3_2).f0).size : Int), .int .i64 1, .int .i64 200] ?_; (with_reducible refine (spec_l01In.calls (((rd_T130 s x3_2).f0).size : Int) 1 200 true _ a7.out).mono ?_); rintro e w' ⟨rfl, ⟨nd, rfl⟩⟩; refine ⟨_, rfl, ?_⟩; have aA : 0 ≤ (x3_2 : Int) := of_decide_eq_true (Z4); have aB : x3_2 < (s.length : Int) := of_decide_eq_true (Z4); obtain ⟨a8, a9, aQ, aR⟩ := at_T130 Z.out x3_2 aA aB; obtain rfl : aV = a8 := (by injection a9); replace aQ := cB HB.out aQ; replace aR := cB HB.out aR; replace aA := eq_true aA; replace aB := eq_true aB))
         go_roundg k2
         case measure => have := HJ1.out; have := HK2.out; omega
         case rel => exact ⟨(wrap64 (x3_2 + 1)), (Z3), H', ⟨Z183⟩, ⟨Z127⟩, ⟨Z24⟩⟩
       ·replace aU := Bool.eq_false_iff.mpr aU
        subst aU
        replace H := ifF H
        obtain rfl := oI H
        refine bD6 BK167 ?_
        intros
        have O : 0 ≤ (x3_2 : Int) := of_decide_eq_true (Z4)
        have U : x3_2 < (s.length : Int) := of_decide_eq_true (Z4)
        obtain ⟨aV, aP, X, Y⟩ := at_T130 Z.out x3_2 O U
        cases aP
        replace X := cB HB.out X
        replace Y := cB HB.out Y
        replace O := eq_true O
        replace U := eq_true U
        go_wp2_with (first | ((with_reducible refine gC 50 ?_); refine gL 28 func50 #[.int .i64 (((rd_T130 s x3_2).f0).size : Int), .int .i64 1, .int .i64 200] ?_; (with_reducible refine (spec_l01In.calls (((rd_T130 s x3_2).f0).size : Int) 1 200 false _ a7.out).mono ?_); rintro e w' ⟨rfl, ⟨nd, rfl⟩⟩; refine ⟨_, rfl, ?_⟩))
        go_ret
        exact ⟨Z1, Z24⟩
      ·rw [if_neg c9] at H
       have bH := decide_eq_false c9
       clear c9
       have bA := aM H
       clear H
       refine bD6 BK167 ?_
       intros
       go_upto_if 42 with (fail)
       go_cut [42] (fun bP wc => ∃ (kq : Nat) (aW : Bool), bP = .bool aW ∧ Aside0 (spec_MutationOK.j2 kq D aW D y I J M s = some r) ∧ Aside0 (kq ≤ k2) ∧ Aside0 (wc.heap[a6]? = some (.cells #[.int .i64 D, .int .i64 y, .int .i64 I, .int .i64 J, .string M, (.slice aL s.length aN)] 103 (0, 0))) ∧ Aside0 (Below w.heap.size w wc))
       case first =>
        have H := bA.out
        clear bA
        by_cases aC : D = 1
        ·rw [if_pos aC] at H
         have aS := beq_iff_eq.mpr aC
         have bB := bne_eq_false_iff_eq.mpr aC
         clear aC
         (first | rw [aS] | rw [bB] | (simp only [i64_w, i32_w]; rw [aS]) | skip)
         have H' := aM H
         clear H
         go_wp2
         go_meet
         case rel => exact ⟨_, ((D == 1)), (Z3), H', ⟨by have := HJ1.out; have := HK2.out; first | omega | exact Nat.le_refl _⟩, ⟨Z127⟩, ⟨Z24⟩⟩
        ·rw [if_neg aC] at H
         have aS := beq_eq_false_iff_ne.mpr aC
         have bB := bne_iff_ne.mpr aC
         (first | rw [aS] | rw [bB] | (simp only [i64_w, i32_w]; rw [aS]) | skip)
         have H' := aM H
         clear H
         go_wp2
         go_meet
         case rel => exact ⟨_, ((D == 4)), (Z3), H', ⟨by have := HJ1.out; have := HK2.out; first | omega | exact Nat.le_refl _⟩, ⟨Z127⟩, ⟨Z24⟩⟩
       case rest =>
        clear bA
        (try clear c8); (try clear c9); (try clear bH)
        obtain ⟨kq, aW, rfl, HA, cI, BK167, HB⟩ := hcut
        cases kq with
        | zero => exact absurd HA.out (by simp [spec_MutationOK.j2])
        | succ cJ =>
         have H := HA.out
         clear HA
         simp only [spec_MutationOK.j2] at H
         by_cases aX : aW = true
         ·subst aX
          replace H := ifT H
          by_cases aD : y = 0
          ·rw [if_pos aD] at H
           have bQ := beq_iff_eq.mpr aD
           have bR := bne_eq_false_iff_eq.mpr aD
           clear aD
           by_cases aE : I = 0
           ·rw [if_pos aE] at H
            have bS := beq_iff_eq.mpr aE
            have bT := bne_eq_false_iff_eq.mpr aE
            clear aE
            by_cases aF : J = 0
            ·rw [if_pos aF] at H
             have bU := beq_iff_eq.mpr aF
             have bV := bne_eq_false_iff_eq.mpr aF
             clear aF
             obtain rfl := oI H
             refine bD6 BK167 ?_
             intros
             go_wp2
             go_ret
             exact ⟨Z1, Z24⟩
            ·rw [if_neg aF] at H
             have bU := beq_eq_false_iff_ne.mpr aF
             have bV := bne_iff_ne.mpr aF
             obtain rfl := oI H
             refine bD6 BK167 ?_
             intros
             go_wp2
             go_ret
             exact ⟨Z1, Z24⟩
           ·rw [if_neg aE] at H
            have bS := beq_eq_false_iff_ne.mpr aE
            have bT := bne_iff_ne.mpr aE
            obtain rfl := oI H
            refine bD6 BK167 ?_
            intros
            go_wp2
            go_ret
            exact ⟨Z1, Z24⟩
          ·rw [if_neg aD] at H
           have bQ := beq_eq_false_iff_ne.mpr aD
           have bR := bne_iff_ne.mpr aD
           obtain rfl := oI H
           refine bD6 BK167 ?_
           intros
           go_wp2
           go_ret
           exact ⟨Z1, Z24⟩
         ·replace aX := Bool.eq_false_iff.mpr aX
          subst aX
          replace H := ifF H
          by_cases aG : D = 2
          ·rw [if_pos aG] at H
           have bW := beq_iff_eq.mpr aG
           have bX := bne_eq_false_iff_eq.mpr aG
           clear aG
           by_cases aH : y = 0
           ·rw [if_pos aH] at H
            have bY := beq_iff_eq.mpr aH
            have bZ := bne_eq_false_iff_eq.mpr aH
            clear aH
            by_cases aI : I = 0
            ·rw [if_pos aI] at H
             have b0 := beq_iff_eq.mpr aI
             have b1 := bne_eq_false_iff_eq.mpr aI
             clear aI
             by_cases aJ : J = 0
             ·rw [if_pos aJ] at H
              have b2 := beq_iff_eq.mpr aJ
              have b6 := bne_eq_false_iff_eq.mpr aJ
              clear aJ
              obtain rfl := oI H
              refine bD6 BK167 ?_
              intros
              go_wp2
              go_ret
              exact ⟨Z1, Z24⟩
             ·rw [if_neg aJ] at H
              have b2 := beq_eq_false_iff_ne.mpr aJ
              have b6 := bne_iff_ne.mpr aJ
              obtain rfl := oI H
              refine bD6 BK167 ?_
              intros
              go_wp2
              go_ret
              exact ⟨Z1, Z24⟩
            ·rw [if_neg aI] at H
             have b0 := beq_eq_false_iff_ne.mpr aI
             have b1 := bne_iff_ne.mpr aI
             obtain rfl := oI H
             refine bD6 BK167 ?_
             intros
             go_wp2
             go_ret
             exact ⟨Z1, Z24⟩
           ·rw [if_neg aH] at H
            have bY := beq_eq_false_iff_ne.mpr aH
            have bZ := bne_iff_ne.mpr aH
            obtain rfl := oI H
            refine bD6 BK167 ?_
            intros
            go_wp2
            go_ret
            exact ⟨Z1, Z24⟩
          ·rw [if_neg aG] at H
           have bW := beq_eq_false_iff_ne.mpr aG
           have bX := bne_iff_ne.mpr aG
           by_cases aK : D = 3
           ·rw [if_pos aK] at H
            have b7 := beq_iff_eq.mpr aK
            have b8 := bne_eq_false_iff_eq.mpr aK
            clear aK
            obtain ⟨b9, aY, H⟩ := bindA H
            try dsimp only at H
            by_cases aZ : b9 = true
            ·subst aZ
             replace H := ifT H
             obtain ⟨cA, bC, H⟩ := bindA H
             try dsimp only at H
             by_cases a2 : cA = true
             ·subst a2
              replace H := ifT H
              obtain ⟨cC, bI, H⟩ := bindA H
              try dsimp only at H
              by_cases a3 : cC = true
              ·subst a3
               replace H := ifT H
               obtain rfl := oI H
               refine bD6 BK167 ?_
               intros
               go_wp2_with (first | ((with_reducible refine gC 50 ?_); refine gL 89 func50 #[.int .i64 y, .int .i64 1, .int .i64 1000] ?_; (with_reducible refine (spec_l01In.calls y 1 1000 true _ aY.out).mono ?_); rintro e w' ⟨rfl, ⟨nd, rfl⟩⟩; refine ⟨_, rfl, ?_⟩) | (go_at_call 50; (with_reducible refine (spec_l01In.calls I 1 3 true _ bC.out).mono ?_); rintro e w' ⟨rfl, ⟨nd, rfl⟩⟩) | (go_at_call 50; (with_reducible refine (spec_l01In.calls J 0 31 true _ bI.out).mono ?_); rintro e w' ⟨rfl, ⟨nd, rfl⟩⟩))
               go_ret
               exact ⟨Z1, Z24⟩
              ·replace a3 := Bool.eq_false_iff.mpr a3
               subst a3
               replace H := ifF H
               obtain rfl := oI H
               refine bD6 BK167 ?_
               intros
               go_wp2_with (first | ((with_reducible refine gC 50 ?_); refine gL 89 func50 #[.int .i64 y, .int .i64 1, .int .i64 1000] ?_; (with_reducible refine (spec_l01In.calls y 1 1000 true _ aY.out).mono ?_); rintro e w' ⟨rfl, ⟨nd, rfl⟩⟩; refine ⟨_, rfl, ?_⟩) | (go_at_call 50; (with_reducible refine (spec_l01In.calls I 1 3 true _ bC.out).mono ?_); rintro e w' ⟨rfl, ⟨nd, rfl⟩⟩) | (go_at_call 50; (with_reducible refine (spec_l01In.calls J 0 31 false _ bI.out).mono ?_); rintro e w' ⟨rfl, ⟨nd, rfl⟩⟩))
               go_ret
               exact ⟨Z1, Z24⟩
             ·replace a2 := Bool.eq_false_iff.mpr a2
              subst a2
              replace H := ifF H
              obtain rfl := oI H
              refine bD6 BK167 ?_
              intros
              go_wp2_with (first | ((with_reducible refine gC 50 ?_); refine gL 89 func50 #[.int .i64 y, .int .i64 1, .int .i64 1000] ?_; (with_reducible refine (spec_l01In.calls y 1 1000 true _ aY.out).mono ?_); rintro e w' ⟨rfl, ⟨nd, rfl⟩⟩; refine ⟨_, rfl, ?_⟩) | (go_at_call 50; (with_reducible refine (spec_l01In.calls I 1 3 false _ bC.out).mono ?_); rintro e w' ⟨rfl, ⟨nd, rfl⟩⟩))
              go_ret
              exact ⟨Z1, Z24⟩
            ·replace aZ := Bool.eq_false_iff.mpr aZ
             subst aZ
             replace H := ifF H
             obtain rfl := oI H
             refine bD6 BK167 ?_
             intros
             go_wp2_with (first | ((with_reducible refine gC 50 ?_); refine gL 89 func50 #[.int .i64 y, .int .i64 1, .int .i64 1000] ?_; (with_reducible refine (spec_l01In.calls y 1 1000 false _ aY.out).mono ?_); rintro e w' ⟨rfl, ⟨nd, rfl⟩⟩; refine ⟨_, rfl, ?_⟩))
             go_ret
             exact ⟨Z1, Z24⟩
           ·rw [if_neg aK] at H
            have b7 := beq_eq_false_iff_ne.mpr aK
            have b8 := bne_iff_ne.mpr aK
            obtain rfl := oI H
            go_wp2
            go_ret
            exact ⟨Z1, Z24⟩
mutual
def spec_l09Read.j0 : Nat → ByteArray → Bool → Option (Int × Int × Int × Int × ByteArray × (List (S130)) × Bool)
 | 0, _, _ => none
 | k + 1, x0, s => if s = true then (some (0, 0, 0, 0, (⟨#[]⟩ : ByteArray), ([] : List (S130)), false)) else (if 4 < (x0.size : Int) then (if 0 < (x0.size : Int) then (if 1 < (x0.size : Int) then (if 2 < (x0.size : Int) then (if 5 ≤ 7 then (if 7 ≤ (x0.size : Int) then ((spec_l08Number.f k (x0.extract 5 7)).bind fun y => (if 7 ≤ (wrap64 (7 + (wrap64 (bt x0 4)))) then (if (wrap64 (7 + (wrap64 (bt x0 4)))) ≤ (x0.size : Int) then (if 3 < (x0.size : Int) then (spec_l09Read.l0 k x0 (wrap64 (7 + (wrap64 (bt x0 4)))) (wrap64 (bt x0 3)) (wrap64 (bt x0 0)) y (wrap64 (bt x0 1)) (wrap64 (bt x0 2)) (x0.extract 7 ((wrap64 (7 + (wrap64 (bt x0 4)))) : Int).toNat) (([] : List (S130)))) else (none)) else (none)) else (none))) else (none)) else (none)) else (none)) else (none)) else (none)) else (none))
def spec_l09Read.l0 : Nat → ByteArray → Int → Int → Int → Int → Int → Int → ByteArray → List (S130) → Option (Int × Int × Int × Int × ByteArray × (List (S130)) × Bool)
 | 0, _, _, _, _, _, _, _, _, _ => none
 | k + 1, x0, x4, x6, I, J, M, O, U, y => if x6 > 0 then (if (wrap64 (x4 + 4)) > (x0.size : Int) then (some (0, 0, 0, 0, (⟨#[]⟩ : ByteArray), ([] : List (S130)), false)) else (if 0 ≤ x4 then (if x4 ≤ (wrap64 (x4 + 2)) then (if (wrap64 (x4 + 2)) ≤ (x0.size : Int) then ((spec_l08Number.f k (x0.extract (x4 : Int).toNat ((wrap64 (x4 + 2)) : Int).toNat)).bind fun s => (if 0 ≤ (wrap64 (x4 + 2)) then (if (wrap64 (x4 + 2)) ≤ (wrap64 (x4 + 4)) then (if (wrap64 (x4 + 4)) ≤ (x0.size : Int) then ((spec_l08Number.f k (x0.extract ((wrap64 (x4 + 2)) : Int).toNat ((wrap64 (x4 + 4)) : Int).toNat)).bind fun D => (if (wrap64 ((wrap64 ((wrap64 (x4 + 4)) + s)) + D)) > (x0.size : Int) then (some (0, 0, 0, 0, (⟨#[]⟩ : ByteArray), ([] : List (S130)), false)) else (if 0 ≤ (wrap64 (x4 + 4)) then (if (wrap64 (x4 + 4)) ≤ (wrap64 ((wrap64 (x4 + 4)) + s)) then (if (wrap64 ((wrap64 (x4 + 4)) + s)) ≤ (x0.size : Int) then (if 0 ≤ (wrap64 ((wrap64 (x4 + 4)) + s)) then (if (wrap64 ((wrap64 (x4 + 4)) + s)) ≤ (wrap64 ((wrap64 ((wrap64 (x4 + 4)) + s)) + D)) then (if (wrap64 ((wrap64 ((wrap64 (x4 + 4)) + s)) + D)) ≤ (x0.size : Int) then (if y.length < 4398046511104 then (spec_l09Read.l0 k x0 (wrap64 ((wrap64 (x4 + 4)) + (wrap64 (s + D)))) (wrap64 (x6 - 1)) I J M O U (y ++ [(⟨x0.extract ((wrap64 (x4 + 4)) : Int).toNat ((wrap64 ((wrap64 (x4 + 4)) + s)) : Int).toNat, x0.extract ((wrap64 ((wrap64 (x4 + 4)) + s)) : Int).toNat ((wrap64 ((wrap64 ((wrap64 (x4 + 4)) + s)) + D)) : Int).toNat⟩ : S130)])) else (none)) else (none)) else (none)) else (none)) else (none)) else (none)) else (none)))) else (none)) else (none)) else (none))) else (none)) else (none)) else (none))) else (if x4 = (x0.size : Int) then ((spec_MutationOK.f k I J M O U y).bind fun X => (some (I, J, M, O, U, y, X))) else (some (I, J, M, O, U, y, false)))
end
def spec_l09Read.f (k : Nat) (a0 : ByteArray) : Option (Int × Int × Int × Int × ByteArray × (List (S130)) × Bool) := if (a0.size : Int) < 7 then (spec_l09Read.j0 k a0 true) else (if 4 < (a0.size : Int) then (spec_l09Read.j0 k a0 (decide ((a0.size : Int) < (wrap64 (7 + (wrap64 (bt a0 4))))))) else (none))
def spec_l09Read.T4 : Bool × List (List Nat × List Nat) := (true, [([], []), ([0], [0]), ([1], [1]), ([], []), ([3], [3]), ([4], [4]), ([], []), ([6], [6]), ([7], [7]), ([], []), ([9], [9]), ([10], [10]), ([], []), ([], []), ([12, 13], [12, 13]), ([], []), ([2, 5, 8, 11, 14, 15], [2, 5, 8, 11, 14, 15]), ([], []), ([17, 16, 11, 0, 1, 2, 3, 4, 5, 6, 7, 8, 9, 10, 11, 12, 13, 14, 15, 16, 17], [16, 17])])
def spec_l09Read.B4 : List Nat := [0, 1, 3, 0, 8, 24, 0, 64, 192, 0, 512, 1536, 0, 0, 12288, 0, 65535, 0, 262143]
theorem spec_l09Read.tab4 : rtab .any (opsOf Tryz.f54 4) = spec_l09Read.T4 := by kernel_rfl
theorem spec_l09Read.bits4 : waitsOk spec_l09Read.T4.2 spec_l09Read.B4 = true := by kernel_rfl
def spec_l09Read.T15 : Bool × List (List Nat × List Nat) := (true, [([], []), ([0], [0]), ([], []), ([], []), ([], []), ([], []), ([4, 5], [4, 5]), ([2, 3, 6], [2, 3, 6]), ([], []), ([], []), ([], []), ([9, 10], [9, 10]), ([], []), ([], []), ([12, 13], [12, 13]), ([], []), ([14, 15], [14, 15]), ([8, 11, 16], [8, 11, 16]), ([7, 17], [7, 17]), ([18], [18]), ([1, 19], [1, 19]), ([0, 1, 2, 3, 4, 5, 6, 7, 8, 9, 10, 11, 12, 13, 14, 15, 16, 17, 18, 19, 20], []), ([21, 20, 20, 0, 1, 2, 3, 4, 5, 6, 7, 8, 9, 10, 11, 12, 13, 14, 15, 16, 17, 18, 19, 20], [20, 21])])
def spec_l09Read.B15 : List Nat := [0, 1, 0, 0, 0, 0, 48, 124, 0, 0, 0, 1536, 0, 0, 12288, 0, 61440, 130816, 262140, 524284, 1048575, 2097151, 4194303]
theorem spec_l09Read.tab15 : rtab .any (opsOf Tryz.f54 15) = spec_l09Read.T15 := by kernel_rfl
theorem spec_l09Read.bits15 : waitsOk spec_l09Read.T15.2 spec_l09Read.B15 = true := by kernel_rfl
def spec_l09Read.T17 : Bool × List (List Nat × List Nat) := (true, [([], []), ([], []), ([], []), ([2], [2]), ([1, 3], [1, 3]), ([4], [4]), ([5], [5]), ([6, 5, 5], [5, 6]), ([5, 7], [5, 7]), ([0, 7, 0], [0]), ([8, 9, 0, 1, 2, 3, 4, 5, 6, 7, 8, 9], [8])])
def spec_l09Read.B17 : List Nat := [0, 0, 0, 4, 14, 30, 62, 126, 254, 255, 1023]
theorem spec_l09Read.tab17 : rtab .any (opsOf Tryz.f54 17) = spec_l09Read.T17 := by kernel_rfl
theorem spec_l09Read.bits17 : waitsOk spec_l09Read.T17.2 spec_l09Read.B17 = true := by kernel_rfl
theorem spec_l09Read.calls (k : Nat) (a0 : ByteArray) (r1 : Int) (r2 : Int) (r3 : Int) (r4 : Int) (r5 : ByteArray) (r6 : List (S130)) (r7 : Bool) (w : World) (h : spec_l09Read.f k a0 = some (r1, r2, r3, r4, r5, r6, r7)) :
  Calls prog 54 #[.string a0] w fun e w' => ∃ v5_ : Value, e = .returned (.tuple #[.agg #[.int .i64 r1, .int .i64 r2, .int .i64 r3, .int .i64 r4, .string r5, v5_], .bool r7]) ∧ Kd.R k130 130 w' w.heap.size (fun _ => True) v5_ r6 ∧ Below w.heap.size w w' := by
 have eJ := underlying103
 have eK := underlying130
 have HB := aM (Below.refl w.heap.size w)
 have H := h
 clear h
 unfold spec_l09Read.f at H
 have bQ := aM H
 clear H
 go_enter func54, ntmps54
 go_upto_region 1 with (first | ((with_reducible refine gD 2 ?_); (try (refine gate_guard (Z117) ?_; dsimp only)); refine bxF w 2 #[.int .i64 0, .int .i64 0, .int .i64 0, .int .i64 0, .string (⟨#[]⟩ : ByteArray), .slice none 0 0] 103 (Z0) ?_; intro y hg w3 BK175 eL GE175 HB hb; clear hb hg))
 (try simp only [Act.put, List.setIfInBounds_toArray, List.set_cons_zero, List.set_cons_succ])
 go_cut [20] (fun dI wc => ∃ (kq : Nat) (bM : Bool), dI = .bool bM ∧ Aside0 (spec_l09Read.j0 kq a0 bM = some (r1, r2, r3, r4, r5, r6, r7)) ∧ Aside0 (kq ≤ k) ∧ Aside0 (wc.heap[y]? = some (.cells #[.int .i64 0, .int .i64 0, .int .i64 0, .int .i64 0, .string (⟨#[]⟩ : ByteArray), (.slice none 0 0)] 103 (0, 0))) ∧ Aside0 (Below w.heap.size w wc))
 case first =>
  have H := bQ.out
  clear bQ
  by_cases c4 : (a0.size : Int) < 7
  ·rw [if_pos c4] at H
   have bC := decide_eq_true c4
   have bR : decide (a0.size < 7) = true := decide_eq_true (Z42)
   clear c4
   (first | rw [bC] | rw [bR] | (simp only [i64_w, i32_w]; rw [bC]) | skip)
   have H' := aM H
   clear H
   go_wp2
   go_meet
   case rel => exact ⟨_, (true), (Z3), H', ⟨Z84⟩, ⟨Z19⟩, ⟨Z23⟩⟩
  ·rw [if_neg c4] at H
   have bC := decide_eq_false c4
   have bR : decide (a0.size < 7) = false := decide_eq_false (Z42)
   clear c4
   (first | rw [bC] | rw [bR] | (simp only [i64_w, i32_w]; rw [bC]) | skip)
   obtain ⟨c5, H⟩ := ifS H
   have eM := decide_eq_true c5
   have eN : decide (4 < a0.size) = true := decide_eq_true (Z42)
   clear c5
   have H' := aM H
   clear H
   have p6 : 0 ≤ (4 : Int) := (Z42)
   have q6 : 4 < a0.size := (by have : (4 : Int) < (a0.size : Int) := of_decide_eq_true (Z4); omega)
   have eO : ∀ h : 4 < a0.size, ((a0[4]'h).toNat : Int) = bt a0 4 := bt_at a0 4
   clear p6
   have eP : (4 < (a0.size : Int)) = True := eq_true (of_decide_eq_true (Z4))
   replace q6 := eq_true q6
   go_wp2
   go_meet
   case rel => exact ⟨_, (decide ((a0.size : Int) < (wrap64 (7 + (wrap64 (bt a0 4)))))), (Z3), H', ⟨Z84⟩, ⟨Z19⟩, ⟨Z23⟩⟩
 case rest =>
  clear bQ
  obtain ⟨kq, bM, rfl, HA, HJ1, BK175, HB⟩ := hcut
  cases kq with
  | zero => exact absurd HA.out (by simp [spec_l09Read.j0])
  | succ a5 =>
   have H := HA.out
   clear HA
   simp only [spec_l09Read.j0] at H
   by_cases c7 : bM = true
   ·subst c7
    replace H := ifT H
    simp only [Option.some.injEq, Prod.mk.injEq] at H
    obtain ⟨rfl, rfl, rfl, rfl, rfl, rfl, rfl⟩ := H
    refine bD6 BK175 ?_
    intros
    go_wp2
    refine bodyPost_ret (results_ct rfl _ _ y 103 #[.int .i64 0, .int .i64 0, .int .i64 0, .int .i64 0, .string (⟨#[]⟩ : ByteArray), .slice none 0 0] (0, 0) _ rfl zB underlying103 rfl (Z18)) rfl ?_
    exact ⟨_, Z1, Z135, Z23⟩
   ·replace c7 := Bool.eq_false_iff.mpr c7
    subst c7
    replace H := ifF H
    obtain ⟨c9, H⟩ := ifS H
    have eQ := decide_eq_true c9
    have eR : decide (4 < a0.size) = true := decide_eq_true (Z42)
    clear c9
    obtain ⟨cI, H⟩ := ifS H
    have eS := decide_eq_true cI
    have eT : decide (0 < a0.size) = true := decide_eq_true (Z42)
    clear cI
    obtain ⟨cJ, H⟩ := ifS H
    have eU := decide_eq_true cJ
    have eV : decide (1 < a0.size) = true := decide_eq_true (Z42)
    clear cJ
    obtain ⟨cK, H⟩ := ifS H
    have eW := decide_eq_true cK
    have eX : decide (2 < a0.size) = true := decide_eq_true (Z42)
    clear cK
    obtain ⟨bS, H⟩ := ifS H
    have eY := eq_true bS
    have eZ : decide (5 ≤ 7) = true := decide_eq_true bS
    clear bS
    obtain ⟨bT, H⟩ := ifS H
    have e0 := eq_true bT
    have e1 : decide (7 ≤ (a0.size : Int)) = true := decide_eq_true bT
    clear bT
    obtain ⟨J, bN, H⟩ := bindA H
    try dsimp only at H
    obtain ⟨cL, H⟩ := ifS H
    have e2 := eq_true cL
    have e3 : decide (7 ≤ (wrap64 (7 + (wrap64 (bt a0 4))))) = true := decide_eq_true cL
    obtain ⟨cM, H⟩ := ifS H
    have e4 := eq_true cM
    have e5 : decide ((wrap64 (7 + (wrap64 (bt a0 4)))) ≤ (a0.size : Int)) = true := decide_eq_true cM
    obtain ⟨aA, bD⟩ : ∃ y_ : List (S130), y_ = (([] : List (S130))) := ⟨_, rfl⟩
    replace H : (if 3 < (a0.size : Int) then (spec_l09Read.l0 a5 a0 (wrap64 (7 + (wrap64 (bt a0 4)))) (wrap64 (bt a0 3)) (wrap64 (bt a0 0)) J (wrap64 (bt a0 1)) (wrap64 (bt a0 2)) (a0.extract 7 ((wrap64 (7 + (wrap64 (bt a0 4)))) : Int).toNat) aA) else (none)) = some (r1, r2, r3, r4, r5, r6, r7) := by first | (rw [bD]; with_reducible exact H) | (have H2_ := (Option.bind_some _ _).symm.trans H; rw [bD]; with_reducible exact H2_) | (have H2_ := (Option.bind_some _ _).symm.trans H; with_reducible exact H2_) | with_reducible exact H | (rw [bD]; exact H) | exact H
    have a2 := aM bD
    clear bD
    obtain ⟨cN, H⟩ := ifS H
    have e6 := decide_eq_true cN
    have e7 : decide (3 < a0.size) = true := decide_eq_true (Z42)
    clear cN
    have H' := aM H
    clear H
    have p10 : 0 ≤ (4 : Int) := (Z42)
    have cO : 4 < a0.size := (by have : (4 : Int) < (a0.size : Int) := of_decide_eq_true (Z4); omega)
    have e8 : ∀ h : 4 < a0.size, ((a0[4]'h).toNat : Int) = bt a0 4 := bt_at a0 4
    clear p10
    have e9 : (4 < (a0.size : Int)) = True := eq_true (of_decide_eq_true (Z4))
    replace cO := eq_true cO
    try go_wp2
    replace BK175 := aM (blk_drew BK175.out)
    replace HB := aM (below_drew1 HB.out)
    have p12 : 0 ≤ (0 : Int) := (Z42)
    have cP : 0 < a0.size := (by have : (0 : Int) < (a0.size : Int) := of_decide_eq_true (Z4); omega)
    have fA : ∀ h : 0 < a0.size, ((a0[0]'h).toNat : Int) = bt a0 0 := bt_at a0 0
    clear p12
    have fB : (0 < (a0.size : Int)) = True := eq_true (of_decide_eq_true (Z4))
    replace cP := eq_true cP
    have dJ : 0 ≤ (1 : Int) := (Z42)
    have cQ : 1 < a0.size := (by have : (1 : Int) < (a0.size : Int) := of_decide_eq_true (Z4); omega)
    have fC : ∀ h : 1 < a0.size, ((a0[1]'h).toNat : Int) = bt a0 1 := bt_at a0 1
    clear dJ
    have fD : (1 < (a0.size : Int)) = True := eq_true (of_decide_eq_true (Z4))
    replace cQ := eq_true cQ
    have dK : 0 ≤ (2 : Int) := (Z42)
    have cR : 2 < a0.size := (by have : (2 : Int) < (a0.size : Int) := of_decide_eq_true (Z4); omega)
    have fE : ∀ h : 2 < a0.size, ((a0[2]'h).toNat : Int) = bt a0 2 := bt_at a0 2
    clear dK
    have fF : (2 < (a0.size : Int)) = True := eq_true (of_decide_eq_true (Z4))
    replace cR := eq_true cR
    refine start_ (n := 19) (S := fun w' => True) (ds := []) #[false, false, false, false, false, false, false, false, false, false, false, false, false, false, false, false, false, false, false] (Z18) rfl rfl trivial (fun hHeld => ?_); refine with_tabW spec_l09Read.tab4 spec_l09Read.bits4 (fun HT_ HW_ => ?_)
    generalize wc.drew = fG at BK175 HB hHeld ⊢
    refine pA 0 26 ?_
    refine pA 3 29 ?_
    refine pA 6 32 ?_
    refine pA 9 35 ?_
    refine pA 10 36 ?_
    refine pA 12 38 ?_
    refine pA 13 39 ?_
    refine pA 14 40 ?_
    refine take_ (i := 1) (N := some 27) (v := ?_) (a' := ?_) #[true, true, false, true, false, false, true, false, false, true, true, false, true, true, true, false, false, false, false] rfl rfl (take_ofW HT_.out HW_.out (Z18)) (fun _ _ _ h => h) (Or.inl ⟨Z117, ?_⟩) hHeld ?_ ?_
    rotate_left
    ·intro w' _
     go_simp
     with_reducible rfl
    rotate_left
    ·simp only [Act.put, List.setIfInBounds_toArray, List.set_cons_zero, List.set_cons_succ, i64_w, i32_w]
     rfl
    refine pA 2 28 ?_
    refine take_ (i := 4) (N := some 30) (v := ?_) (a' := ?_) #[true, true, true, true, true, false, true, false, false, true, true, false, true, true, true, false, false, false, false] rfl rfl (take_ofW HT_.out HW_.out (Z18)) (fun _ _ _ h => h) (Or.inl ⟨Z117, ?_⟩) hHeld ?_ ?_
    rotate_left
    ·intro w' _
     go_simp
     with_reducible rfl
    rotate_left
    ·simp only [Act.put, List.setIfInBounds_toArray, List.set_cons_zero, List.set_cons_succ, i64_w, i32_w]
     rfl
    refine pA 5 31 ?_
    refine take_ (i := 7) (N := some 33) (v := ?_) (a' := ?_) #[true, true, true, true, true, true, true, true, false, true, true, false, true, true, true, false, false, false, false] rfl rfl (take_ofW HT_.out HW_.out (Z18)) (fun _ _ _ h => h) (Or.inl ⟨Z117, ?_⟩) hHeld ?_ ?_
    rotate_left
    ·intro w' _
     go_simp
     with_reducible rfl
    rotate_left
    ·simp only [Act.put, List.setIfInBounds_toArray, List.set_cons_zero, List.set_cons_succ, i64_w, i32_w]
     rfl
    refine pA 8 34 ?_
    refine join_ (σ := Value × Nat) 1 #[true, true, true, true, true, true, true, true, true, true, true, true, true, true, true, true, true, true, false] (fun s_ => [(37, .int .i64 J), (41, s_.1), (5, .pointer (some ⟨s_.2, 0, none⟩)), (42, .agg #[.int .i64 (wrap64 (bt a0 0)), .int .i64 J, .int .i64 (wrap64 (bt a0 1)), .int .i64 (wrap64 (bt a0 2)), .string (a0.extract 7 ((wrap64 (7 + (wrap64 (bt a0 4)))) : Int).toNat), s_.1])]) (fun s_ w' => (Kd.R k130 130 w' w.heap.size (fun _ => True) s_.1 aA) ∧ (w'.heap[y]? = some (.cells #[.int .i64 0, .int .i64 0, .int .i64 0, .int .i64 0, .string (⟨#[]⟩ : ByteArray), .slice none 0 0] 103 (0, 0))) ∧ (w'.heap[s_.2]? = some (.cells #[.int .i64 0, .int .i64 0, .int .i64 0, .int .i64 0, .string (⟨#[]⟩ : ByteArray), .slice none 0 0] 103 (0, 0))) ∧ (w.heap.size ≤ s_.2) ∧ (w.heap.size ≤ s_.2) ∧ (y ≠ s_.2) ∧ (s_.2 ≠ y) ∧ (Below w.heap.size w w')) ?_ ?_
    rotate_left
    ·intro bU
     refine join_ (σ := Value) 2 #[true, true, true, true, true, true, true, true, true, true, true, true, true, true, true, true, true, false, false] (fun s_ => [(37, .int .i64 J), (41, s_), (42, .agg #[.int .i64 (wrap64 (bt a0 0)), .int .i64 J, .int .i64 (wrap64 (bt a0 1)), .int .i64 (wrap64 (bt a0 2)), .string (a0.extract 7 ((wrap64 (7 + (wrap64 (bt a0 4)))) : Int).toNat), s_])]) (fun s_ w' => (Kd.R k130 130 w' w.heap.size (fun _ => True) s_ aA) ∧ (w'.heap[y]? = some (.cells #[.int .i64 0, .int .i64 0, .int .i64 0, .int .i64 0, .string (⟨#[]⟩ : ByteArray), .slice none 0 0] 103 (0, 0))) ∧ (Below w.heap.size w w')) ?_ ?_
     rotate_left
     ·intro cS
      refine join_ (σ := Nat) 3 #[true, true, true, true, true, true, true, true, true, true, true, true, true, true, true, false, false, true, false] (fun s_ => [(37, .int .i64 J), (5, .pointer (some ⟨s_, 0, none⟩))]) (fun s_ w' => (w'.heap[y]? = some (.cells #[.int .i64 0, .int .i64 0, .int .i64 0, .int .i64 0, .string (⟨#[]⟩ : ByteArray), .slice none 0 0] 103 (0, 0))) ∧ (w'.heap[s_]? = some (.cells #[.int .i64 0, .int .i64 0, .int .i64 0, .int .i64 0, .string (⟨#[]⟩ : ByteArray), .slice none 0 0] 103 (0, 0))) ∧ (w.heap.size ≤ s_) ∧ (w.heap.size ≤ s_) ∧ (y ≠ s_) ∧ (s_ ≠ y) ∧ (Below w.heap.size w w')) ?_ ?_
      rotate_left
      ·intro cT
       refine join_ (σ := Value × Nat) 3 #[true, true, true, true, true, true, true, true, true, true, true, false, true, true, true, true, false, true, false] (fun s_ => [(41, s_.1), (5, .pointer (some ⟨s_.2, 0, none⟩))]) (fun s_ w' => (Kd.R k130 130 w' w.heap.size (fun _ => True) s_.1 aA) ∧ (w'.heap[y]? = some (.cells #[.int .i64 0, .int .i64 0, .int .i64 0, .int .i64 0, .string (⟨#[]⟩ : ByteArray), .slice none 0 0] 103 (0, 0))) ∧ (w'.heap[s_.2]? = some (.cells #[.int .i64 0, .int .i64 0, .int .i64 0, .int .i64 0, .string (⟨#[]⟩ : ByteArray), .slice none 0 0] 103 (0, 0))) ∧ (w.heap.size ≤ s_.2) ∧ (w.heap.size ≤ s_.2) ∧ (y ≠ s_.2) ∧ (s_.2 ≠ y) ∧ (Below w.heap.size w w')) ?_ ?_
       rotate_left
       ·intro cU
        refine join_ (σ := Unit) 4 #[true, true, true, true, true, true, true, true, true, true, true, true, true, true, true, false, false, false, false] (fun s_ => [(37, .int .i64 J)]) (fun s_ w' => (w'.heap[y]? = some (.cells #[.int .i64 0, .int .i64 0, .int .i64 0, .int .i64 0, .string (⟨#[]⟩ : ByteArray), .slice none 0 0] 103 (0, 0))) ∧ (Below w.heap.size w w')) ?_ ?_
        rotate_left
        ·intro dL
         refine join_ (σ := Value) 4 #[true, true, true, true, true, true, true, true, true, true, true, false, true, true, true, true, false, false, false] (fun s_ => [(41, s_)]) (fun s_ w' => (Kd.R k130 130 w' w.heap.size (fun _ => True) s_ aA) ∧ (w'.heap[y]? = some (.cells #[.int .i64 0, .int .i64 0, .int .i64 0, .int .i64 0, .string (⟨#[]⟩ : ByteArray), .slice none 0 0] 103 (0, 0))) ∧ (Below w.heap.size w w')) ?_ ?_
         rotate_left
         ·intro dM
          refine join_ (σ := Nat) 4 #[true, true, true, true, true, true, true, true, true, true, true, false, true, true, true, false, false, true, false] (fun s_ => [(5, .pointer (some ⟨s_, 0, none⟩))]) (fun s_ w' => (w'.heap[y]? = some (.cells #[.int .i64 0, .int .i64 0, .int .i64 0, .int .i64 0, .string (⟨#[]⟩ : ByteArray), .slice none 0 0] 103 (0, 0))) ∧ (w'.heap[s_]? = some (.cells #[.int .i64 0, .int .i64 0, .int .i64 0, .int .i64 0, .string (⟨#[]⟩ : ByteArray), .slice none 0 0] 103 (0, 0))) ∧ (w.heap.size ≤ s_) ∧ (w.heap.size ≤ s_) ∧ (y ≠ s_) ∧ (s_ ≠ y) ∧ (Below w.heap.size w w')) ?_ ?_
          rotate_left
          ·intro dN
           refine three_ (i := 11) (j := 15) (k := 17) (Ni := some 37) (Nj := some 41) (Nk := some 5) #[true, true, true, true, true, true, true, true, true, true, true, true, true, true, true, false, false, false, false] #[true, true, true, true, true, true, true, true, true, true, true, false, true, true, true, true, false, false, false] #[true, true, true, true, true, true, true, true, true, true, true, false, true, true, true, false, false, true, false] rfl rfl rfl rfl rfl rfl (three_of HT_.out (Z18)) (Z101) (Z101) (Z101) (fun K hK => ?_) (fun K hK => ?_) (fun K hK => ?_)
           ·skip
            refine goes_ func52 (Z18) rfl #[.string (a0.extract 5 7)] (Z117) rfl rfl (Z2) ?_
            with_reducible refine (spec_l08Number.calls a5 (a0.extract 5 7) J _ bN.out).mono ?_
            rintro e w' ⟨rfl, ⟨nd, rfl⟩⟩
            refine ⟨_, rfl, ?_⟩
            refine hK.out _ _ trivial (fun hHeld => ?_)
            clear hK K
            refine nB 37 ?_
            exact norm_ (Z34) (dL () _ ⟨(Z19), (Z23)⟩)
           ·skip
            refine Kd.R_lit_step k130 _ 130 ?hg (N := 41) ?hd (xs := ([] : List (S130))) (inner := []) (ok := fun _ => True) (okp := fun _ => True) ?hr ?hp (fun _ hk => hk) trivial (Below.refl _ _) (Nat.le_refl _) (Z174) ?_; (case hd => rfl); (case hg => rfl); (case hr => first | (go_simp; done) | (go_simp; rfl)); (case hp => exact (Reps.none _ _))
            intro aE bO bE hb hg_ hnew_
            clear hg_ hnew_
            (first | rw [← a2.out] at bE | (simp only [Int.reduceToNat] at bE; rw [← a2.out] at bE))
            have HO179 := aM (Kd.R_lower bE (below_size (Z23)))
            replace BK175 := aM (kB BK175 (Z19) hb)
            replace HB := aM (below_step (Z23) hb)
            clear hb bE
            refine hK.out _ _ trivial (fun hHeld => ?_)
            clear hK K
            refine nB 41 ?_
            exact norm_ (Z34) (dM (aE) _ ⟨(Z99), (Z19), (Z23)⟩)
           ·skip
            refine box_step ?hg (N := 5) ?hd (cs := #[.int .i64 0, .int .i64 0, .int .i64 0, .int .i64 0, .string (⟨#[]⟩ : ByteArray), .slice none 0 0]) (t := 103) ?hr ?_; (case hd => rfl); (case hg => rfl); (case hr => first | (go_simp; done) | (go_simp; rfl))
            intro D hg bO hbox hb
            have BK180 := aM (hbox)
            have aC := aM ((szE w hg (Z23)))
            have GE180 := aM ((szE w hg (Z23)))
            replace HB := aM (below_step (Z23) hb)
            have M := aM ((nL BK175 hg (Z19)))
            have s := aM ((nG BK175 hg (Z19)))
            replace BK175 := aM (kB BK175 (Z19) hb)
            clear hb hbox hg
            refine hK.out _ _ trivial (fun hHeld => ?_)
            clear hK K
            refine nB 5 ?_
            exact norm_ (Z34) (dN (D) _ ⟨(Z19), (Z53), aC.out, GE180.out, M.out, s.out, (Z14)⟩)
          ·skip
           rintro D aY ⟨h0_, h1_, h2_, h3_, h4_, h5_, h6_⟩
           have n0_ : Aside0 (aY.heap[y]? = some (.cells #[.int .i64 0, .int .i64 0, .int .i64 0, .int .i64 0, .string (⟨#[]⟩ : ByteArray), .slice none 0 0] 103 (0, 0))) := ⟨h0_⟩
           have n1_ : Aside0 (aY.heap[D]? = some (.cells #[.int .i64 0, .int .i64 0, .int .i64 0, .int .i64 0, .string (⟨#[]⟩ : ByteArray), .slice none 0 0] 103 (0, 0))) := ⟨h1_⟩
           have n2_ : Aside0 (w.heap.size ≤ D) := ⟨h2_⟩
           have n3_ : Aside0 (w.heap.size ≤ D) := ⟨h3_⟩
           have n4_ : Aside0 (y ≠ D) := ⟨h4_⟩
           have n5_ : Aside0 (D ≠ y) := ⟨h5_⟩
           have n6_ : Aside0 (Below w.heap.size w aY) := ⟨h6_⟩
           clear BK175
           clear HB
           clear h0_ h1_ h2_ h3_ h4_ h5_ h6_
           have BK175 := n0_
           have BK180 := n1_
           have aC := n2_
           have GE180 := n3_
           have M := n4_
           have s := n5_
           have HB := n6_
           clear n0_ n1_ n2_ n3_ n4_ n5_ n6_
           have hHeld := trivial
           refine norm_ (a' := ?_) ?_ ?_
           rotate_left
           ·simp only [putAll, Act.put, List.setIfInBounds_toArray, List.set_cons_zero, List.set_cons_succ]
            rfl
           refine two_ (i := 11) (j := 15) (Ni := some 37) (Nj := some 41) #[true, true, true, true, true, true, true, true, true, true, true, true, true, true, true, false, false, true, false] #[true, true, true, true, true, true, true, true, true, true, true, false, true, true, true, true, false, true, false] rfl rfl rfl rfl (two_of HT_.out (Z18)) (Z101) (Z101) (fun K hK => ?_) (fun K hK => ?_)
           ·skip
            refine goes_ func52 (Z18) rfl #[.string (a0.extract 5 7)] (Z117) rfl rfl (Z2) ?_
            with_reducible refine (spec_l08Number.calls a5 (a0.extract 5 7) J _ bN.out).mono ?_
            rintro e w' ⟨rfl, ⟨nd, rfl⟩⟩
            refine ⟨_, rfl, ?_⟩
            refine hK.out _ _ trivial (fun hHeld => ?_)
            clear hK K
            refine nB 37 ?_
            exact norm_ (Z34) (cT (D) _ ⟨(Z19), (Z53), aC.out, GE180.out, M.out, s.out, (Z14)⟩)
           ·skip
            refine Kd.R_lit_step k130 _ 130 ?hg (N := 41) ?hd (xs := ([] : List (S130))) (inner := []) (ok := fun _ => True) (okp := fun _ => True) ?hr ?hp (fun _ hk => hk) trivial (Below.refl _ _) (Nat.le_refl _) (Z174) ?_; (case hd => rfl); (case hg => rfl); (case hr => first | (go_simp; done) | (go_simp; rfl)); (case hp => exact (Reps.none _ _))
            intro aE bF aH hb hg_ hnew_
            clear hg_ hnew_
            (first | rw [← a2.out] at aH | (simp only [Int.reduceToNat] at aH; rw [← a2.out] at aH))
            have HO179 := aM (Kd.R_lower aH (below_size (Z14)))
            replace BK175 := aM (kB BK175 (Z19) hb)
            replace BK180 := aM (kB BK180 (Z53) hb)
            replace HB := aM (below_step (Z14) hb)
            clear hb aH
            refine hK.out _ _ trivial (fun hHeld => ?_)
            clear hK K
            refine nB 41 ?_
            exact norm_ (Z34) (cU (aE, D) _ ⟨(Z99), (Z19), (Z53), aC.out, GE180.out, M.out, s.out, (Z14)⟩)
         ·skip
          rintro aE bF ⟨h0_, h1_, h2_⟩
          have n0_ : Aside0 (Kd.R k130 130 bF w.heap.size (fun _ => True) aE aA) := ⟨h0_⟩
          have n1_ : Aside0 (bF.heap[y]? = some (.cells #[.int .i64 0, .int .i64 0, .int .i64 0, .int .i64 0, .string (⟨#[]⟩ : ByteArray), .slice none 0 0] 103 (0, 0))) := ⟨h1_⟩
          have n2_ : Aside0 (Below w.heap.size w bF) := ⟨h2_⟩
          clear BK175
          clear HB
          clear h0_ h1_ h2_
          have HO179 := n0_
          have BK175 := n1_
          have HB := n2_
          clear n0_ n1_ n2_
          have hHeld := trivial
          refine norm_ (a' := ?_) ?_ ?_
          rotate_left
          ·simp only [putAll, Act.put, List.setIfInBounds_toArray, List.set_cons_zero, List.set_cons_succ]
           rfl
          refine two_ (i := 11) (j := 17) (Ni := some 37) (Nj := some 5) #[true, true, true, true, true, true, true, true, true, true, true, true, true, true, true, true, false, false, false] #[true, true, true, true, true, true, true, true, true, true, true, false, true, true, true, true, false, true, false] rfl rfl rfl rfl (two_of HT_.out (Z18)) (Z101) (Z101) (fun K hK => ?_) (fun K hK => ?_)
          ·skip
           refine goes_ func52 (Z18) rfl #[.string (a0.extract 5 7)] (Z117) rfl rfl (Z2) ?_
           with_reducible refine (spec_l08Number.calls a5 (a0.extract 5 7) J _ bN.out).mono ?_
           rintro e w' ⟨rfl, ⟨nd, rfl⟩⟩
           refine ⟨_, rfl, ?_⟩
           obtain ⟨bV, bW, bG⟩ := Kd.R_slice HO179.out
           (first | subst bG | (injection bG with f1_ f2_ f3_; have f4_ := f1_.symm; have f5_ := f3_.symm; clear f1_ f2_ f3_; subst f4_; subst f5_))
           refine hK.out _ _ trivial (fun hHeld => ?_)
           clear hK K
           refine nB 37 ?_
           refine pA 16 42 ?_
           exact norm_ (Z34) (cS (.slice bV aA.length bW) _ ⟨(Z99), (Z19), (Z23)⟩)
          ·skip
           refine box_step ?hg (N := 5) ?hd (cs := #[.int .i64 0, .int .i64 0, .int .i64 0, .int .i64 0, .string (⟨#[]⟩ : ByteArray), .slice none 0 0]) (t := 103) ?hr ?_; (case hd => rfl); (case hg => rfl); (case hr => first | (go_simp; done) | (go_simp; rfl))
           intro D hg aZ hbox hb
           replace HO179 := aM (Kd.R_below (Z99) hb)
           have BK180 := aM (hbox)
           have aC := aM ((szE w hg (Z23)))
           have GE180 := aM ((szE w hg (Z23)))
           replace HB := aM (below_step (Z23) hb)
           have M := aM ((nL BK175 hg (Z19)))
           have s := aM ((nG BK175 hg (Z19)))
           replace BK175 := aM (kB BK175 (Z19) hb)
           clear hb hbox hg
           refine hK.out _ _ trivial (fun hHeld => ?_)
           clear hK K
           refine nB 5 ?_
           exact norm_ (Z34) (cU (aE, D) _ ⟨(Z99), (Z19), (Z53), aC.out, GE180.out, M.out, s.out, (Z14)⟩)
        ·skip
         rintro _ bO ⟨h0_, h1_⟩
         have n0_ : Aside0 (bO.heap[y]? = some (.cells #[.int .i64 0, .int .i64 0, .int .i64 0, .int .i64 0, .string (⟨#[]⟩ : ByteArray), .slice none 0 0] 103 (0, 0))) := ⟨h0_⟩
         have n1_ : Aside0 (Below w.heap.size w bO) := ⟨h1_⟩
         clear BK175
         clear HB
         clear h0_ h1_
         have BK175 := n0_
         have HB := n1_
         clear n0_ n1_
         have hHeld := trivial
         refine norm_ (a' := ?_) ?_ ?_
         rotate_left
         ·simp only [putAll, Act.put, List.setIfInBounds_toArray, List.set_cons_zero, List.set_cons_succ]
          rfl
         refine two_ (i := 15) (j := 17) (Ni := some 41) (Nj := some 5) #[true, true, true, true, true, true, true, true, true, true, true, true, true, true, true, true, false, false, false] #[true, true, true, true, true, true, true, true, true, true, true, true, true, true, true, false, false, true, false] rfl rfl rfl rfl (two_of HT_.out (Z18)) (Z101) (Z101) (fun K hK => ?_) (fun K hK => ?_)
         ·skip
          refine Kd.R_lit_step k130 _ 130 ?hg (N := 41) ?hd (xs := ([] : List (S130))) (inner := []) (ok := fun _ => True) (okp := fun _ => True) ?hr ?hp (fun _ hk => hk) trivial (Below.refl _ _) (Nat.le_refl _) (Z174) ?_; (case hd => rfl); (case hg => rfl); (case hr => first | (go_simp; done) | (go_simp; rfl)); (case hp => exact (Reps.none _ _))
          intro aE aY bH hb hg_ hnew_
          clear hg_ hnew_
          (first | rw [← a2.out] at bH | (simp only [Int.reduceToNat] at bH; rw [← a2.out] at bH))
          have HO179 := aM (Kd.R_lower bH (below_size (Z23)))
          replace BK175 := aM (kB BK175 (Z19) hb)
          replace HB := aM (below_step (Z23) hb)
          clear hb bH
          obtain ⟨bV, bW, bG⟩ := Kd.R_slice HO179.out
          (first | subst bG | (injection bG with f1_ f2_ f3_; have f4_ := f1_.symm; have f5_ := f3_.symm; clear f1_ f2_ f3_; subst f4_; subst f5_))
          refine hK.out _ _ trivial (fun hHeld => ?_)
          clear hK K
          refine nB 41 ?_
          refine pA 16 42 ?_
          exact norm_ (Z34) (cS (.slice bV aA.length bW) _ ⟨(Z99), (Z19), (Z23)⟩)
         ·skip
          refine box_step ?hg (N := 5) ?hd (cs := #[.int .i64 0, .int .i64 0, .int .i64 0, .int .i64 0, .string (⟨#[]⟩ : ByteArray), .slice none 0 0]) (t := 103) ?hr ?_; (case hd => rfl); (case hg => rfl); (case hr => first | (go_simp; done) | (go_simp; rfl))
          intro D hg aY hbox hb
          have BK180 := aM (hbox)
          have aC := aM ((szE w hg (Z23)))
          have GE180 := aM ((szE w hg (Z23)))
          replace HB := aM (below_step (Z23) hb)
          have M := aM ((nL BK175 hg (Z19)))
          have s := aM ((nG BK175 hg (Z19)))
          replace BK175 := aM (kB BK175 (Z19) hb)
          clear hb hbox hg
          refine hK.out _ _ trivial (fun hHeld => ?_)
          clear hK K
          refine nB 5 ?_
          exact norm_ (Z34) (cT (D) _ ⟨(Z19), (Z53), aC.out, GE180.out, M.out, s.out, (Z14)⟩)
       ·skip
        rintro ⟨aE, D⟩ aZ ⟨h0_, h1_, h2_, h3_, h4_, h5_, h6_, h7_⟩
        have n0_ : Aside0 (Kd.R k130 130 aZ w.heap.size (fun _ => True) aE aA) := ⟨h0_⟩
        have n1_ : Aside0 (aZ.heap[y]? = some (.cells #[.int .i64 0, .int .i64 0, .int .i64 0, .int .i64 0, .string (⟨#[]⟩ : ByteArray), .slice none 0 0] 103 (0, 0))) := ⟨h1_⟩
        have n2_ : Aside0 (aZ.heap[D]? = some (.cells #[.int .i64 0, .int .i64 0, .int .i64 0, .int .i64 0, .string (⟨#[]⟩ : ByteArray), .slice none 0 0] 103 (0, 0))) := ⟨h2_⟩
        have n3_ : Aside0 (w.heap.size ≤ D) := ⟨h3_⟩
        have n4_ : Aside0 (w.heap.size ≤ D) := ⟨h4_⟩
        have n5_ : Aside0 (y ≠ D) := ⟨h5_⟩
        have n6_ : Aside0 (D ≠ y) := ⟨h6_⟩
        have n7_ : Aside0 (Below w.heap.size w aZ) := ⟨h7_⟩
        clear BK175
        clear HB
        clear h0_ h1_ h2_ h3_ h4_ h5_ h6_ h7_
        have HO179 := n0_
        have BK175 := n1_
        have BK180 := n2_
        have aC := n3_
        have GE180 := n4_
        have M := n5_
        have s := n6_
        have HB := n7_
        clear n0_ n1_ n2_ n3_ n4_ n5_ n6_ n7_
        have hHeld := trivial
        refine norm_ (a' := ?_) ?_ ?_
        rotate_left
        ·simp only [putAll, Act.put, List.setIfInBounds_toArray, List.set_cons_zero, List.set_cons_succ]
         rfl
        refine oA 11 37 (fun K hK => ?_)
        refine goes_ func52 (Z18) rfl #[.string (a0.extract 5 7)] (Z117) rfl rfl (Z2) ?_
        with_reducible refine (spec_l08Number.calls a5 (a0.extract 5 7) J _ bN.out).mono ?_
        rintro e w' ⟨rfl, ⟨nd, rfl⟩⟩
        refine ⟨_, rfl, ?_⟩
        obtain ⟨bI, bJ, a3⟩ := Kd.R_slice HO179.out
        (first | subst a3 | (injection a3 with f1_ f2_ f3_; have f4_ := f1_.symm; have f5_ := f3_.symm; clear f1_ f2_ f3_; subst f4_; subst f5_))
        refine hK.out _ _ trivial (fun hHeld => ?_)
        clear hK K
        refine nB 37 ?_
        refine pA 16 42 ?_
        exact norm_ (Z34) (bU (.slice bI aA.length bJ, D) _ ⟨(Z99), (Z19), (Z53), aC.out, GE180.out, M.out, s.out, (Z14)⟩)
      ·skip
       rintro D aY ⟨h0_, h1_, h2_, h3_, h4_, h5_, h6_⟩
       have n0_ : Aside0 (aY.heap[y]? = some (.cells #[.int .i64 0, .int .i64 0, .int .i64 0, .int .i64 0, .string (⟨#[]⟩ : ByteArray), .slice none 0 0] 103 (0, 0))) := ⟨h0_⟩
       have n1_ : Aside0 (aY.heap[D]? = some (.cells #[.int .i64 0, .int .i64 0, .int .i64 0, .int .i64 0, .string (⟨#[]⟩ : ByteArray), .slice none 0 0] 103 (0, 0))) := ⟨h1_⟩
       have n2_ : Aside0 (w.heap.size ≤ D) := ⟨h2_⟩
       have n3_ : Aside0 (w.heap.size ≤ D) := ⟨h3_⟩
       have n4_ : Aside0 (y ≠ D) := ⟨h4_⟩
       have n5_ : Aside0 (D ≠ y) := ⟨h5_⟩
       have n6_ : Aside0 (Below w.heap.size w aY) := ⟨h6_⟩
       clear BK175
       clear HB
       clear h0_ h1_ h2_ h3_ h4_ h5_ h6_
       have BK175 := n0_
       have BK180 := n1_
       have aC := n2_
       have GE180 := n3_
       have M := n4_
       have s := n5_
       have HB := n6_
       clear n0_ n1_ n2_ n3_ n4_ n5_ n6_
       have hHeld := trivial
       refine norm_ (a' := ?_) ?_ ?_
       rotate_left
       ·simp only [putAll, Act.put, List.setIfInBounds_toArray, List.set_cons_zero, List.set_cons_succ]
        rfl
       refine oA 15 41 (fun K hK => ?_)
       refine Kd.R_lit_step k130 _ 130 ?hg (N := 41) ?hd (xs := ([] : List (S130))) (inner := []) (ok := fun _ => True) (okp := fun _ => True) ?hr ?hp (fun _ hk => hk) trivial (Below.refl _ _) (Nat.le_refl _) (Z174) ?_; (case hd => rfl); (case hg => rfl); (case hr => first | (go_simp; done) | (go_simp; rfl)); (case hp => exact (Reps.none _ _))
       intro aE bF aH hb hg_ hnew_
       clear hg_ hnew_
       (first | rw [← a2.out] at aH | (simp only [Int.reduceToNat] at aH; rw [← a2.out] at aH))
       have HO179 := aM (Kd.R_lower aH (below_size (Z14)))
       replace BK175 := aM (kB BK175 (Z19) hb)
       replace BK180 := aM (kB BK180 (Z53) hb)
       replace HB := aM (below_step (Z14) hb)
       clear hb aH
       obtain ⟨bI, bJ, a3⟩ := Kd.R_slice HO179.out
       (first | subst a3 | (injection a3 with f1_ f2_ f3_; have f4_ := f1_.symm; have f5_ := f3_.symm; clear f1_ f2_ f3_; subst f4_; subst f5_))
       refine hK.out _ _ trivial (fun hHeld => ?_)
       clear hK K
       refine nB 41 ?_
       refine pA 16 42 ?_
       exact norm_ (Z34) (bU (.slice bI aA.length bJ, D) _ ⟨(Z99), (Z19), (Z53), aC.out, GE180.out, M.out, s.out, (Z14)⟩)
     ·skip
      rintro aE aZ ⟨h0_, h1_, h2_⟩
      have n0_ : Aside0 (Kd.R k130 130 aZ w.heap.size (fun _ => True) aE aA) := ⟨h0_⟩
      have n1_ : Aside0 (aZ.heap[y]? = some (.cells #[.int .i64 0, .int .i64 0, .int .i64 0, .int .i64 0, .string (⟨#[]⟩ : ByteArray), .slice none 0 0] 103 (0, 0))) := ⟨h1_⟩
      have n2_ : Aside0 (Below w.heap.size w aZ) := ⟨h2_⟩
      clear BK175
      clear HB
      clear h0_ h1_ h2_
      have HO179 := n0_
      have BK175 := n1_
      have HB := n2_
      clear n0_ n1_ n2_
      have hHeld := trivial
      obtain ⟨bI, bJ, a3⟩ := Kd.R_slice HO179.out
      (first | subst a3 | (injection a3 with f1_ f2_ f3_; have f4_ := f1_.symm; have f5_ := f3_.symm; clear f1_ f2_ f3_; subst f4_; subst f5_))
      refine norm_ (a' := ?_) ?_ ?_
      rotate_left
      ·simp only [putAll, Act.put, List.setIfInBounds_toArray, List.set_cons_zero, List.set_cons_succ]
       rfl
      refine oA 17 5 (fun K hK => ?_)
      refine box_step ?hg (N := 5) ?hd (cs := #[.int .i64 0, .int .i64 0, .int .i64 0, .int .i64 0, .string (⟨#[]⟩ : ByteArray), .slice none 0 0]) (t := 103) ?hr ?_; (case hd => rfl); (case hg => rfl); (case hr => first | (go_simp; done) | (go_simp; rfl))
      intro D hg fH hbox hb
      replace HO179 := aM (Kd.R_below (Z99) hb)
      have BK180 := aM (hbox)
      have aC := aM ((szE w hg (Z23)))
      have GE180 := aM ((szE w hg (Z23)))
      replace HB := aM (below_step (Z23) hb)
      have M := aM ((nL BK175 hg (Z19)))
      have s := aM ((nG BK175 hg (Z19)))
      replace BK175 := aM (kB BK175 (Z19) hb)
      clear hb hbox hg
      refine hK.out _ _ trivial (fun hHeld => ?_)
      clear hK K
      refine nB 5 ?_
      exact norm_ (Z34) (bU (.slice bI aA.length bJ, D) _ ⟨(Z99), (Z19), (Z53), aC.out, GE180.out, M.out, s.out, (Z14)⟩)
    rintro ⟨aE, D⟩ aN ⟨h0_, h1_, h2_, h3_, h4_, h5_, h6_, h7_⟩
    have n0_ : Aside0 (Kd.R k130 130 aN w.heap.size (fun _ => True) aE aA) := ⟨h0_⟩
    have n1_ : Aside0 (aN.heap[y]? = some (.cells #[.int .i64 0, .int .i64 0, .int .i64 0, .int .i64 0, .string (⟨#[]⟩ : ByteArray), .slice none 0 0] 103 (0, 0))) := ⟨h1_⟩
    have n2_ : Aside0 (aN.heap[D]? = some (.cells #[.int .i64 0, .int .i64 0, .int .i64 0, .int .i64 0, .string (⟨#[]⟩ : ByteArray), .slice none 0 0] 103 (0, 0))) := ⟨h2_⟩
    have n3_ : Aside0 (w.heap.size ≤ D) := ⟨h3_⟩
    have n4_ : Aside0 (w.heap.size ≤ D) := ⟨h4_⟩
    have n5_ : Aside0 (y ≠ D) := ⟨h5_⟩
    have n6_ : Aside0 (D ≠ y) := ⟨h6_⟩
    have n7_ : Aside0 (Below w.heap.size w aN) := ⟨h7_⟩
    clear BK175
    clear HB
    clear h0_ h1_ h2_ h3_ h4_ h5_ h6_ h7_
    have HO179 := n0_
    have BK175 := n1_
    have BK180 := n2_
    have aC := n3_
    have GE180 := n4_
    have M := n5_
    have s := n6_
    have HB := n7_
    clear n0_ n1_ n2_ n3_ n4_ n5_ n6_ n7_
    have hHeld := trivial
    obtain ⟨dO, dP, cV⟩ := Kd.R_slice HO179.out
    (first | subst cV | (injection cV with f1_ f2_ f3_; have f4_ := f1_.symm; have f5_ := f3_.symm; clear f1_ f2_ f3_; subst f4_; subst f5_))
    refine norm_ (a' := ?_) ?_ ?_
    rotate_left
    ·simp only [putAll, Act.put, List.setIfInBounds_toArray, List.set_cons_zero, List.set_cons_succ]
     rfl
    refine one_ (i := 18) (N := none) #[true, true, true, true, true, true, true, true, true, true, true, true, true, true, true, true, true, true, true] rfl rfl (one_of HT_.out (Z18)) (Z101) (fun K hK => ?_)
    have fJ : aN.cell? ⟨D, 0, none⟩ = some (.int .i64 0) := (blk_cell BK180.out 0).trans rfl
    have fK := blk_frozen BK180.out 0
    have fL := M.out
    have fM := s.out
    have fN : aN.cell? ⟨D, 1, none⟩ = some (.int .i64 0) := (blk_cell BK180.out 1).trans rfl
    have fO := blk_frozen BK180.out 1
    have fP := M.out
    have fQ := s.out
    have fR : aN.cell? ⟨D, 2, none⟩ = some (.int .i64 0) := (blk_cell BK180.out 2).trans rfl
    have fS := blk_frozen BK180.out 2
    have fU := M.out
    have fV := s.out
    have fW : aN.cell? ⟨D, 3, none⟩ = some (.int .i64 0) := (blk_cell BK180.out 3).trans rfl
    have fX := blk_frozen BK180.out 3
    have fY := M.out
    have fZ := s.out
    have f4 : aN.cell? ⟨D, 4, none⟩ = some (.string (⟨#[]⟩ : ByteArray)) := (blk_cell BK180.out 4).trans rfl
    have f5 := blk_frozen BK180.out 4
    have f6 := M.out
    have f7 := s.out
    have f8 : aN.cell? ⟨D, 5, none⟩ = some (.slice none 0 0) := (blk_cell BK180.out 5).trans rfl
    have f9 := blk_frozen BK180.out 5
    have gA := M.out
    have gB := s.out
    refine skip_ (w1 := ?_) (Z117) rfl ?_ ?_
    rotate_left
    ·go_simp
     rfl
    refine hK.out _ _ trivial (fun hHeld => ?_)
    clear hK K
    refine done_ (done_of HT_.out (Z18)) ?_
    have bX : 0 ≤ (3 : Int) := (Z42)
    have q23 : 3 < a0.size := (by have : (3 : Int) < (a0.size : Int) := of_decide_eq_true (Z4); omega)
    have dQ : ∀ h : 3 < a0.size, ((a0[3]'h).toNat : Int) = bt a0 3 := bt_at a0 3
    clear bX
    have dR : (3 < (a0.size : Int)) = True := eq_true (of_decide_eq_true (Z4))
    replace q23 := eq_true q23
    try go_wp2
    go_loopg [4, 6] a5 (fun kq v4 v6 w' => ∃ (I : Int) (aI : Int) (x176000_2 : Int) (x176001_2 : Int) (x176002_2 : Int) (x176003_2 : Int) (x176004_2 : ByteArray) (Z : List (S130)) (u181005 : Value), v4 = .int .i64 I ∧ v6 = .int .i64 aI ∧ Aside0 (spec_l09Read.l0 kq a0 I aI (wrap64 (bt a0 0)) J (wrap64 (bt a0 1)) (wrap64 (bt a0 2)) (a0.extract 7 ((wrap64 (7 + (wrap64 (bt a0 4)))) : Int).toNat) Z = some (r1, r2, r3, r4, r5, r6, r7)) ∧ Aside0 (kq ≤ a5) ∧ Aside0 (Kd.R k130 130 w' w.heap.size (fun _ => True) u181005 Z) ∧ Aside0 (w'.heap[y]? = some (.cells #[.int .i64 x176000_2, .int .i64 x176001_2, .int .i64 x176002_2, .int .i64 x176003_2, .string x176004_2, (.slice none 0 0)] 103 (0, 0))) ∧ Aside0 (w'.heap[D]? = some (.cells #[.int .i64 (wrap64 (bt a0 0)), .int .i64 J, .int .i64 (wrap64 (bt a0 1)), .int .i64 (wrap64 (bt a0 2)), .string (a0.extract 7 ((wrap64 (7 + (wrap64 (bt a0 4)))) : Int).toNat), u181005] 103 (0, 0))) ∧ Aside0 (Below w.heap.size w w'))
    case atStart => exact ⟨(wrap64 (7 + (wrap64 (bt a0 4)))), (wrap64 (bt a0 3)), (0), (0), (0), (0), ((⟨#[]⟩ : ByteArray)), (aA), (.slice dO aA.length dP), (Z3), (Z3), H', ⟨Nat.le_refl _⟩, ⟨by (with_reducible repeat (first | apply Kd.R_alloc | apply Kd.R_drewN | apply Kd.R_drew)); exact Kd.R_mono (rF 5 (rF 4 (rF 3 (rF 2 (rF 1 (rF 0 (Kd.R_types HO179.out BK180.out (Z101)))))))) (fun _ hk => trivial)⟩, ⟨zB⟩, ⟨by (with_reducible repeat (first | refine blk_drewN ?_ _ | refine blk_drew ?_ | refine blk_alloc ?_ _)); refine blk_put (cs := #[.int .i64 (wrap64 (bt a0 0)), .int .i64 J, .int .i64 (wrap64 (bt a0 1)), .int .i64 (wrap64 (bt a0 2)), .string (a0.extract 7 ((wrap64 (7 + (wrap64 (bt a0 4)))) : Int).toNat), .slice none 0 0]) ?_ 5 _ rfl; (with_reducible repeat (first | refine blk_drewN ?_ _ | refine blk_drew ?_ | refine blk_alloc ?_ _)); refine blk_put (cs := #[.int .i64 (wrap64 (bt a0 0)), .int .i64 J, .int .i64 (wrap64 (bt a0 1)), .int .i64 (wrap64 (bt a0 2)), .string (⟨#[]⟩ : ByteArray), .slice none 0 0]) ?_ 4 _ rfl; (with_reducible repeat (first | refine blk_drewN ?_ _ | refine blk_drew ?_ | refine blk_alloc ?_ _)); refine blk_put (cs := #[.int .i64 (wrap64 (bt a0 0)), .int .i64 J, .int .i64 (wrap64 (bt a0 1)), .int .i64 0, .string (⟨#[]⟩ : ByteArray), .slice none 0 0]) ?_ 3 _ rfl; (with_reducible repeat (first | refine blk_drewN ?_ _ | refine blk_drew ?_ | refine blk_alloc ?_ _)); refine blk_put (cs := #[.int .i64 (wrap64 (bt a0 0)), .int .i64 J, .int .i64 0, .int .i64 0, .string (⟨#[]⟩ : ByteArray), .slice none 0 0]) ?_ 2 _ rfl; (with_reducible repeat (first | refine blk_drewN ?_ _ | refine blk_drew ?_ | refine blk_alloc ?_ _)); refine blk_put (cs := #[.int .i64 (wrap64 (bt a0 0)), .int .i64 0, .int .i64 0, .int .i64 0, .string (⟨#[]⟩ : ByteArray), .slice none 0 0]) ?_ 1 _ rfl; (with_reducible repeat (first | refine blk_drewN ?_ _ | refine blk_drew ?_ | refine blk_alloc ?_ _)); refine blk_put (cs := #[.int .i64 0, .int .i64 0, .int .i64 0, .int .i64 0, .string (⟨#[]⟩ : ByteArray), .slice none 0 0]) ?_ 0 _ rfl; (with_reducible repeat (first | refine blk_drewN ?_ _ | refine blk_drew ?_ | refine blk_alloc ?_ _)); exact BK180.out⟩, ⟨Z14⟩⟩
    case round =>
     clear H'
     (try clear bX); (try clear q23); (try clear dQ); (try clear dR); (try clear bX); (try clear q23)
     obtain ⟨I, aI, x176000_2, x176001_2, x176002_2, x176003_2, x176004_2, Z, u181005, rfl, rfl, HA, HK2, HO_181005, BK175, BK180, HB⟩ := hrel
     cases gk with
     | zero => exact absurd HA.out (by simp [spec_l09Read.l0])
     | succ k2 =>
      have H := HA.out
      clear HA
      simp only [spec_l09Read.l0] at H
      by_cases a7 : aI > 0
      ·rw [if_pos a7] at H
       have dU : decide (0 < aI) = true := decide_eq_true a7
       clear a7
       by_cases a8 : (wrap64 (I + 4)) > (a0.size : Int)
       ·rw [if_pos a8] at H
        have cX : decide ((a0.size : Int) < (wrap64 (I + 4))) = true := decide_eq_true a8
        clear a8
        simp only [Option.some.injEq, Prod.mk.injEq] at H
        obtain ⟨rfl, rfl, rfl, rfl, rfl, rfl, rfl⟩ := H
        have gG := M.out
        have gI := s.out
        refine bD6 BK175 ?_
        intros
        go_wp2
        refine bodyPost_ret (results_ct rfl _ _ y 103 #[.int .i64 0, .int .i64 0, .int .i64 0, .int .i64 0, .string (⟨#[]⟩ : ByteArray), .slice none 0 0] (0, 0) _ rfl (Z29) underlying103 rfl (Z18)) rfl ?_
        exact ⟨_, Z1, Z135, Z14⟩
       ·rw [if_neg a8] at H
        have cX : decide ((a0.size : Int) < (wrap64 (I + 4))) = false := decide_eq_false a8
        clear a8
        obtain ⟨bY, H⟩ := ifS H
        have gJ := eq_true bY
        have gK : decide (0 ≤ I) = true := decide_eq_true bY
        clear bY
        obtain ⟨bZ, H⟩ := ifS H
        have dV := eq_true bZ
        have dW : decide (I ≤ (wrap64 (I + 2))) = true := decide_eq_true bZ
        obtain ⟨b0, H⟩ := ifS H
        have dX := eq_true b0
        have dY : decide ((wrap64 (I + 2)) ≤ (a0.size : Int)) = true := decide_eq_true b0
        obtain ⟨O, bK, H⟩ := bindA H
        try dsimp only at H
        obtain ⟨aG, hji45⟩ : ∃ j_ : Int, (wrap64 (I + 2)) = j_ := ⟨_, rfl⟩
        replace H : (if 0 ≤ (aG) then (if (aG) ≤ (wrap64 (I + 4)) then (if (wrap64 (I + 4)) ≤ (a0.size : Int) then ((spec_l08Number.f k2 (a0.extract ((aG) : Int).toNat ((wrap64 (I + 4)) : Int).toNat)).bind fun X => (if (wrap64 ((wrap64 ((wrap64 (I + 4)) + O)) + X)) > (a0.size : Int) then (some (0, 0, 0, 0, (⟨#[]⟩ : ByteArray), ([] : List (S130)), false)) else (if 0 ≤ (wrap64 (I + 4)) then (if (wrap64 (I + 4)) ≤ (wrap64 ((wrap64 (I + 4)) + O)) then (if (wrap64 ((wrap64 (I + 4)) + O)) ≤ (a0.size : Int) then (if 0 ≤ (wrap64 ((wrap64 (I + 4)) + O)) then (if (wrap64 ((wrap64 (I + 4)) + O)) ≤ (wrap64 ((wrap64 ((wrap64 (I + 4)) + O)) + X)) then (if (wrap64 ((wrap64 ((wrap64 (I + 4)) + O)) + X)) ≤ (a0.size : Int) then (if Z.length < 4398046511104 then (spec_l09Read.l0 k2 a0 (wrap64 ((wrap64 (I + 4)) + (wrap64 (O + X)))) (wrap64 (aI - 1)) (wrap64 (bt a0 0)) J (wrap64 (bt a0 1)) (wrap64 (bt a0 2)) (a0.extract 7 ((wrap64 (7 + (wrap64 (bt a0 4)))) : Int).toNat) (Z ++ [(⟨a0.extract ((wrap64 (I + 4)) : Int).toNat ((wrap64 ((wrap64 (I + 4)) + O)) : Int).toNat, a0.extract ((wrap64 ((wrap64 (I + 4)) + O)) : Int).toNat ((wrap64 ((wrap64 ((wrap64 (I + 4)) + O)) + X)) : Int).toNat⟩ : S130)])) else (none)) else (none)) else (none)) else (none)) else (none)) else (none)) else (none)))) else (none)) else (none)) else (none)) = some (r1, r2, r3, r4, r5, r6, r7) := by first | (rw [hji45] at H; exact H) | (simp only [hji45] at H ⊢; exact H)
        (try rw [hji45] at dV)
        (try rw [hji45] at dW)
        (try rw [hji45] at bZ)
        (try rw [hji45] at dX)
        (try rw [hji45] at dY)
        (try rw [hji45] at b0)
        (try rw [hji45] at bK)
        have hji45w : (IntKind.i64.wrap (I + 2)) = aG := (i64_w _).trans hji45
        obtain ⟨b1, H⟩ := ifS H
        have gP := eq_true b1
        have gQ : decide (0 ≤ (aG)) = true := decide_eq_true b1
        clear b1
        obtain ⟨b2, H⟩ := ifS H
        have dZ := eq_true b2
        have d0 : decide ((aG) ≤ (wrap64 (I + 4))) = true := decide_eq_true b2
        obtain ⟨b6, H⟩ := ifS H
        have d1 := eq_true b6
        have d2 : decide ((wrap64 (I + 4)) ≤ (a0.size : Int)) = true := decide_eq_true b6
        obtain ⟨X, bP, H⟩ := bindA H
        try dsimp only at H
        by_cases a9 : (wrap64 ((wrap64 ((wrap64 (I + 4)) + O)) + X)) > (a0.size : Int)
        ·rw [if_pos a9] at H
         have cY : decide ((a0.size : Int) < (wrap64 ((wrap64 ((wrap64 (I + 4)) + O)) + X))) = true := decide_eq_true a9
         clear a9
         simp only [Option.some.injEq, Prod.mk.injEq] at H
         obtain ⟨rfl, rfl, rfl, rfl, rfl, rfl, rfl⟩ := H
         go_wp2_with (first | ((with_reducible refine gC 52 ?_); refine gL 61 func52 #[.string (a0.extract (I : Int).toNat ((aG) : Int).toNat)] ?_; (with_reducible refine (spec_l08Number.calls k2 (a0.extract (I : Int).toNat ((aG) : Int).toNat) O _ bK.out).mono ?_); rintro e w' ⟨rfl, ⟨nd, rfl⟩⟩; refine ⟨_, rfl, ?_⟩; (try (rw [drewN_self wr]; generalize hq_ : World.drewN wr _ = wr; have n0_ : Aside0 (Kd.R k130 130 wr w.heap.size (fun _ => True) u181005 Z) := ⟨Z157⟩; have n1_ : Aside0 (wr.heap[y]? = some (.cells #[.int .i64 x176000_2, .int .i64 x176001_2, .int .i64 x176002_2, .int .i64 x176003_2, .string x176004_2, .slice none 0 0] 103 (0, 0))) := ⟨Z154⟩; have n2_ : Aside0 (wr.heap[D]? = some (.cells #[.int .i64 (wrap64 (bt a0 0)), .int .i64 J, .int .i64 (wrap64 (bt a0 1)), .int .i64 (wrap64 (bt a0 2)), .string (a0.extract 7 ((wrap64 (7 + (wrap64 (bt a0 4)))) : Int).toNat), u181005] 103 (0, 0))) := ⟨Z155⟩; have n3_ : Aside0 (Below w.heap.size w wr) := ⟨Z110⟩; clear HO_181005 BK175 BK180 HB hq_; have HO_181005 := n0_; have BK175 := n1_; have BK180 := n2_; have HB := n3_; clear n0_ n1_ n2_ n3_))) | ((with_reducible refine gC 52 ?_); refine gL 68 func52 #[.string (a0.extract ((aG) : Int).toNat ((wrap64 (I + 4)) : Int).toNat)] ?_; (with_reducible refine (spec_l08Number.calls k2 (a0.extract ((aG) : Int).toNat ((wrap64 (I + 4)) : Int).toNat) X _ bP.out).mono ?_); rintro e w' ⟨rfl, ⟨nd, rfl⟩⟩; refine ⟨_, rfl, ?_⟩; (try (rw [drewN_self wr]; generalize hq_ : World.drewN wr _ = wr; have n0_ : Aside0 (Kd.R k130 130 wr w.heap.size (fun _ => True) u181005 Z) := ⟨Z157⟩; have n1_ : Aside0 (wr.heap[y]? = some (.cells #[.int .i64 x176000_2, .int .i64 x176001_2, .int .i64 x176002_2, .int .i64 x176003_2, .string x176004_2, .slice none 0 0] 103 (0, 0))) := ⟨Z154⟩; have n2_ : Aside0 (wr.heap[D]? = some (.cells #[.int .i64 (wrap64 (bt a0 0)), .int .i64 J, .int .i64 (wrap64 (bt a0 1)), .int .i64 (wrap64 (bt a0 2)), .string (a0.extract 7 ((wrap64 (7 + (wrap64 (bt a0 4)))) : Int).toNat), u181005] 103 (0, 0))) := ⟨Z155⟩; have n3_ : Aside0 (Below w.heap.size w wr) := ⟨Z110⟩; clear HO_181005 BK175 BK180 HB hq_; have HO_181005 := n0_; have BK175 := n1_; have BK180 := n2_; have HB := n3_; clear n0_ n1_ n2_ n3_)); have gR := M.out; have gU := s.out; refine bD6 BK175 ?_; intros))
         refine bodyPost_ret (results_ct rfl _ _ y 103 #[.int .i64 0, .int .i64 0, .int .i64 0, .int .i64 0, .string (⟨#[]⟩ : ByteArray), .slice none 0 0] (0, 0) _ rfl (Z29) underlying103 rfl (Z18)) rfl ?_
         exact ⟨_, by first | rfl | (simp only [nil_beq, nil_bne]; rfl) | (simp [nil_beq, nil_bne]; done) | (simp [errW_none, errW_some] <;> rfl) | (simp only [← hji45]; first | rfl | (simp [errW_none, errW_some] <;> rfl)) | (simp [*, errW_none, errW_some] <;> rfl), Z135, Z14⟩
        ·rw [if_neg a9] at H
         have cY : decide ((a0.size : Int) < (wrap64 ((wrap64 ((wrap64 (I + 4)) + O)) + X))) = false := decide_eq_false a9
         clear a9
         obtain ⟨U, aD⟩ : ∃ j_ : Int, (wrap64 (I + 4)) = j_ := ⟨_, rfl⟩
         replace H : (if 0 ≤ (U) then (if (U) ≤ (wrap64 ((U) + O)) then (if (wrap64 ((U) + O)) ≤ (a0.size : Int) then (if 0 ≤ (wrap64 ((U) + O)) then (if (wrap64 ((U) + O)) ≤ (wrap64 ((wrap64 ((U) + O)) + X)) then (if (wrap64 ((wrap64 ((U) + O)) + X)) ≤ (a0.size : Int) then (if Z.length < 4398046511104 then (spec_l09Read.l0 k2 a0 (wrap64 ((U) + (wrap64 (O + X)))) (wrap64 (aI - 1)) (wrap64 (bt a0 0)) J (wrap64 (bt a0 1)) (wrap64 (bt a0 2)) (a0.extract 7 ((wrap64 (7 + (wrap64 (bt a0 4)))) : Int).toNat) (Z ++ [(⟨a0.extract ((U) : Int).toNat ((wrap64 ((U) + O)) : Int).toNat, a0.extract ((wrap64 ((U) + O)) : Int).toNat ((wrap64 ((wrap64 ((U) + O)) + X)) : Int).toNat⟩ : S130)])) else (none)) else (none)) else (none)) else (none)) else (none)) else (none)) else (none)) = some (r1, r2, r3, r4, r5, r6, r7) := by first | (rw [aD] at H; exact H) | (simp only [aD] at H ⊢; exact H)
         (try rw [aD] at cX)
         (try rw [aD] at dZ)
         (try rw [aD] at d0)
         (try rw [aD] at b2)
         (try rw [aD] at d1)
         (try rw [aD] at d2)
         (try rw [aD] at b6)
         (try rw [aD] at cY)
         (try rw [aD] at bK)
         (try rw [aD] at bP)
         have hji53w : (IntKind.i64.wrap (I + 4)) = U := (i64_w _).trans aD
         obtain ⟨b7, H⟩ := ifS H
         have gV := eq_true b7
         have gW : decide (0 ≤ (U)) = true := decide_eq_true b7
         clear b7
         obtain ⟨b8, H⟩ := ifS H
         have d3 := eq_true b8
         have d4 : decide ((U) ≤ (wrap64 ((U) + O))) = true := decide_eq_true b8
         obtain ⟨b9, H⟩ := ifS H
         have d5 := eq_true b9
         have d6 : decide ((wrap64 ((U) + O)) ≤ (a0.size : Int)) = true := decide_eq_true b9
         obtain ⟨Y, aK⟩ : ∃ j_ : Int, (wrap64 ((U) + O)) = j_ := ⟨_, rfl⟩
         replace H : (if 0 ≤ (Y) then (if (Y) ≤ (wrap64 ((Y) + X)) then (if (wrap64 ((Y) + X)) ≤ (a0.size : Int) then (if Z.length < 4398046511104 then (spec_l09Read.l0 k2 a0 (wrap64 ((U) + (wrap64 (O + X)))) (wrap64 (aI - 1)) (wrap64 (bt a0 0)) J (wrap64 (bt a0 1)) (wrap64 (bt a0 2)) (a0.extract 7 ((wrap64 (7 + (wrap64 (bt a0 4)))) : Int).toNat) (Z ++ [(⟨a0.extract ((U) : Int).toNat ((Y) : Int).toNat, a0.extract ((Y) : Int).toNat ((wrap64 ((Y) + X)) : Int).toNat⟩ : S130)])) else (none)) else (none)) else (none)) else (none)) = some (r1, r2, r3, r4, r5, r6, r7) := by first | (rw [aK] at H; exact H) | (simp only [aK] at H ⊢; exact H)
         (try rw [aK] at d3)
         (try rw [aK] at d4)
         (try rw [aK] at b8)
         (try rw [aK] at d5)
         (try rw [aK] at d6)
         (try rw [aK] at b9)
         (try rw [aK] at bK)
         (try rw [aK] at bP)
         have hji57w : (IntKind.i64.wrap ((U) + O)) = Y := (i64_w _).trans aK
         obtain ⟨cA, H⟩ := ifS H
         have gX := eq_true cA
         have gY : decide (0 ≤ (Y)) = true := decide_eq_true cA
         clear cA
         obtain ⟨cZ, H⟩ := ifS H
         have gZ := eq_true cZ
         have g0 : decide ((Y) ≤ (wrap64 ((Y) + X))) = true := decide_eq_true cZ
         obtain ⟨dA, H⟩ := ifS H
         have g1 := eq_true dA
         have g3 : decide ((wrap64 ((Y) + X)) ≤ (a0.size : Int)) = true := decide_eq_true dA
         obtain ⟨dB, H⟩ := ifS H
         have eA := aM dB
         clear dB
         obtain ⟨cC, bL⟩ : ∃ y_ : List (S130), y_ = (Z ++ [(⟨a0.extract ((U) : Int).toNat ((Y) : Int).toNat, a0.extract ((Y) : Int).toNat ((wrap64 ((Y) + X)) : Int).toNat⟩ : S130)]) := ⟨_, rfl⟩
         replace H : (spec_l09Read.l0 k2 a0 (wrap64 ((U) + (wrap64 (O + X)))) (wrap64 (aI - 1)) (wrap64 (bt a0 0)) J (wrap64 (bt a0 1)) (wrap64 (bt a0 2)) (a0.extract 7 ((wrap64 (7 + (wrap64 (bt a0 4)))) : Int).toNat) cC) = some (r1, r2, r3, r4, r5, r6, r7) := by first | (rw [bL]; with_reducible exact H) | (have H2_ := (Option.bind_some _ _).symm.trans H; rw [bL]; with_reducible exact H2_) | (have H2_ := (Option.bind_some _ _).symm.trans H; with_reducible exact H2_) | with_reducible exact H | (rw [bL]; exact H) | exact H
         have eB := aM bL
         clear bL
         have H' := aM H
         clear H
         try go_wp2_with (first | ((with_reducible refine gC 52 ?_); refine gL 61 func52 #[.string (a0.extract (I : Int).toNat ((aG) : Int).toNat)] ?_; (with_reducible refine (spec_l08Number.calls k2 (a0.extract (I : Int).toNat ((aG) : Int).toNat) O _ bK.out).mono ?_); rintro e w' ⟨rfl, ⟨nd, rfl⟩⟩; refine ⟨_, rfl, ?_⟩; (try (rw [drewN_self wr]; generalize hq_ : World.drewN wr _ = wr; have n0_ : Aside0 (Kd.R k130 130 wr w.heap.size (fun _ => True) u181005 Z) := ⟨Z157⟩; have n1_ : Aside0 (wr.heap[y]? = some (.cells #[.int .i64 x176000_2, .int .i64 x176001_2, .int .i64 x176002_2, .int .i64 x176003_2, .string x176004_2, .slice none 0 0] 103 (0, 0))) := ⟨Z154⟩; have n2_ : Aside0 (wr.heap[D]? = some (.cells #[.int .i64 (wrap64 (bt a0 0)), .int .i64 J, .int .i64 (wrap64 (bt a0 1)), .int .i64 (wrap64 (bt a0 2)), .string (a0.extract 7 ((wrap64 (7 + (wrap64 (bt a0 4)))) : Int).toNat), u181005] 103 (0, 0))) := ⟨Z155⟩; have n3_ : Aside0 (Below w.heap.size w wr) := ⟨Z110⟩; clear HO_181005 BK175 BK180 HB hq_; have HO_181005 := n0_; have BK175 := n1_; have BK180 := n2_; have HB := n3_; clear n0_ n1_ n2_ n3_))) | ((with_reducible refine gC 52 ?_); refine goesL_ (some 68) rfl rfl func52 (Z18) rfl #[.string (a0.extract ((aG) : Int).toNat ((U) : Int).toNat)] rfl (by (try simp only [List.map_toArray, List.map_cons, List.map_nil]); first | done | (simp only [hji45, aD]; rfl) | rfl | (simp only [List.length_drop, List.length_take]; rfl)) ?_; (with_reducible refine (spec_l08Number.calls k2 (a0.extract ((aG) : Int).toNat ((U) : Int).toNat) X _ bP.out).mono ?_); rintro e w' ⟨rfl, ⟨nd, rfl⟩⟩; refine ⟨_, rfl, ?_⟩; (try (rw [drewN_self wr]; generalize hq_ : World.drewN wr _ = wr; have n0_ : Aside0 (Kd.R k130 130 wr w.heap.size (fun _ => True) u181005 Z) := ⟨Z157⟩; have n1_ : Aside0 (wr.heap[y]? = some (.cells #[.int .i64 x176000_2, .int .i64 x176001_2, .int .i64 x176002_2, .int .i64 x176003_2, .string x176004_2, .slice none 0 0] 103 (0, 0))) := ⟨Z154⟩; have n2_ : Aside0 (wr.heap[D]? = some (.cells #[.int .i64 (wrap64 (bt a0 0)), .int .i64 J, .int .i64 (wrap64 (bt a0 1)), .int .i64 (wrap64 (bt a0 2)), .string (a0.extract 7 ((wrap64 (7 + (wrap64 (bt a0 4)))) : Int).toNat), u181005] 103 (0, 0))) := ⟨Z155⟩; have n3_ : Aside0 (Below w.heap.size w wr) := ⟨Z110⟩; clear HO_181005 BK175 BK180 HB hq_; have HO_181005 := n0_; have BK175 := n1_; have BK180 := n2_; have HB := n3_; clear n0_ n1_ n2_ n3_))))
         replace HO_181005 := aM (Kd.R_drew HO_181005.out)
         replace BK175 := aM (blk_drew BK175.out)
         replace BK180 := aM (blk_drew BK180.out)
         replace HB := aM (below_drew1 HB.out)
         refine start_ (n := 23) (S := fun w' => qc6 D (.int .i64 (wrap64 (bt a0 0))) (.int .i64 J) (.int .i64 (wrap64 (bt a0 1))) (.int .i64 (wrap64 (bt a0 2))) (.string (a0.extract 7 ((wrap64 (7 + (wrap64 (bt a0 4)))) : Int).toNat)) (u181005) w') (ds := [22]) #[false, false, false, false, false, false, false, false, false, false, false, false, false, false, false, false, false, false, false, false, false, false, false] (Z18) rfl rfl (bc6 BK180.out) (fun hHeld => ?_); refine with_tabW spec_l09Read.tab15 spec_l09Read.bits15 (fun HT_ HW_ => ?_)
         generalize wr.drew = g4 at HO_181005 BK175 BK180 HB hHeld ⊢
         refine pA 0 80 ?_
         refine pA 2 82 ?_
         refine pA 3 83 ?_
         refine pA 4 84 ?_
         refine pA 5 85 ?_
         refine pA 6 86 ?_
         refine pA 7 87 ?_
         refine pA 8 88 ?_
         refine pA 9 89 ?_
         refine pA 10 90 ?_
         refine pA 11 91 ?_
         refine pA 12 92 ?_
         refine pA 13 93 ?_
         refine pA 14 94 ?_
         refine pA 15 95 ?_
         refine pA 16 96 ?_
         refine pA 17 97 ?_
         refine pA 18 98 ?_
         refine tA 1 81 ?_
         refine oA 19 99 (fun K hK => ?_)
         refine value_ (w1 := ?_) (v := ?_) (Z117) rfl ?_ ?_
         rotate_left 2
         ·go_simp
          constructor
          ·rfl
          ·rfl
         refine hK.out _ _ (bc6 (blk_alloc BK180.out _)) (fun hHeld => ?_)
         clear hK K
         refine nB 99 ?_
         refine oA 20 100 (fun K hK => ?_)
         refine Kd.R_append_step k130 (w0 := w) w.heap.size (Z117) (.tmp 81) (.tmp 99) 101 130 (.agg #[(.string ⟨#[]⟩), (.string ⟨#[]⟩)]) 32 rfl underlying101 info130 rfl (Z101) (Z42) u181005 Z (⟨a0.extract ((U) : Int).toNat ((Y) : Int).toNat, a0.extract ((Y) : Int).toNat ((wrap64 ((Y) + X)) : Int).toNat⟩ : S130) [.string (a0.extract ((U) : Int).toNat ((Y) : Int).toNat), .string (a0.extract ((Y) : Int).toNat ((wrap64 ((Y) + X)) : Int).toNat)] (fun _ => True) (fun _ => False) rfl rfl ?aP (fun _ hk => hk.elim) ?aF ?aO ?aB ?aS ?aL ?_
         (case aP => exact k130_mkM _ _ _ (⟨a0.extract ((U) : Int).toNat ((Y) : Int).toNat, a0.extract ((Y) : Int).toNat ((wrap64 ((Y) + X)) : Int).toNat⟩ : S130))
         (case aB => exact (Z14))
         (case aF => exact (fun _ _ => trivial))
         (case aO => exact (Z137))
         (case aS => exact (below_size (Z14)))
         (case aL => have := eA.out; omega)
         intro g5 eC ho hb hg hat
         rw [← eB.out] at ho
         have n0_ := aM (blk_grown (g := y) (o := .cells #[.int .i64 x176000_2, .int .i64 x176001_2, .int .i64 x176002_2, .int .i64 x176003_2, .string x176004_2, .slice none 0 0] 103 (0, 0)) (Z19) hg (Kd.R_ne HO_181005.out BK175.out (Z101)))
         have n1_ := aM (blk_grown (g := D) (o := .cells #[.int .i64 (wrap64 (bt a0 0)), .int .i64 J, .int .i64 (wrap64 (bt a0 1)), .int .i64 (wrap64 (bt a0 2)), .string (a0.extract 7 ((wrap64 (7 + (wrap64 (bt a0 4)))) : Int).toNat), u181005] 103 (0, 0)) (Z53) hg (Kd.R_ne HO_181005.out BK180.out (Z101)))
         have n2_ := aM (hb)
         have n3_ := aM (ho)
         clear BK175
         clear BK180
         clear HB
         clear HO_181005
         have BK175 := n0_
         have BK180 := n1_
         have HB := n2_
         have dC := n3_
         clear n0_ n1_ n2_ n3_
         clear ho hb hg hat
         obtain ⟨eD, eE, dD⟩ := Kd.R_slice dC.out
         (first | subst dD | (injection dD with f1_ f2_ f3_; have f4_ := f1_.symm; have f5_ := f3_.symm; clear f1_ f2_ f3_; subst f4_; subst f5_))
         refine hK.out _ _ (bc6 BK180.out) (fun hHeld => ?_)
         clear hK K
         refine nB 100 ?_
         refine pA 21 101 ?_
         refine last_ (i := 22) (N := none) #[true, true, true, true, true, true, true, true, true, true, true, true, true, true, true, true, true, true, true, true, true, true, true] rfl rfl (one_of HT_.out (Z18)) (Z101) (fun K hK => ?_)
         have g6 : eC.cell? ⟨D, 5, none⟩ = some (u181005) := (blk_cell BK180.out 5).trans rfl
         have g7 := blk_frozen BK180.out 5
         have g8 := M.out
         have g9 := s.out
         refine skip_ (w1 := ?_) (Z117) rfl ?_ ?_
         rotate_left
         ·go_simp
          rfl
         refine hK.out _ _ ?_
         clear hK K
         refine done_ (done_of HT_.out (Z18)) ?_
         try go_wp2
         go_roundg k2
         case measure => have := HJ1.out; have := HK2.out; omega
         case rel => exact ⟨(wrap64 ((U) + (wrap64 (O + X)))), (wrap64 (aI - 1)), (x176000_2), (x176001_2), (x176002_2), (x176003_2), (x176004_2), (cC), (.slice eD cC.length eE), (by first | rfl | (simp; done) | (simp only [← aD] <;> (first | rfl | simp)) | (simp [*]; done)), (Z3), H', ⟨Z183⟩, ⟨by (with_reducible repeat (first | apply Kd.R_alloc | apply Kd.R_drewN | apply Kd.R_drew)); exact Kd.R_mono (rF 5 (Kd.R_types dC.out BK180.out (Z101))) (fun _ hk => trivial)⟩, ⟨zB⟩, ⟨by (with_reducible repeat (first | refine blk_drewN ?_ _ | refine blk_drew ?_ | refine blk_alloc ?_ _)); refine blk_put (cs := #[.int .i64 (wrap64 (bt a0 0)), .int .i64 J, .int .i64 (wrap64 (bt a0 1)), .int .i64 (wrap64 (bt a0 2)), .string (a0.extract 7 ((wrap64 (7 + (wrap64 (bt a0 4)))) : Int).toNat), u181005]) ?_ 5 _ rfl; (with_reducible repeat (first | refine blk_drewN ?_ _ | refine blk_drew ?_ | refine blk_alloc ?_ _)); exact BK180.out⟩, ⟨Z14⟩⟩
      ·rw [if_neg a7] at H
       have dU : decide (0 < aI) = false := decide_eq_false a7
       clear a7
       by_cases a6 : I = (a0.size : Int)
       ·rw [if_pos a6] at H
        have eF := beq_iff_eq.mpr a6
        have eG := bne_eq_false_iff_eq.mpr a6
        clear a6
        obtain ⟨eH, eI, H⟩ := bindA H
        try dsimp only at H
        simp only [Option.some.injEq, Prod.mk.injEq] at H
        obtain ⟨rfl, rfl, rfl, rfl, rfl, rfl, rfl⟩ := H
        try go_wp2
        replace HO_181005 := aM (Kd.R_drew HO_181005.out)
        replace BK175 := aM (blk_drew BK175.out)
        replace BK180 := aM (blk_drew BK180.out)
        replace HB := aM (below_drew1 HB.out)
        obtain ⟨cD, cG, dE⟩ := Kd.R_slice HO_181005.out
        (first | subst dE | (injection dE with f1_ f2_ f3_; have f4_ := f1_.symm; have f5_ := f3_.symm; clear f1_ f2_ f3_; subst f4_; subst f5_))
        refine start_ (n := 11) (S := fun w' => qc6 D (.int .i64 (wrap64 (bt a0 0))) (.int .i64 J) (.int .i64 (wrap64 (bt a0 1))) (.int .i64 (wrap64 (bt a0 2))) (.string (a0.extract 7 ((wrap64 (7 + (wrap64 (bt a0 4)))) : Int).toNat)) (.slice cD Z.length cG) w') (ds := []) #[false, false, false, false, false, false, false, false, false, false, false] (Z18) rfl rfl (bc6 BK180.out) (fun hHeld => ?_); refine with_tabW spec_l09Read.tab17 spec_l09Read.bits17 (fun HT_ HW_ => ?_)
        generalize wr.drew = hC at HO_181005 BK175 BK180 HB hHeld ⊢
        refine pA 1 108 ?_
        refine pA 2 109 ?_
        refine pA 3 110 ?_
        refine pA 4 111 ?_
        refine pA 5 112 ?_
        refine tA 0 107 ?_
        refine tA 6 113 ?_
        refine oA 7 114 (fun K hK => ?_)
        refine goes_ func85 (Z18) rfl #[.agg #[.int .i64 (wrap64 (bt a0 0)), .int .i64 J, .int .i64 (wrap64 (bt a0 1)), .int .i64 (wrap64 (bt a0 2)), .string (a0.extract 7 ((wrap64 (7 + (wrap64 (bt a0 4)))) : Int).toNat), .slice cD Z.length cG]] (Z117) rfl rfl (Z2) ?_
        with_reducible refine (spec_MutationOK.calls k2 (wrap64 (bt a0 0)) J (wrap64 (bt a0 1)) (wrap64 (bt a0 2)) (a0.extract 7 ((wrap64 (7 + (wrap64 (bt a0 4)))) : Int).toNat) _ _ Z eH _ ?Y1 ?Y2 eI.out).mono ?_
        (case Y1 => have h_ := (Kd.R_reads' HO_181005.out).2.2; exact tC)
        (case Y2 => exact (Kd.R_reads' HO_181005.out).2.1)
        rintro e bA ⟨rfl, hb⟩
        refine ⟨_, rfl, ?_⟩
        replace HO_181005 := aM (Kd.R_below (Z137) hb)
        replace BK175 := aM (kB BK175 (Z19) hb)
        replace BK180 := aM (kB BK180 (Z53) hb)
        replace HB := aM (below_step (Z14) hb)
        (try clear hb); (try clear hk)
        refine hK.out _ _ (bc6 BK180.out) (fun hHeld => ?_)
        clear hK K
        refine nB 114 ?_
        refine pA 8 115 ?_
        refine one_ (i := 9) (N := none) #[true, true, true, true, true, true, true, true, true, true, false] rfl rfl (one_of HT_.out (Z18)) (Z101) (fun K hK => ?_)
        have hD : bA.cell? ⟨y, 0, none⟩ = some (.int .i64 x176000_2) := (blk_cell BK175.out 0).trans rfl
        have hE := blk_frozen BK175.out 0
        have hF := s.out
        have hG := M.out
        have hH : bA.cell? ⟨y, 1, none⟩ = some (.int .i64 x176001_2) := (blk_cell BK175.out 1).trans rfl
        have hI := blk_frozen BK175.out 1
        have hJ := s.out
        have hL := M.out
        have hM : bA.cell? ⟨y, 2, none⟩ = some (.int .i64 x176002_2) := (blk_cell BK175.out 2).trans rfl
        have hO := blk_frozen BK175.out 2
        have hP := s.out
        have hR := M.out
        have hT : bA.cell? ⟨y, 3, none⟩ = some (.int .i64 x176003_2) := (blk_cell BK175.out 3).trans rfl
        have hU := blk_frozen BK175.out 3
        have hV := s.out
        have hW := M.out
        have hX : bA.cell? ⟨y, 4, none⟩ = some (.string x176004_2) := (blk_cell BK175.out 4).trans rfl
        have hY := blk_frozen BK175.out 4
        have hZ := s.out
        have h0 := M.out
        have h3 : bA.cell? ⟨y, 5, none⟩ = some (.slice none 0 0) := (blk_cell BK175.out 5).trans rfl
        have h4 := blk_frozen BK175.out 5
        have h5 := s.out
        have h6 := M.out
        refine skip_ (w1 := ?_) (Z117) rfl ?_ ?_
        rotate_left
        ·go_simp
         rfl
        refine hK.out _ _ ⟨(cF s ((cF s ((cF s ((cF s ((cF s ((cF s (hHeld.1)))))))))))), ⟨(cF s ((cF s ((cF s ((cF s ((cF s ((cF s (hHeld.2.1)))))))))))), ⟨(cF s ((cF s ((cF s ((cF s ((cF s ((cF s (hHeld.2.2.1)))))))))))), ⟨(cF s ((cF s ((cF s ((cF s ((cF s ((cF s (hHeld.2.2.2.1)))))))))))), ⟨(cF s ((cF s ((cF s ((cF s ((cF s ((cF s (hHeld.2.2.2.2.1)))))))))))), (cF s ((cF s ((cF s ((cF s ((cF s ((cF s (hHeld.2.2.2.2.2))))))))))))⟩⟩⟩⟩⟩ (fun hHeld => ?_)
        clear hK K
        refine pA 10 3 ?_
        refine done_ (done_of HT_.out (Z18)) ?_
        try go_wp2
        refine bodyPost_ret (results_ct rfl _ _ y 103 #[.int .i64 (wrap64 (bt a0 0)), .int .i64 J, .int .i64 (wrap64 (bt a0 1)), .int .i64 (wrap64 (bt a0 2)), .string (a0.extract 7 ((wrap64 (7 + (wrap64 (bt a0 4)))) : Int).toNat), .slice cD Z.length cG] (0, 0) _ rfl (by (with_reducible repeat (first | refine blk_drewN ?_ _ | refine blk_drew ?_ | refine blk_alloc ?_ _)); refine blk_put (cs := #[.int .i64 (wrap64 (bt a0 0)), .int .i64 J, .int .i64 (wrap64 (bt a0 1)), .int .i64 (wrap64 (bt a0 2)), .string (a0.extract 7 ((wrap64 (7 + (wrap64 (bt a0 4)))) : Int).toNat), .slice none 0 0]) ?_ 5 _ rfl; (with_reducible repeat (first | refine blk_drewN ?_ _ | refine blk_drew ?_ | refine blk_alloc ?_ _)); refine blk_put (cs := #[.int .i64 (wrap64 (bt a0 0)), .int .i64 J, .int .i64 (wrap64 (bt a0 1)), .int .i64 (wrap64 (bt a0 2)), .string x176004_2, .slice none 0 0]) ?_ 4 _ rfl; (with_reducible repeat (first | refine blk_drewN ?_ _ | refine blk_drew ?_ | refine blk_alloc ?_ _)); refine blk_put (cs := #[.int .i64 (wrap64 (bt a0 0)), .int .i64 J, .int .i64 (wrap64 (bt a0 1)), .int .i64 x176003_2, .string x176004_2, .slice none 0 0]) ?_ 3 _ rfl; (with_reducible repeat (first | refine blk_drewN ?_ _ | refine blk_drew ?_ | refine blk_alloc ?_ _)); refine blk_put (cs := #[.int .i64 (wrap64 (bt a0 0)), .int .i64 J, .int .i64 x176002_2, .int .i64 x176003_2, .string x176004_2, .slice none 0 0]) ?_ 2 _ rfl; (with_reducible repeat (first | refine blk_drewN ?_ _ | refine blk_drew ?_ | refine blk_alloc ?_ _)); refine blk_put (cs := #[.int .i64 (wrap64 (bt a0 0)), .int .i64 x176001_2, .int .i64 x176002_2, .int .i64 x176003_2, .string x176004_2, .slice none 0 0]) ?_ 1 _ rfl; (with_reducible repeat (first | refine blk_drewN ?_ _ | refine blk_drew ?_ | refine blk_alloc ?_ _)); refine blk_put (cs := #[.int .i64 x176000_2, .int .i64 x176001_2, .int .i64 x176002_2, .int .i64 x176003_2, .string x176004_2, .slice none 0 0]) ?_ 0 _ rfl; (with_reducible repeat (first | refine blk_drewN ?_ _ | refine blk_drew ?_ | refine blk_alloc ?_ _)); exact BK175.out) underlying103 rfl (Z18)) rfl ?_
        exact ⟨_, Z1, by (with_reducible repeat (first | apply Kd.R_alloc | apply Kd.R_drewN | apply Kd.R_drew)); exact Kd.R_mono (rF 5 (rF 4 (rF 3 (rF 2 (rF 1 (rF 0 (Kd.R_types HO_181005.out BK175.out (Z101)))))))) (fun _ hk => trivial), Z14⟩
       ·rw [if_neg a6] at H
        have eF := beq_eq_false_iff_ne.mpr a6
        have eG := bne_iff_ne.mpr a6
        simp only [Option.some.injEq, Prod.mk.injEq] at H
        obtain ⟨rfl, rfl, rfl, rfl, rfl, rfl, rfl⟩ := H
        try go_wp2
        replace HO_181005 := aM (Kd.R_drew HO_181005.out)
        replace BK175 := aM (blk_drew BK175.out)
        replace BK180 := aM (blk_drew BK180.out)
        replace HB := aM (below_drew1 HB.out)
        obtain ⟨dF, dG, dH⟩ := Kd.R_slice HO_181005.out
        (first | subst dH | (injection dH with f1_ f2_ f3_; have f4_ := f1_.symm; have f5_ := f3_.symm; clear f1_ f2_ f3_; subst f4_; subst f5_))
        refine start_ (n := 11) (S := fun w' => qc6 D (.int .i64 (wrap64 (bt a0 0))) (.int .i64 J) (.int .i64 (wrap64 (bt a0 1))) (.int .i64 (wrap64 (bt a0 2))) (.string (a0.extract 7 ((wrap64 (7 + (wrap64 (bt a0 4)))) : Int).toNat)) (.slice dF Z.length dG) w') (ds := []) #[false, false, false, false, false, false, false, false, false, false, false] (Z18) rfl rfl (bc6 BK180.out) (fun hHeld => ?_); refine with_tabW spec_l09Read.tab17 spec_l09Read.bits17 (fun HT_ HW_ => ?_)
        generalize wr.drew = bB at HO_181005 BK175 BK180 HB hHeld ⊢
        refine pA 1 108 ?_
        refine pA 2 109 ?_
        refine pA 3 110 ?_
        refine pA 4 111 ?_
        refine pA 5 112 ?_
        refine pU 6 113 ?_
        refine pU 7 114 ?_
        refine pA 8 115 ?_
        refine tA 0 107 ?_
        refine one_ (i := 9) (N := none) #[true, true, true, true, true, true, true, true, true, true, false] rfl rfl (one_of HT_.out (Z18)) (Z101) (fun K hK => ?_)
        have h7 : bB.cell? ⟨y, 0, none⟩ = some (.int .i64 x176000_2) := (blk_cell BK175.out 0).trans rfl
        have h8 := blk_frozen BK175.out 0
        have h9 := s.out
        have iC := M.out
        have iD : bB.cell? ⟨y, 1, none⟩ = some (.int .i64 x176001_2) := (blk_cell BK175.out 1).trans rfl
        have iE := blk_frozen BK175.out 1
        have iF := s.out
        have iG := M.out
        have iH : bB.cell? ⟨y, 2, none⟩ = some (.int .i64 x176002_2) := (blk_cell BK175.out 2).trans rfl
        have iI := blk_frozen BK175.out 2
        have iJ := s.out
        have iK := M.out
        have iL : bB.cell? ⟨y, 3, none⟩ = some (.int .i64 x176003_2) := (blk_cell BK175.out 3).trans rfl
        have iM := blk_frozen BK175.out 3
        have iN := s.out
        have iO := M.out
        have iP : bB.cell? ⟨y, 4, none⟩ = some (.string x176004_2) := (blk_cell BK175.out 4).trans rfl
        have iQ := blk_frozen BK175.out 4
        have iR := s.out
        have iS := M.out
        have iT : bB.cell? ⟨y, 5, none⟩ = some (.slice none 0 0) := (blk_cell BK175.out 5).trans rfl
        have iU := blk_frozen BK175.out 5
        have iV := s.out
        have iW := M.out
        refine skip_ (w1 := ?_) (Z117) rfl ?_ ?_
        rotate_left
        ·go_simp
         rfl
        refine hK.out _ _ ⟨(cF s ((cF s ((cF s ((cF s ((cF s ((cF s (hHeld.1)))))))))))), ⟨(cF s ((cF s ((cF s ((cF s ((cF s ((cF s (hHeld.2.1)))))))))))), ⟨(cF s ((cF s ((cF s ((cF s ((cF s ((cF s (hHeld.2.2.1)))))))))))), ⟨(cF s ((cF s ((cF s ((cF s ((cF s ((cF s (hHeld.2.2.2.1)))))))))))), ⟨(cF s ((cF s ((cF s ((cF s ((cF s ((cF s (hHeld.2.2.2.2.1)))))))))))), (cF s ((cF s ((cF s ((cF s ((cF s ((cF s (hHeld.2.2.2.2.2))))))))))))⟩⟩⟩⟩⟩ (fun hHeld => ?_)
        clear hK K
        refine pA 10 3 ?_
        refine done_ (done_of HT_.out (Z18)) ?_
        try go_wp2
        refine bodyPost_ret (results_ct rfl _ _ y 103 #[.int .i64 (wrap64 (bt a0 0)), .int .i64 J, .int .i64 (wrap64 (bt a0 1)), .int .i64 (wrap64 (bt a0 2)), .string (a0.extract 7 ((wrap64 (7 + (wrap64 (bt a0 4)))) : Int).toNat), .slice dF Z.length dG] (0, 0) _ rfl (by (with_reducible repeat (first | refine blk_drewN ?_ _ | refine blk_drew ?_ | refine blk_alloc ?_ _)); refine blk_put (cs := #[.int .i64 (wrap64 (bt a0 0)), .int .i64 J, .int .i64 (wrap64 (bt a0 1)), .int .i64 (wrap64 (bt a0 2)), .string (a0.extract 7 ((wrap64 (7 + (wrap64 (bt a0 4)))) : Int).toNat), .slice none 0 0]) ?_ 5 _ rfl; (with_reducible repeat (first | refine blk_drewN ?_ _ | refine blk_drew ?_ | refine blk_alloc ?_ _)); refine blk_put (cs := #[.int .i64 (wrap64 (bt a0 0)), .int .i64 J, .int .i64 (wrap64 (bt a0 1)), .int .i64 (wrap64 (bt a0 2)), .string x176004_2, .slice none 0 0]) ?_ 4 _ rfl; (with_reducible repeat (first | refine blk_drewN ?_ _ | refine blk_drew ?_ | refine blk_alloc ?_ _)); refine blk_put (cs := #[.int .i64 (wrap64 (bt a0 0)), .int .i64 J, .int .i64 (wrap64 (bt a0 1)), .int .i64 x176003_2, .string x176004_2, .slice none 0 0]) ?_ 3 _ rfl; (with_reducible repeat (first | refine blk_drewN ?_ _ | refine blk_drew ?_ | refine blk_alloc ?_ _)); refine blk_put (cs := #[.int .i64 (wrap64 (bt a0 0)), .int .i64 J, .int .i64 x176002_2, .int .i64 x176003_2, .string x176004_2, .slice none 0 0]) ?_ 2 _ rfl; (with_reducible repeat (first | refine blk_drewN ?_ _ | refine blk_drew ?_ | refine blk_alloc ?_ _)); refine blk_put (cs := #[.int .i64 (wrap64 (bt a0 0)), .int .i64 x176001_2, .int .i64 x176002_2, .int .i64 x176003_2, .string x176004_2, .slice none 0 0]) ?_ 1 _ rfl; (with_reducible repeat (first | refine blk_drewN ?_ _ | refine blk_drew ?_ | refine blk_alloc ?_ _)); refine blk_put (cs := #[.int .i64 x176000_2, .int .i64 x176001_2, .int .i64 x176002_2, .int .i64 x176003_2, .string x176004_2, .slice none 0 0]) ?_ 0 _ rfl; (with_reducible repeat (first | refine blk_drewN ?_ _ | refine blk_drew ?_ | refine blk_alloc ?_ _)); exact BK175.out) underlying103 rfl (Z18)) rfl ?_
        exact ⟨_, Z1, by (with_reducible repeat (first | apply Kd.R_alloc | apply Kd.R_drewN | apply Kd.R_drew)); exact Kd.R_mono (rF 5 (rF 4 (rF 3 (rF 2 (rF 1 (rF 0 (Kd.R_types HO_181005.out BK175.out (Z101)))))))) (fun _ hk => trivial), Z14⟩
end Go.Proofs.YtifkmkiljpeaaacGreat.PFnExactWorldOK
