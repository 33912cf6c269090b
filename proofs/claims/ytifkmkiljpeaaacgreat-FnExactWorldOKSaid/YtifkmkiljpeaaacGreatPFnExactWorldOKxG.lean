import Derived.Test.YtifkmkiljpeaaacGreatPFnExactWorldOKxA
import Derived.Test.YtifkmkiljpeaaacGreatPFnExactWorldOKxD
import Derived.Test.YtifkmkiljpeaaacGreatPFnExactWorldOKxB
import Derived.Test.YtifkmkiljpeaaacGreatPFnExactWorldOKxE
import Derived.Test.YtifkmkiljpeaaacGreatPFnExactWorldOKxF
set_option maxHeartbeats 40000000
set_option maxRecDepth 100000
namespace Go.Proofs.YtifkmkiljpeaaacGreat.PFnExactWorldOK
open Go.RowKit Go.Proofs.YtifkmkiljpeaaacGreatW.PrintWords Go.Proofs.YtifkmkiljpeaaacGreatW.PrintLast Go.Proofs.YtifkmkiljpeaaacGreatW.PrintMore Go.Proofs.YtifkmkiljpeaaacGreat.Mac Go.Proofs.Tryz
set_option linter.unusedVariables false
set_option linter.unusedSimpArgs false
mutual
def spec_EngineOK.j0 : Nat → Bool → Int → ByteArray → Int → List (S98) → Option (Bool)
 | 0, _, _, _, _, _ => none
 | k + 1, M, y, s, D, I => if M = true then (some false) else ((spec_l08Records.f k s).bind fun J => (if J.2.2 = 0 then (spec_EngineOK.j1 k (J.2.1 != (s.size : Int)) y s D I) else (spec_EngineOK.j1 k true y s D I)))
def spec_EngineOK.j1 : Nat → Bool → Int → ByteArray → Int → List (S98) → Option (Bool)
 | 0, _, _, _, _, _ => none
 | k + 1, y, M, D, O, I => if y = true then (some false) else ((spec_l10Replay.f k D).bind fun s => (if s.2.2 = 0 then ((spec_l09Same.f k s.1 I).bind fun J => (some J)) else (some false)))
end
def spec_EngineOK.f (k : Nat) (D : Int) (s : ByteArray) (y : Int) (l0_3 : List (S98)) : Option (Bool) := (spec_LogOK.f D s y).bind fun I => (if I = true then (if y = (s.size : Int) then ((spec_StoreOK.f k l0_3).bind fun J => (spec_EngineOK.j0 k (!J) D s y l0_3)) else (spec_EngineOK.j0 k true D s y l0_3)) else (spec_EngineOK.j0 k true D s y l0_3))
theorem spec_EngineOK.calls (k : Nat) (D : Int) (s : ByteArray) (y : Int) (U : Option Addr) (X : Nat) (l0_3 : List (S98)) (r : Bool) (w : World) (aB : Kd.C k98 w U l0_3.length l0_3) (aC : l0_3.length ≤ X) (h : spec_EngineOK.f k D s y l0_3 = some r) :
  Calls prog 11 #[.agg #[.int .i64 D, .string s, .int .i64 y, .slice U l0_3.length X]] w fun e w' => e = .returned (.bool r) ∧ Below w.heap.size w w' := by
 have bA := underlying35
 have bB := underlying32
 replace aB := aM aB
 replace aC := aM aC
 have HB := aM (Below.refl w.heap.size w)
 have H := h
 clear h
 unfold spec_EngineOK.f at H
 have aF := aM H
 clear H
 go_enter func11, ntmps11
 go_upto_region 1 with (first | ((with_reducible refine gD 1 ?_); (try (refine gate_guard (Z117) ?_; dsimp only)); refine bxF w 1 #[.int .i64 D, .string s, .int .i64 y, .slice U l0_3.length X] 35 (Z0) ?_; intro aO hg w3 BK236 bC GE236 HB hb; clear hb hg))
 (try simp only [Act.put, List.setIfInBounds_toArray, List.set_cons_zero, List.set_cons_succ])
 go_cut [28] (fun aV wc => ∃ (kq : Nat) (aD : Bool), aV = .bool aD ∧ Aside0 (spec_EngineOK.j0 kq aD D s y l0_3 = some r) ∧ Aside0 (kq ≤ k) ∧ Aside0 (wc.heap[aO]? = some (.cells #[.int .i64 D, .string s, .int .i64 y, (.slice U l0_3.length X)] 35 (0, 0))) ∧ Aside0 (Below w.heap.size w wc))
 case first =>
  have H := aF.out
  clear aF
  obtain ⟨aW, A4, H⟩ := bindA H
  try dsimp only at H
  by_cases c5 : aW = true
  ·subst c5
   replace H := ifT H
   by_cases c6 : y = (s.size : Int)
   ·rw [if_pos c6] at H
    have Y := beq_iff_eq.mpr c6
    have aH := bne_eq_false_iff_eq.mpr c6
    clear c6
    (first | rw [Y] | rw [aH] | (simp only [i64_w, i32_w]; rw [Y]) | skip)
    obtain ⟨aP, A7, H⟩ := bindA H
    try dsimp only at H
    have H' := aM H
    clear H
    refine bD4 BK236 ?_
    intros
    go_wp2_with (first | ((with_reducible refine gC 24 ?_); refine gL 11 func24 #[.agg #[.int .i64 D, .string s, .int .i64 y]] ?_; (with_reducible refine (spec_LogOK.calls D s y true _ A4.out).mono ?_); rintro e w9 ⟨rfl, hb⟩; refine ⟨_, rfl, ?_⟩; replace BK236 := aM (kB BK236 (Z68) hb); replace HB := aM (below_step (Z26) hb); (try clear hb); refine bD4 BK236 ?_; intros) | (go_at_call 25; (with_reducible refine (spec_StoreOK.calls k _ _ l0_3 aP _ ?Y1 ?Y2 A7.out).mono ?_); (case Y1 => have h_ := Kd.C_below aB.out HB.out; exact tC); (case Y2 => exact aC.out); rintro e bE ⟨rfl, hb⟩; replace BK236 := aM (kB BK236 (Z68) hb); replace HB := aM (below_step (Z26) hb); (try clear hb)))
    go_meet
    case rel => exact ⟨_, (!aP), (Z3), H', ⟨Z84⟩, ⟨Z68⟩, ⟨Z26⟩⟩
   ·rw [if_neg c6] at H
    have Y := beq_eq_false_iff_ne.mpr c6
    have aH := bne_iff_ne.mpr c6
    (first | rw [Y] | rw [aH] | (simp only [i64_w, i32_w]; rw [Y]) | skip)
    have H' := aM H
    clear H
    refine bD4 BK236 ?_
    intros
    go_wp2_with (first | ((with_reducible refine gC 24 ?_); refine gL 11 func24 #[.agg #[.int .i64 D, .string s, .int .i64 y]] ?_; (with_reducible refine (spec_LogOK.calls D s y true _ A4.out).mono ?_); rintro e bF ⟨rfl, hb⟩; refine ⟨_, rfl, ?_⟩; replace BK236 := aM (kB BK236 (Z68) hb); replace HB := aM (below_step (Z26) hb); (try clear hb); refine bD4 BK236 ?_; intros))
    go_meet
    case rel => exact ⟨_, (true), (Z3), H', ⟨Z84⟩, ⟨Z68⟩, ⟨Z26⟩⟩
  ·replace c5 := Bool.eq_false_iff.mpr c5
   subst c5
   replace H := ifF H
   have H' := aM H
   clear H
   refine bD4 BK236 ?_
   intros
   go_wp2_with (first | ((with_reducible refine gC 24 ?_); refine gL 11 func24 #[.agg #[.int .i64 D, .string s, .int .i64 y]] ?_; (with_reducible refine (spec_LogOK.calls D s y false _ A4.out).mono ?_); rintro e bG ⟨rfl, hb⟩; refine ⟨_, rfl, ?_⟩; replace BK236 := aM (kB BK236 (Z68) hb); replace HB := aM (below_step (Z26) hb); (try clear hb)))
   go_meet
   case rel => exact ⟨_, (true), (Z3), H', ⟨Z84⟩, ⟨Z68⟩, ⟨Z26⟩⟩
 case rest =>
  clear aF
  obtain ⟨kq, aD, rfl, HA, HJ1, BK236, HB⟩ := hcut
  cases kq with
  | zero => exact absurd HA.out (by simp [spec_EngineOK.j0])
  | succ aQ =>
   have H := HA.out
   clear HA
   simp only [spec_EngineOK.j0] at H
   by_cases Z : aD = true
   ·subst Z
    replace H := ifT H
    obtain rfl := oI H
    go_wp2
    go_ret
    exact ⟨Z1, Z26⟩
   ·replace Z := Bool.eq_false_iff.mpr Z
    subst Z
    replace H := ifF H
    obtain ⟨⟨aY, aR, aS⟩, aZ, H⟩ := bindA H
    try dsimp only at H
    have aI := aM H
    clear H
    refine bD4 BK236 ?_
    intros
    go_upto_region 4 with (first | ((with_reducible refine gC 26 ?_); refine gL 33 func26 #[.string s] ?_; (with_reducible refine (spec_l08Records.calls aQ s aY aR aS _ aZ.out).mono ?_); rintro e bH ⟨bI, rfl, I, hb⟩; refine ⟨_, rfl, ?_⟩; have bJ := aM (Kd.R_lower I (below_size (Z26))); replace BK236 := aM (kB BK236 (Z68) hb); replace HB := aM (below_step (Z26) hb); (try clear hb); (try clear I)))
    (try simp only [Act.put, List.setIfInBounds_toArray, List.set_cons_zero, List.set_cons_succ])
    go_cut [46] (fun a2 wc => ∃ (kq : Nat) (aE : Bool), a2 = .bool aE ∧ Aside0 (spec_EngineOK.j1 kq aE D s y l0_3 = some r) ∧ Aside0 (kq ≤ aQ) ∧ Aside0 (wc.heap[aO]? = some (.cells #[.int .i64 D, .string s, .int .i64 y, (.slice U l0_3.length X)] 35 (0, 0))) ∧ Aside0 (Below w.heap.size w wc))
    case first =>
     have H := aI.out
     clear aI
     by_cases J : aS = 0
     ·rw [if_pos J] at H
      have aA := beq_iff_eq.mpr J
      have aJ := bne_eq_false_iff_eq.mpr J
      clear J
      (first | rw [aA] | rw [aJ] | (simp only [i64_w, i32_w]; rw [aA]) | skip)
      have H' := aM H
      clear H
      refine bD4 BK236 ?_
      intros
      go_wp2
      go_meet
      case rel => exact ⟨_, ((aR != (s.size : Int))), (Z3), H', ⟨Z202⟩, ⟨Z68⟩, ⟨Z26⟩⟩
     ·rw [if_neg J] at H
      have aA := beq_eq_false_iff_ne.mpr J
      have aJ := bne_iff_ne.mpr J
      (first | rw [aA] | rw [aJ] | (simp only [i64_w, i32_w]; rw [aA]) | skip)
      have H' := aM H
      clear H
      go_wp2
      go_meet
      case rel => exact ⟨_, (true), (Z3), H', ⟨Z202⟩, ⟨Z68⟩, ⟨Z26⟩⟩
    case rest =>
     clear aI
     (try clear Z)
     obtain ⟨kq, aE, rfl, HA, bK, BK236, HB⟩ := hcut
     cases kq with
     | zero => exact absurd HA.out (by simp [spec_EngineOK.j1])
     | succ aK =>
      have H := HA.out
      clear HA
      simp only [spec_EngineOK.j1] at H
      by_cases c24 : aE = true
      ·subst c24
       replace H := ifT H
       obtain rfl := oI H
       go_wp2
       go_ret
       exact ⟨Z1, Z26⟩
      ·replace c24 := Bool.eq_false_iff.mpr c24
       subst c24
       replace H := ifF H
       obtain ⟨⟨aL, aT, aN⟩, aU, H⟩ := bindA H
       try dsimp only at H
       by_cases M : aN = 0
       ·rw [if_pos M] at H
        have a3 := beq_iff_eq.mpr M
        have a5 := bne_eq_false_iff_eq.mpr M
        clear M
        obtain ⟨a6, a7, H⟩ := bindA H
        try dsimp only at H
        obtain rfl := oI H
        refine bD4 BK236 ?_
        intros
        go_wp2_with (first | ((with_reducible refine gC 27 ?_); refine gL 51 func27 #[.string s] ?_; (with_reducible refine (spec_l10Replay.calls aK s aL aT aN _ aU.out).mono ?_); rintro e bL ⟨a8, rfl, I, hb⟩; refine ⟨_, rfl, ?_⟩; have O := aM (Kd.S_lower I (below_size (Z26))); replace BK236 := aM (kB BK236 (Z68) hb); replace HB := aM (below_step (Z26) hb); (try clear hb); (try clear I); refine bD4 BK236 ?_; intros; obtain ⟨bM, bN, a9⟩ := Kd.S_slice O.out; subst a9) | (go_at_call 28; (with_reducible refine (spec_l09Same.calls aK _ _ aL _ _ l0_3 a6 _ ?Y1 ?Y2 ?Y3 ?Y4 a7.out).mono ?_); (case Y1 => have h_ := (Kd.S_reads' O.out).2.2; exact tC); (case Y2 => exact (Kd.S_reads' O.out).2.1); (case Y3 => have h_ := Kd.C_below aB.out HB.out; exact tC); (case Y4 => exact aC.out); rintro e bO ⟨rfl, hb⟩; replace O := aM (Kd.S_below (by (with_reducible repeat (first | apply Kd.S_alloc | apply Kd.S_drewN | apply Kd.S_drew)); exact O.out) hb); replace BK236 := aM (kB BK236 (Z68) hb); replace HB := aM (below_step (Z26) hb); (try clear hb)))
        go_ret
        exact ⟨Z1, Z26⟩
       ·rw [if_neg M] at H
        have a3 := beq_eq_false_iff_ne.mpr M
        have a5 := bne_iff_ne.mpr M
        obtain rfl := oI H
        refine bD4 BK236 ?_
        intros
        go_wp2_with (first | ((with_reducible refine gC 27 ?_); refine gL 51 func27 #[.string s] ?_; (with_reducible refine (spec_l10Replay.calls aK s aL aT aN _ aU.out).mono ?_); rintro e bP ⟨a8, rfl, I, hb⟩; refine ⟨_, rfl, ?_⟩; have O := aM (Kd.S_lower I (below_size (Z26))); replace BK236 := aM (kB BK236 (Z68) hb); replace HB := aM (below_step (Z26) hb); (try clear hb); (try clear I)))
        go_ret
        exact ⟨Z1, Z26⟩
def spec_l13View.l0 : Nat → List Int → Int → Option (Bool)
 | 0, _, _ => none
 | k + 1, x0, x3 => if x3 < (x0.length : Int) then (if 0 ≤ x3 then ((spec_l01In.f (rd x0 x3) 1 1000).bind fun s => (if s = true then (if x3 > 0 then (if 0 ≤ (wrap64 (x3 - 1)) then (if (wrap64 (x3 - 1)) < (x0.length : Int) then (if (rd x0 (wrap64 (x3 - 1))) ≥ (rd x0 x3) then (some false) else (spec_l13View.l0 k x0 (wrap64 (x3 + 1)))) else (none)) else (none)) else (spec_l13View.l0 k x0 (wrap64 (x3 + 1)))) else (some false))) else (none)) else (some true)
def spec_l13View.f (k : Nat) (l0 : List Int) : Option (Bool) := if (l0.length : Int) > 4096 then (some false) else (spec_l13View.l0 k l0 0)
theorem spec_l13View.calls (k : Nat) (A0 : Option Addr) (c0 : Nat) (l0 : List Int) (r : Bool) (w : World) (hr0 : Kd.C (Kd.int .i64) w A0 l0.length l0) (aL : l0.length ≤ c0) (h : spec_l13View.f k l0 = some r) :
  Calls prog 56 #[.slice A0 l0.length c0] w fun e w' => e = .returned (.bool r) ∧ Drawn0 w w' := by
 replace hr0 := aM hr0
 replace aL := aM aL
 have H := h
 clear h
 unfold spec_l13View.f at H
 by_cases c2 : (l0.length : Int) > 4096
 ·rw [if_pos c2] at H
  have aN : decide (4096 < (l0.length : Int)) = true := decide_eq_true c2
  have aO : decide (4096 < l0.length) = true := decide_eq_true (Z42)
  clear c2
  obtain rfl := oI H
  go_enter func56, ntmps56
  go_wp2
  repeat (go_quiet (fail); try go_wp2)
  go_ret
  exact ⟨Z3, Z9⟩
 ·rw [if_neg c2] at H
  have aN : decide (4096 < (l0.length : Int)) = false := decide_eq_false c2
  have aO : decide (4096 < l0.length) = false := decide_eq_false (Z42)
  clear c2
  have H' := aM H
  clear H
  go_enter func56, ntmps56
  go_wp2
  repeat (go_quiet (fail); try go_wp2)
  go_loopg [3] k (fun kq v3 w' => ∃ (s : Int), v3 = .int .i64 s ∧ Aside0 (spec_l13View.l0 kq l0 s = some r) ∧ Aside0 (kq ≤ k) ∧ Drawn0 w w')
  case atStart => exact ⟨(0), (Z3), H', ⟨Nat.le_refl _⟩, Z9⟩
  case round =>
   clear H'
   (try clear c2); (try clear aN); (try clear aO)
   obtain ⟨s, rfl, HA, HK1, ⟨m1, rfl⟩⟩ := hrel
   cases gk with
   | zero => exact absurd HA.out (by simp [spec_l13View.l0])
   | succ k1 =>
    have H := HA.out
    clear HA
    simp only [spec_l13View.l0] at H
    by_cases c3 : s < (l0.length : Int)
    ·rw [if_pos c3] at H
     have aQ := decide_eq_true c3
     clear c3
     obtain ⟨c4, H⟩ := ifS H
     have aU := decide_eq_true c4
     clear c4
     obtain ⟨aR, Y, H⟩ := bindA H
     try dsimp only at H
     by_cases c6 : aR = true
     ·subst c6
      replace H := ifT H
      by_cases c7 : s > 0
      ·rw [if_pos c7] at H
       have aS : decide (0 < s) = true := decide_eq_true c7
       clear c7
       obtain ⟨y, aF⟩ : ∃ j_ : Int, (wrap64 (s - 1)) = j_ := ⟨_, rfl⟩
       replace H : (if 0 ≤ (y) then (if (y) < (l0.length : Int) then (if (rd l0 (y)) ≥ (rd l0 s) then (some false) else (spec_l13View.l0 k1 l0 (wrap64 (s + 1)))) else (none)) else (none)) = some r := by first | (rw [aF] at H; exact H) | (simp only [aF] at H ⊢; exact H)
       (try rw [aF] at Y)
       have hji8w : (IntKind.i64.wrap (s - 1)) = y := (i64_w _).trans aF
       obtain ⟨c9, H⟩ := ifS H
       have aV := decide_eq_true c9
       clear c9
       obtain ⟨c10, H⟩ := ifS H
       have aW := decide_eq_true c10
       clear c10
       by_cases aE : (rd l0 (y)) ≥ (rd l0 s)
       ·rw [if_pos aE] at H
        have aT : decide ((rd l0 s) ≤ (rd l0 (y))) = true := decide_eq_true aE
        clear aE
        obtain rfl := oI H
        have O : 0 ≤ (s : Int) := of_decide_eq_true (Z4)
        have U : s < (l0.length : Int) := of_decide_eq_true (Z4)
        obtain ⟨X, aD, aJ⟩ := Kd.at_int hr0.out s O U
        cases aD
        replace O := eq_true O
        replace U := eq_true U
        go_wp2_with (first | (go_at_call 50; (with_reducible refine (spec_l01In.calls (rd l0 s) 1 1000 true _ Y.out).mono ?_); rintro e w' ⟨rfl, ⟨nd, rfl⟩⟩; (try first | exact ⟨rfl, _, World.drewN_drewN _ _ _⟩ | exact ⟨rfl, _, Eq.trans (World.drewN_drewN _ _ _) (congrArg (World.drewN _) (Nat.add_assoc _ _ _))⟩); have D : 0 ≤ ((y) : Int) := of_decide_eq_true (Z4); have I : (y) < (l0.length : Int) := of_decide_eq_true (Z4); obtain ⟨Z, aA, aG⟩ := Kd.at_int hr0.out (y) D I; obtain rfl : X = Z := (by injection aA); replace D := eq_true D; replace I := eq_true I; have J : 0 ≤ (s : Int) := of_decide_eq_true (Z4); have M : s < (l0.length : Int) := of_decide_eq_true (Z4); obtain ⟨aB, aC, aH⟩ := Kd.at_int hr0.out s J M; obtain rfl : X = aB := (by injection aC); replace J := eq_true J; replace M := eq_true M))
        repeat (go_quiet (first | (go_at_call 50; (with_reducible refine (spec_l01In.calls (rd l0 s) 1 1000 true _ Y.out).mono ?_); rintro e w' ⟨rfl, ⟨nd, rfl⟩⟩; (try first | exact ⟨rfl, _, World.drewN_drewN _ _ _⟩ | exact ⟨rfl, _, Eq.trans (World.drewN_drewN _ _ _) (congrArg (World.drewN _) (Nat.add_assoc _ _ _))⟩); have D : 0 ≤ ((y) : Int) := of_decide_eq_true (Z4); have I : (y) < (l0.length : Int) := of_decide_eq_true (Z4); obtain ⟨Z, aA, aG⟩ := Kd.at_int hr0.out (y) D I; obtain rfl : X = Z := (by injection aA); replace D := eq_true D; replace I := eq_true I; have J : 0 ≤ (s : Int) := of_decide_eq_true (Z4); have M : s < (l0.length : Int) := of_decide_eq_true (Z4); obtain ⟨aB, aC, aH⟩ := Kd.at_int hr0.out s J M; obtain rfl : X = aB := (by injection aC); replace J := eq_true J; replace M := eq_true M)); try go_wp2_with (first | (go_at_call 50; (with_reducible refine (spec_l01In.calls (rd l0 s) 1 1000 true _ Y.out).mono ?_); rintro e w' ⟨rfl, ⟨nd, rfl⟩⟩; (try first | exact ⟨rfl, _, World.drewN_drewN _ _ _⟩ | exact ⟨rfl, _, Eq.trans (World.drewN_drewN _ _ _) (congrArg (World.drewN _) (Nat.add_assoc _ _ _))⟩); have D : 0 ≤ ((y) : Int) := of_decide_eq_true (Z4); have I : (y) < (l0.length : Int) := of_decide_eq_true (Z4); obtain ⟨Z, aA, aG⟩ := Kd.at_int hr0.out (y) D I; obtain rfl : X = Z := (by injection aA); replace D := eq_true D; replace I := eq_true I; have J : 0 ≤ (s : Int) := of_decide_eq_true (Z4); have M : s < (l0.length : Int) := of_decide_eq_true (Z4); obtain ⟨aB, aC, aH⟩ := Kd.at_int hr0.out s J M; obtain rfl : X = aB := (by injection aC); replace J := eq_true J; replace M := eq_true M)))
        go_ret
        exact ⟨by first | rfl | (simp; done) | (simp only [← aF] <;> (first | rfl | simp)) | (simp [*]; done), Z9⟩
       ·rw [if_neg aE] at H
        have aT : decide ((rd l0 s) ≤ (rd l0 (y))) = false := decide_eq_false aE
        clear aE
        have H' := aM H
        clear H
        have O : 0 ≤ (s : Int) := of_decide_eq_true (Z4)
        have U : s < (l0.length : Int) := of_decide_eq_true (Z4)
        obtain ⟨X, aD, aJ⟩ := Kd.at_int hr0.out s O U
        cases aD
        replace O := eq_true O
        replace U := eq_true U
        go_wp2_with (first | (go_at_call 50; (with_reducible refine (spec_l01In.calls (rd l0 s) 1 1000 true _ Y.out).mono ?_); rintro e w' ⟨rfl, ⟨nd, rfl⟩⟩; (try first | exact ⟨rfl, _, World.drewN_drewN _ _ _⟩ | exact ⟨rfl, _, Eq.trans (World.drewN_drewN _ _ _) (congrArg (World.drewN _) (Nat.add_assoc _ _ _))⟩); have D : 0 ≤ ((y) : Int) := of_decide_eq_true (Z4); have I : (y) < (l0.length : Int) := of_decide_eq_true (Z4); obtain ⟨Z, aA, aG⟩ := Kd.at_int hr0.out (y) D I; obtain rfl : X = Z := (by injection aA); replace D := eq_true D; replace I := eq_true I; have J : 0 ≤ (s : Int) := of_decide_eq_true (Z4); have M : s < (l0.length : Int) := of_decide_eq_true (Z4); obtain ⟨aB, aC, aH⟩ := Kd.at_int hr0.out s J M; obtain rfl : X = aB := (by injection aC); replace J := eq_true J; replace M := eq_true M))
        repeat (go_quiet (first | (go_at_call 50; (with_reducible refine (spec_l01In.calls (rd l0 s) 1 1000 true _ Y.out).mono ?_); rintro e w' ⟨rfl, ⟨nd, rfl⟩⟩; (try first | exact ⟨rfl, _, World.drewN_drewN _ _ _⟩ | exact ⟨rfl, _, Eq.trans (World.drewN_drewN _ _ _) (congrArg (World.drewN _) (Nat.add_assoc _ _ _))⟩); have D : 0 ≤ ((y) : Int) := of_decide_eq_true (Z4); have I : (y) < (l0.length : Int) := of_decide_eq_true (Z4); obtain ⟨Z, aA, aG⟩ := Kd.at_int hr0.out (y) D I; obtain rfl : X = Z := (by injection aA); replace D := eq_true D; replace I := eq_true I; have J : 0 ≤ (s : Int) := of_decide_eq_true (Z4); have M : s < (l0.length : Int) := of_decide_eq_true (Z4); obtain ⟨aB, aC, aH⟩ := Kd.at_int hr0.out s J M; obtain rfl : X = aB := (by injection aC); replace J := eq_true J; replace M := eq_true M)); try go_wp2_with (first | (go_at_call 50; (with_reducible refine (spec_l01In.calls (rd l0 s) 1 1000 true _ Y.out).mono ?_); rintro e w' ⟨rfl, ⟨nd, rfl⟩⟩; (try first | exact ⟨rfl, _, World.drewN_drewN _ _ _⟩ | exact ⟨rfl, _, Eq.trans (World.drewN_drewN _ _ _) (congrArg (World.drewN _) (Nat.add_assoc _ _ _))⟩); have D : 0 ≤ ((y) : Int) := of_decide_eq_true (Z4); have I : (y) < (l0.length : Int) := of_decide_eq_true (Z4); obtain ⟨Z, aA, aG⟩ := Kd.at_int hr0.out (y) D I; obtain rfl : X = Z := (by injection aA); replace D := eq_true D; replace I := eq_true I; have J : 0 ≤ (s : Int) := of_decide_eq_true (Z4); have M : s < (l0.length : Int) := of_decide_eq_true (Z4); obtain ⟨aB, aC, aH⟩ := Kd.at_int hr0.out s J M; obtain rfl : X = aB := (by injection aC); replace J := eq_true J; replace M := eq_true M)))
        go_roundg k1
        case measure => have := HK1.out; omega
        case rel => exact ⟨(wrap64 (s + 1)), (Z3), H', ⟨Z125⟩, Z9⟩
      ·rw [if_neg c7] at H
       have aS : decide (0 < s) = false := decide_eq_false c7
       clear c7
       have H' := aM H
       clear H
       have O : 0 ≤ (s : Int) := of_decide_eq_true (Z4)
       have U : s < (l0.length : Int) := of_decide_eq_true (Z4)
       obtain ⟨X, aD, aJ⟩ := Kd.at_int hr0.out s O U
       cases aD
       replace O := eq_true O
       replace U := eq_true U
       go_wp2_with (first | (go_at_call 50; (with_reducible refine (spec_l01In.calls (rd l0 s) 1 1000 true _ Y.out).mono ?_); rintro e w' ⟨rfl, ⟨nd, rfl⟩⟩; (try first | exact ⟨rfl, _, World.drewN_drewN _ _ _⟩ | exact ⟨rfl, _, Eq.trans (World.drewN_drewN _ _ _) (congrArg (World.drewN _) (Nat.add_assoc _ _ _))⟩)))
       repeat (go_quiet (first | (go_at_call 50; (with_reducible refine (spec_l01In.calls (rd l0 s) 1 1000 true _ Y.out).mono ?_); rintro e w' ⟨rfl, ⟨nd, rfl⟩⟩; (try first | exact ⟨rfl, _, World.drewN_drewN _ _ _⟩ | exact ⟨rfl, _, Eq.trans (World.drewN_drewN _ _ _) (congrArg (World.drewN _) (Nat.add_assoc _ _ _))⟩))); try go_wp2_with (first | (go_at_call 50; (with_reducible refine (spec_l01In.calls (rd l0 s) 1 1000 true _ Y.out).mono ?_); rintro e w' ⟨rfl, ⟨nd, rfl⟩⟩; (try first | exact ⟨rfl, _, World.drewN_drewN _ _ _⟩ | exact ⟨rfl, _, Eq.trans (World.drewN_drewN _ _ _) (congrArg (World.drewN _) (Nat.add_assoc _ _ _))⟩))))
       go_roundg k1
       case measure => have := HK1.out; omega
       case rel => exact ⟨(wrap64 (s + 1)), (Z3), H', ⟨Z125⟩, Z9⟩
     ·replace c6 := Bool.eq_false_iff.mpr c6
      subst c6
      replace H := ifF H
      obtain rfl := oI H
      have O : 0 ≤ (s : Int) := of_decide_eq_true (Z4)
      have U : s < (l0.length : Int) := of_decide_eq_true (Z4)
      obtain ⟨X, aD, aJ⟩ := Kd.at_int hr0.out s O U
      cases aD
      replace O := eq_true O
      replace U := eq_true U
      go_wp2_with (first | (go_at_call 50; (with_reducible refine (spec_l01In.calls (rd l0 s) 1 1000 false _ Y.out).mono ?_); rintro e w' ⟨rfl, ⟨nd, rfl⟩⟩; (try first | exact ⟨rfl, _, World.drewN_drewN _ _ _⟩ | exact ⟨rfl, _, Eq.trans (World.drewN_drewN _ _ _) (congrArg (World.drewN _) (Nat.add_assoc _ _ _))⟩)))
      repeat (go_quiet (first | (go_at_call 50; (with_reducible refine (spec_l01In.calls (rd l0 s) 1 1000 false _ Y.out).mono ?_); rintro e w' ⟨rfl, ⟨nd, rfl⟩⟩; (try first | exact ⟨rfl, _, World.drewN_drewN _ _ _⟩ | exact ⟨rfl, _, Eq.trans (World.drewN_drewN _ _ _) (congrArg (World.drewN _) (Nat.add_assoc _ _ _))⟩))); try go_wp2_with (first | (go_at_call 50; (with_reducible refine (spec_l01In.calls (rd l0 s) 1 1000 false _ Y.out).mono ?_); rintro e w' ⟨rfl, ⟨nd, rfl⟩⟩; (try first | exact ⟨rfl, _, World.drewN_drewN _ _ _⟩ | exact ⟨rfl, _, Eq.trans (World.drewN_drewN _ _ _) (congrArg (World.drewN _) (Nat.add_assoc _ _ _))⟩))))
      go_ret
      exact ⟨Z3, Z9⟩
    ·rw [if_neg c3] at H
     have aQ := decide_eq_false c3
     clear c3
     obtain rfl := oI H
     go_wp2
     repeat (go_quiet (fail); try go_wp2)
     go_ret
     exact ⟨Z3, Z9⟩
def spec_ImapOK.j0 : Nat → Bool → Int → ByteArray → Bool → List Int → Option (Bool)
 | 0, _, _, _, _, _ => none
 | k + 1, x12, y, s, D, I => if x12 = true then (some false) else (if y = 3 then ((spec_NameOK.f k s).bind fun J => (some J)) else (if s.toList = ([] : List UInt8) then (if D = true then (some false) else (some ((I.length : Int) == 0))) else (some false)))
def spec_ImapOK.f (k : Nat) (s : Int) (y : ByteArray) (D : Bool) (l0_3 : List Int) : Option (Bool) := (spec_l01In.f s 0 3).bind fun I => (if I = true then ((spec_l13View.f k l0_3).bind fun J => (spec_ImapOK.j0 k (!J) s y D l0_3)) else (spec_ImapOK.j0 k true s y D l0_3))
theorem spec_ImapOK.calls (k : Nat) (s : Int) (y : ByteArray) (J : Bool) (M : Option Addr) (O : Nat) (l0_3 : List Int) (r : Bool) (w : World) (Y : Kd.C (Kd.int .i64) w M l0_3.length l0_3) (Z : l0_3.length ≤ O) (h : spec_ImapOK.f k s y J l0_3 = some r) :
  Calls prog 29 #[.agg #[.int .i64 s, .string y, .bool J, .slice M l0_3.length O]] w fun e w' => e = .returned (.bool r) ∧ Below w.heap.size w w' := by
 have aP := underlying48
 replace Y := aM Y
 replace Z := aM Z
 have HB := aM (Below.refl w.heap.size w)
 have H := h
 clear h
 unfold spec_ImapOK.f at H
 have aA := aM H
 clear H
 go_enter func29, ntmps29
 go_upto_region 1 with (first | ((with_reducible refine gD 1 ?_); (try (refine gate_guard (Z117) ?_; dsimp only)); refine bxF w 1 #[.int .i64 s, .string y, .bool J, .slice M l0_3.length O] 48 (Z0) ?_; intro aD hg w3 D aQ GE254 HB hb; clear hb hg))
 (try simp only [Act.put, List.setIfInBounds_toArray, List.set_cons_zero, List.set_cons_succ])
 go_cut [12] (fun aE wc => ∃ (kq : Nat) (U : Bool), aE = .bool U ∧ Aside0 (spec_ImapOK.j0 kq U s y J l0_3 = some r) ∧ Aside0 (kq ≤ k) ∧ Aside0 (wc.heap[aD]? = some (.cells #[.int .i64 s, .string y, .bool J, (.slice M l0_3.length O)] 48 (0, 0))) ∧ Aside0 (Below w.heap.size w wc))
 case first =>
  have H := aA.out
  clear aA
  obtain ⟨aF, A4, H⟩ := bindA H
  try dsimp only at H
  by_cases c5 : aF = true
  ·subst c5
   replace H := ifT H
   obtain ⟨aC, A6, H⟩ := bindA H
   try dsimp only at H
   have H' := aM H
   clear H
   refine bD4 D ?_
   intros
   go_wp2_with (first | ((with_reducible refine gC 50 ?_); refine gL 5 func50 #[.int .i64 s, .int .i64 0, .int .i64 3] ?_; (with_reducible refine (spec_l01In.calls s 0 3 true _ A4.out).mono ?_); rintro e w' ⟨rfl, ⟨nd, rfl⟩⟩; refine ⟨_, rfl, ?_⟩) | (go_at_call 56; (with_reducible refine (spec_l13View.calls k _ _ l0_3 aC _ ?Y1 ?Y2 A6.out).mono ?_); (case Y1 => repeat (first | exact (Kd.C_below Y.out (Z82)) | (with_reducible refine Kd.C_alloc ?_ _) | (with_reducible refine Kd.C_drewN ?_ _) | (with_reducible refine Kd.C_drew ?_))); (case Y2 => exact Z.out); rintro e w' ⟨rfl, ⟨nd, rfl⟩⟩))
   go_meet
   case rel => exact ⟨_, (!aC), (Z3), H', ⟨Z84⟩, ⟨zB⟩, ⟨Z82⟩⟩
  ·replace c5 := Bool.eq_false_iff.mpr c5
   subst c5
   replace H := ifF H
   have H' := aM H
   clear H
   refine bD4 D ?_
   intros
   go_wp2_with (first | ((with_reducible refine gC 50 ?_); refine gL 5 func50 #[.int .i64 s, .int .i64 0, .int .i64 3] ?_; (with_reducible refine (spec_l01In.calls s 0 3 false _ A4.out).mono ?_); rintro e w' ⟨rfl, ⟨nd, rfl⟩⟩; refine ⟨_, rfl, ?_⟩))
   go_meet
   case rel => exact ⟨_, (true), (Z3), H', ⟨Z84⟩, ⟨zB⟩, ⟨Z82⟩⟩
 case rest =>
  clear aA
  obtain ⟨kq, U, rfl, HA, HJ1, D, HB⟩ := hcut
  cases kq with
  | zero => exact absurd HA.out (by simp [spec_ImapOK.j0])
  | succ aH =>
   have H := HA.out
   clear HA
   simp only [spec_ImapOK.j0] at H
   by_cases c9 : U = true
   ·subst c9
    replace H := ifT H
    obtain rfl := oI H
    go_wp2
    go_ret
    exact ⟨Z1, Z82⟩
   ·replace c9 := Bool.eq_false_iff.mpr c9
    subst c9
    replace H := ifF H
    by_cases c10 : s = 3
    ·rw [if_pos c10] at H
     have aI := beq_iff_eq.mpr c10
     have aJ := bne_eq_false_iff_eq.mpr c10
     clear c10
     obtain ⟨aK, aL, H⟩ := bindA H
     try dsimp only at H
     obtain rfl := oI H
     refine bD4 D ?_
     intros
     go_wp2_with (first | ((with_reducible refine gC 57 ?_); refine gL 18 func57 #[.string y] ?_; (with_reducible refine (spec_NameOK.calls aH y aK _ aL.out).mono ?_); rintro e w' ⟨rfl, ⟨nd, rfl⟩⟩; refine ⟨_, rfl, ?_⟩))
     go_ret
     exact ⟨Z1, Z82⟩
    ·rw [if_neg c10] at H
     have aI := beq_eq_false_iff_ne.mpr c10
     have aJ := bne_iff_ne.mpr c10
     by_cases I : y.toList = ([] : List UInt8)
     ·rw [if_pos I] at H
      have aN := beq_iff_eq.mpr I
      have aO := bne_eq_false_iff_eq.mpr I
      clear I
      by_cases X : J = true
      ·subst X
       replace H := ifT H
       obtain rfl := oI H
       refine bD4 D ?_
       intros
       go_wp2
       go_ret
       exact ⟨Z1, Z82⟩
      ·replace X := Bool.eq_false_iff.mpr X
       subst X
       replace H := ifF H
       obtain rfl := oI H
       refine bD4 D ?_
       intros
       go_wp2
       go_ret
       exact ⟨Z1, Z82⟩
     ·rw [if_neg I] at H
      have aN := beq_eq_false_iff_ne.mpr I
      have aO := bne_iff_ne.mpr I
      obtain rfl := oI H
      refine bD4 D ?_
      intros
      go_wp2
      go_ret
      exact ⟨Z1, Z82⟩
attribute [local go_sem high] eqA50
def spec_l14OK.j0 : Nat → Bool → ByteArray → Int → Bool → Option (Bool)
 | 0, _, _, _, _ => none
 | k + 1, x9, s, y, J => if x9 = true then (if s.toList = ([] : List UInt8) then (some (y == 0)) else (some false)) else ((spec_NameOK.f k s).bind fun D => (if D = true then ((spec_l01In.f y 0 1000).bind fun I => (some I)) else (some false)))
def spec_l14OK.f (k : Nat) (s : ByteArray) (D : Int) (y : Bool) : Option (Bool) := if y = true then (spec_l14OK.j0 k true s D y) else (spec_l14OK.j0 k (s.toList == ([] : List UInt8)) s D y)
theorem spec_l14OK.calls (k : Nat) (s : ByteArray) (D : Int) (I : Bool) (r : Bool) (w : World) (h : spec_l14OK.f k s D I = some r) :
  Calls prog 31 #[.agg #[.string s, .int .i64 D, .bool I]] w fun e w' => e = .returned (.bool r) ∧ Below w.heap.size w w' := by
 have aF := underlying50
 have HB := aM (Below.refl w.heap.size w)
 have H := h
 clear h
 unfold spec_l14OK.f at H
 have O := aM H
 clear H
 go_enter func31, ntmps31
 go_upto_region 1 with (first | ((with_reducible refine gD 1 ?_); refine bxF w 1 #[.string s, .int .i64 D, .bool I] 50 (Z0) ?_; intro Y hg w3 y aG GE258 HB hb; clear hb hg))
 (try simp only [Act.put, List.setIfInBounds_toArray, List.set_cons_zero, List.set_cons_succ])
 go_cut [9] (fun Z wc => ∃ (kq : Nat) (J : Bool), Z = .bool J ∧ Aside0 (spec_l14OK.j0 kq J s D I = some r) ∧ Aside0 (kq ≤ k) ∧ Aside0 (wc.heap[Y]? = some (.cells #[.string s, .int .i64 D, .bool I] 50 (0, 0))) ∧ Aside0 (Below w.heap.size w wc))
 case first =>
  have H := O.out
  clear O
  by_cases c4 : I = true
  ·subst c4
   replace H := ifT H
   have H' := aM H
   clear H
   refine bD3 y ?_
   intros
   go_wp2
   go_meet
   case rel => exact ⟨_, (true), (Z3), H', ⟨Z84⟩, ⟨zB⟩, ⟨Z102⟩⟩
  ·replace c4 := Bool.eq_false_iff.mpr c4
   subst c4
   replace H := ifF H
   have H' := aM H
   clear H
   refine bD3 y ?_
   intros
   go_wp2
   go_meet
   case rel => exact ⟨_, ((s.toList == ([] : List UInt8))), (Z3), H', ⟨Z84⟩, ⟨zB⟩, ⟨Z102⟩⟩
 case rest =>
  clear O
  obtain ⟨kq, J, rfl, HA, HJ1, y, HB⟩ := hcut
  cases kq with
  | zero => exact absurd HA.out (by simp [spec_l14OK.j0])
  | succ U =>
   have H := HA.out
   clear HA
   simp only [spec_l14OK.j0] at H
   by_cases c7 : J = true
   ·subst c7
    replace H := ifT H
    by_cases c8 : s.toList = ([] : List UInt8)
    ·rw [if_pos c8] at H
     have aA := beq_iff_eq.mpr c8
     have aB := bne_eq_false_iff_eq.mpr c8
     clear c8
     obtain rfl := oI H
     refine bD3 y ?_
     intros
     go_wp2
     go_ret
     exact ⟨Z1, Z102⟩
    ·rw [if_neg c8] at H
     have aA := beq_eq_false_iff_ne.mpr c8
     have aB := bne_iff_ne.mpr c8
     obtain rfl := oI H
     refine bD3 y ?_
     intros
     go_wp2
     go_ret
     exact ⟨Z1, Z102⟩
   ·replace c7 := Bool.eq_false_iff.mpr c7
    subst c7
    replace H := ifF H
    obtain ⟨aC, X, H⟩ := bindA H
    try dsimp only at H
    by_cases M : aC = true
    ·subst M
     replace H := ifT H
     obtain ⟨aD, aE, H⟩ := bindA H
     try dsimp only at H
     obtain rfl := oI H
     refine bD3 y ?_
     intros
     go_wp2_with (first | ((with_reducible refine gC 57 ?_); refine gL 20 func57 #[.string s] ?_; (with_reducible refine (spec_NameOK.calls U s true _ X.out).mono ?_); rintro e w' ⟨rfl, ⟨nd, rfl⟩⟩; refine ⟨_, rfl, ?_⟩) | (go_at_call 50; (with_reducible refine (spec_l01In.calls D 0 1000 aD _ aE.out).mono ?_); rintro e w' ⟨rfl, ⟨nd, rfl⟩⟩))
     go_ret
     exact ⟨Z1, Z102⟩
    ·replace M := Bool.eq_false_iff.mpr M
     subst M
     replace H := ifF H
     obtain rfl := oI H
     refine bD3 y ?_
     intros
     go_wp2_with (first | ((with_reducible refine gC 57 ?_); refine gL 20 func57 #[.string s] ?_; (with_reducible refine (spec_NameOK.calls U s false _ X.out).mono ?_); rintro e w' ⟨rfl, ⟨nd, rfl⟩⟩; refine ⟨_, rfl, ?_⟩))
     go_ret
     exact ⟨Z1, Z102⟩
def spec_l15Conn.f (k : Nat) (I : Int) (J : ByteArray) (s : Int) (y : ByteArray) (M : Bool) (O : List Int) (U : ByteArray) (X : Int) (D : Bool) (l1 : List (S98)) : Option (Bool) := if I = 0 then (if J.toList = ([] : List UInt8) then (if s = 0 then (if y.toList = ([] : List UInt8) then (if M = true then (some false) else (if (O.length : Int) = 0 then (some (U.toList == ([] : List UInt8) && (X == 0 && (!D)))) else (some false))) else (some false)) else (some false)) else (some false)) else (if I = 1 then (if (J.size : Int) ≤ 8000 then ((spec_ImapOK.f k s y M O).bind fun Y => (if Y = true then (if s = 0 then (some false) else (if (U.toList == ([] : List UInt8) && (X == 0 && (!D))) = true then (if s = 3 then ((spec_l09Find.f k l1 y).bind fun Z => (some (decide (Z ≥ 0)))) else (some true)) else (some false))) else (some false))) else (some false)) else (if I = 2 then (if (J.size : Int) ≤ 8000 then ((spec_l14OK.f k U X D).bind fun aA => (if aA = true then (if D = true then (some false) else (if s = 0 then (if y.toList = ([] : List UInt8) then (if M = true then (some false) else (some ((O.length : Int) == 0))) else (some false)) else (some false))) else (some false))) else (some false)) else (some false)))
theorem spec_l15Conn.calls (k : Nat) (U : Int) (M : ByteArray) (I : Int) (J : ByteArray) (X : Bool) (Y : Option Addr) (Z : Nat) (D : List Int) (s : ByteArray) (y : Int) (O : Bool) (A1 : Option Addr) (c1 : Nat) (l1 : List (S98)) (r : Bool) (w : World) (aD : Kd.C (Kd.int .i64) w Y D.length D) (aE : D.length ≤ Z) (aT : Kd.C k98 w A1 l1.length l1) (aU : l1.length ≤ c1) (h : spec_l15Conn.f k U M I J X D s y O l1 = some r) :
  Calls prog 12 #[.agg #[.int .i64 U, .string M, .int .i64 I, .string J, .bool X, .slice Y D.length Z, .string s, .int .i64 y, .bool O], .slice A1 l1.length c1] w fun e w' => e = .returned (.bool r) ∧ Below w.heap.size w w' := by
 have bX := underlying52
 have bY := underlying50
 have bZ := underlying48
 replace aD := aM aD
 replace aE := aM aE
 replace aT := aM aT
 replace aU := aM aU
 have HB := aM (Below.refl w.heap.size w)
 have H := h
 clear h
 unfold spec_l15Conn.f at H
 by_cases c3 : U = 0
 ·rw [if_pos c3] at H
  have aW := beq_iff_eq.mpr c3
  have aX := bne_eq_false_iff_eq.mpr c3
  clear c3
  by_cases c4 : M.toList = ([] : List UInt8)
  ·rw [if_pos c4] at H
   have aY := beq_iff_eq.mpr c4
   have aZ := bne_eq_false_iff_eq.mpr c4
   clear c4
   by_cases c5 : I = 0
   ·rw [if_pos c5] at H
    have a2 := beq_iff_eq.mpr c5
    have a3 := bne_eq_false_iff_eq.mpr c5
    clear c5
    by_cases c6 : J.toList = ([] : List UInt8)
    ·rw [if_pos c6] at H
     have a5 := beq_iff_eq.mpr c6
     have a6 := bne_eq_false_iff_eq.mpr c6
     clear c6
     by_cases c7 : X = true
     ·subst c7
      replace H := ifT H
      obtain rfl := oI H
      go_enter func12, ntmps12
      go_wp2_with (first | ((with_reducible refine gD 2 ?_); (try (refine gate_guard (Z117) ?_; dsimp only)); refine bxF w 2 #[.int .i64 U, .string M, .int .i64 I, .string J, .bool true, .slice Y D.length Z, .string s, .int .i64 y, .bool O] 52 (Z0) ?_; intro aA hg w8 BK261 aB GE261 HB hb; clear hb hg; refine bD9 BK261 ?_; intros))
      go_ret
      exact ⟨Z1, Z13⟩
     ·replace c7 := Bool.eq_false_iff.mpr c7
      subst c7
      replace H := ifF H
      by_cases c10 : (D.length : Int) = 0
      ·rw [if_pos c10] at H
       have a7 := beq_iff_eq.mpr c10
       have a8 := bne_eq_false_iff_eq.mpr c10
       clear c10
       obtain rfl := oI H
       go_enter func12, ntmps12
       go_wp2_with (first | ((with_reducible refine gD 2 ?_); (try (refine gate_guard (Z117) ?_; dsimp only)); refine bxF w 2 #[.int .i64 U, .string M, .int .i64 I, .string J, .bool false, .slice Y D.length Z, .string s, .int .i64 y, .bool O] 52 (Z0) ?_; intro aA hg b1 BK261 aB GE261 HB hb; clear hb hg; refine bD9 BK261 ?_; intros))
       go_ret
       exact ⟨Z1, Z13⟩
      ·rw [if_neg c10] at H
       have a7 := beq_eq_false_iff_ne.mpr c10
       have a8 := bne_iff_ne.mpr c10
       have b2 : ¬ (D = []) := fun h_ => c10 (by rw [h_]; rfl)
       obtain rfl := oI H
       go_enter func12, ntmps12
       go_wp2_with (first | ((with_reducible refine gD 2 ?_); (try (refine gate_guard (Z117) ?_; dsimp only)); refine bxF w 2 #[.int .i64 U, .string M, .int .i64 I, .string J, .bool false, .slice Y D.length Z, .string s, .int .i64 y, .bool O] 52 (Z0) ?_; intro aA hg b6 BK261 aB GE261 HB hb; clear hb hg; refine bD9 BK261 ?_; intros))
       go_ret
       exact ⟨Z1, Z13⟩
    ·rw [if_neg c6] at H
     have a5 := beq_eq_false_iff_ne.mpr c6
     have a6 := bne_iff_ne.mpr c6
     obtain rfl := oI H
     go_enter func12, ntmps12
     go_wp2_with (first | ((with_reducible refine gD 2 ?_); (try (refine gate_guard (Z117) ?_; dsimp only)); refine bxF w 2 #[.int .i64 U, .string M, .int .i64 I, .string J, .bool X, .slice Y D.length Z, .string s, .int .i64 y, .bool O] 52 (Z0) ?_; intro aA hg b7 BK261 aB GE261 HB hb; clear hb hg; refine bD9 BK261 ?_; intros))
     go_ret
     exact ⟨Z1, Z13⟩
   ·rw [if_neg c5] at H
    have a2 := beq_eq_false_iff_ne.mpr c5
    have a3 := bne_iff_ne.mpr c5
    obtain rfl := oI H
    go_enter func12, ntmps12
    go_wp2_with (first | ((with_reducible refine gD 2 ?_); (try (refine gate_guard (Z117) ?_; dsimp only)); refine bxF w 2 #[.int .i64 U, .string M, .int .i64 I, .string J, .bool X, .slice Y D.length Z, .string s, .int .i64 y, .bool O] 52 (Z0) ?_; intro aA hg b8 BK261 aB GE261 HB hb; clear hb hg; refine bD9 BK261 ?_; intros))
    go_ret
    exact ⟨Z1, Z13⟩
  ·rw [if_neg c4] at H
   have aY := beq_eq_false_iff_ne.mpr c4
   have aZ := bne_iff_ne.mpr c4
   obtain rfl := oI H
   go_enter func12, ntmps12
   go_wp2_with (first | ((with_reducible refine gD 2 ?_); (try (refine gate_guard (Z117) ?_; dsimp only)); refine bxF w 2 #[.int .i64 U, .string M, .int .i64 I, .string J, .bool X, .slice Y D.length Z, .string s, .int .i64 y, .bool O] 52 (Z0) ?_; intro aA hg b9 BK261 aB GE261 HB hb; clear hb hg; refine bD9 BK261 ?_; intros))
   go_ret
   exact ⟨Z1, Z13⟩
 ·rw [if_neg c3] at H
  have aW := beq_eq_false_iff_ne.mpr c3
  have aX := bne_iff_ne.mpr c3
  by_cases aF : U = 1
  ·rw [if_pos aF] at H
   have a9 := beq_iff_eq.mpr aF
   have bA := bne_eq_false_iff_eq.mpr aF
   clear aF
   by_cases aL : (M.size : Int) ≤ 8000
   ·rw [if_pos aL] at H
    have bB := decide_eq_true aL
    have bC : decide (M.size ≤ 8000) = true := decide_eq_true (Z42)
    clear aL
    obtain ⟨bD, aP, H⟩ := bindA H
    try dsimp only at H
    by_cases c24 : bD = true
    ·subst c24
     replace H := ifT H
     by_cases aG : I = 0
     ·rw [if_pos aG] at H
      have bE := beq_iff_eq.mpr aG
      have bF := bne_eq_false_iff_eq.mpr aG
      clear aG
      obtain rfl := oI H
      go_enter func12, ntmps12
      go_wp2_with (first | ((with_reducible refine gD 2 ?_); (try (refine gate_guard (Z117) ?_; dsimp only)); refine bxF w 2 #[.int .i64 U, .string M, .int .i64 I, .string J, .bool X, .slice Y D.length Z, .string s, .int .i64 y, .bool O] 52 (Z0) ?_; intro aA hg cA BK261 aB GE261 HB hb; clear hb hg; refine bD9 BK261 ?_; intros) | (go_at_call 29; (with_reducible refine (spec_ImapOK.calls k I J X _ _ D true _ ?Y1 ?Y2 aP.out).mono ?_); (case Y1 => have h_ := Kd.C_below aD.out HB.out; exact tC); (case Y2 => exact aE.out); rintro e cC ⟨rfl, hb⟩; replace BK261 := aM (kB BK261 (Z83) hb); replace HB := aM (below_step (Z13) hb); (try clear hb); refine bD9 BK261 ?_; intros))
      go_ret
      exact ⟨Z1, Z13⟩
     ·rw [if_neg aG] at H
      have bE := beq_eq_false_iff_ne.mpr aG
      have bF := bne_iff_ne.mpr aG
      by_cases aC : (s.toList == ([] : List UInt8) && (y == 0 && (!O))) = true
      ·rw [if_pos aC] at H
       have bG : (s.toList == ([] : List UInt8) && (y == 0 && (!O))) = true := aC
       have bH : s.toList = [] ∧ y = 0 ∧ O = false := by simpa using aC
       (try (have bI : decide (s.toList = ([] : List UInt8) && (y == 0 && (!O))) = true := by simpa using aC))
       (try (have bJ : (s.toList == ([] : List UInt8) && (y == 0 && (!O))) = true := by simpa using aC))
       clear aC
       by_cases aH : I = 3
       ·rw [if_pos aH] at H
        have bK := beq_iff_eq.mpr aH
        have bL := bne_eq_false_iff_eq.mpr aH
        clear aH
        obtain ⟨bM, bN, H⟩ := bindA H
        try dsimp only at H
        obtain rfl := oI H
        go_enter func12, ntmps12
        go_wp2_with (first | ((with_reducible refine gD 2 ?_); (try (refine gate_guard (Z117) ?_; dsimp only)); refine bxF w 2 #[.int .i64 U, .string M, .int .i64 I, .string J, .bool X, .slice Y D.length Z, .string s, .int .i64 y, .bool O] 52 (Z0) ?_; intro aA hg cD BK261 aB GE261 HB hb; clear hb hg; refine bD9 BK261 ?_; intros) | (go_at_call 29; (with_reducible refine (spec_ImapOK.calls k I J X _ _ D true _ ?Y1 ?Y2 aP.out).mono ?_); (case Y1 => have h_ := Kd.C_below aD.out HB.out; exact tC); (case Y2 => exact aE.out); rintro e cG ⟨rfl, hb⟩; replace BK261 := aM (kB BK261 (Z83) hb); replace HB := aM (below_step (Z13) hb); (try clear hb); refine bD9 BK261 ?_; intros) | (go_at_call 30; (with_reducible refine (spec_l09Find.calls k _ _ l1 J bM _ ?Y1 ?Y2 bN.out).mono ?_); (case Y1 => have h_ := Kd.C_below aT.out HB.out; exact tC); (case Y2 => exact aU.out); rintro e w' ⟨rfl, ⟨nd, rfl⟩⟩))
        go_ret
        exact ⟨Z1, Z13⟩
       ·rw [if_neg aH] at H
        have bK := beq_eq_false_iff_ne.mpr aH
        have bL := bne_iff_ne.mpr aH
        obtain rfl := oI H
        go_enter func12, ntmps12
        go_wp2_with (first | ((with_reducible refine gD 2 ?_); (try (refine gate_guard (Z117) ?_; dsimp only)); refine bxF w 2 #[.int .i64 U, .string M, .int .i64 I, .string J, .bool X, .slice Y D.length Z, .string s, .int .i64 y, .bool O] 52 (Z0) ?_; intro aA hg cH BK261 aB GE261 HB hb; clear hb hg; refine bD9 BK261 ?_; intros) | (go_at_call 29; (with_reducible refine (spec_ImapOK.calls k I J X _ _ D true _ ?Y1 ?Y2 aP.out).mono ?_); (case Y1 => have h_ := Kd.C_below aD.out HB.out; exact tC); (case Y2 => exact aE.out); rintro e cI ⟨rfl, hb⟩; replace BK261 := aM (kB BK261 (Z83) hb); replace HB := aM (below_step (Z13) hb); (try clear hb); refine bD9 BK261 ?_; intros))
        go_ret
        exact ⟨Z1, Z13⟩
      ·rw [if_neg aC] at H
       have bG : (s.toList == ([] : List UInt8) && (y == 0 && (!O))) = false := by simpa using aC
       have bH : ¬ (s.toList = [] ∧ y = 0 ∧ O = false) := by simpa using aC
       (try (have bI : decide (s.toList = ([] : List UInt8) && (y == 0 && (!O))) = false := by simpa using aC))
       (try (have bJ : (s.toList == ([] : List UInt8) && (y == 0 && (!O))) = false := by simpa using aC))
       (try (have cJ : ¬ (s.toList = ([] : List UInt8) && (y == 0 && (!O))) := by simpa using aC))
       clear aC
       obtain rfl := oI H
       go_enter func12, ntmps12
       go_wp2_with (first | ((with_reducible refine gD 2 ?_); (try (refine gate_guard (Z117) ?_; dsimp only)); refine bxF w 2 #[.int .i64 U, .string M, .int .i64 I, .string J, .bool X, .slice Y D.length Z, .string s, .int .i64 y, .bool O] 52 (Z0) ?_; intro aA hg cK BK261 aB GE261 HB hb; clear hb hg; refine bD9 BK261 ?_; intros) | (go_at_call 29; (with_reducible refine (spec_ImapOK.calls k I J X _ _ D true _ ?Y1 ?Y2 aP.out).mono ?_); (case Y1 => have h_ := Kd.C_below aD.out HB.out; exact tC); (case Y2 => exact aE.out); rintro e cL ⟨rfl, hb⟩; replace BK261 := aM (kB BK261 (Z83) hb); replace HB := aM (below_step (Z13) hb); (try clear hb); refine bD9 BK261 ?_; intros))
       go_ret
       exact ⟨Z1, Z13⟩
    ·replace c24 := Bool.eq_false_iff.mpr c24
     subst c24
     replace H := ifF H
     obtain rfl := oI H
     go_enter func12, ntmps12
     go_wp2_with (first | ((with_reducible refine gD 2 ?_); (try (refine gate_guard (Z117) ?_; dsimp only)); refine bxF w 2 #[.int .i64 U, .string M, .int .i64 I, .string J, .bool X, .slice Y D.length Z, .string s, .int .i64 y, .bool O] 52 (Z0) ?_; intro aA hg cM BK261 aB GE261 HB hb; clear hb hg; refine bD9 BK261 ?_; intros) | (go_at_call 29; (with_reducible refine (spec_ImapOK.calls k I J X _ _ D false _ ?Y1 ?Y2 aP.out).mono ?_); (case Y1 => have h_ := Kd.C_below aD.out HB.out; exact tC); (case Y2 => exact aE.out); rintro e cN ⟨rfl, hb⟩; replace BK261 := aM (kB BK261 (Z83) hb); replace HB := aM (below_step (Z13) hb); (try clear hb)))
     go_ret
     exact ⟨Z1, Z13⟩
   ·rw [if_neg aL] at H
    have bB := decide_eq_false aL
    have bC : decide (M.size ≤ 8000) = false := decide_eq_false (Z42)
    clear aL
    obtain rfl := oI H
    go_enter func12, ntmps12
    go_wp2_with (first | ((with_reducible refine gD 2 ?_); (try (refine gate_guard (Z117) ?_; dsimp only)); refine bxF w 2 #[.int .i64 U, .string M, .int .i64 I, .string J, .bool X, .slice Y D.length Z, .string s, .int .i64 y, .bool O] 52 (Z0) ?_; intro aA hg cO BK261 aB GE261 HB hb; clear hb hg; refine bD9 BK261 ?_; intros))
    go_ret
    exact ⟨Z1, Z13⟩
  ·rw [if_neg aF] at H
   have a9 := beq_eq_false_iff_ne.mpr aF
   have bA := bne_iff_ne.mpr aF
   by_cases aI : U = 2
   ·rw [if_pos aI] at H
    have bO := beq_iff_eq.mpr aI
    have bP := bne_eq_false_iff_eq.mpr aI
    clear aI
    by_cases aN : (M.size : Int) ≤ 8000
    ·rw [if_pos aN] at H
     have bQ := decide_eq_true aN
     have bR : decide (M.size ≤ 8000) = true := decide_eq_true (Z42)
     clear aN
     obtain ⟨bS, aO, H⟩ := bindA H
     try dsimp only at H
     by_cases aQ : bS = true
     ·subst aQ
      replace H := ifT H
      by_cases aR : O = true
      ·subst aR
       replace H := ifT H
       obtain rfl := oI H
       go_enter func12, ntmps12
       go_wp2_with (first | ((with_reducible refine gD 2 ?_); (try (refine gate_guard (Z117) ?_; dsimp only)); refine bxF w 2 #[.int .i64 U, .string M, .int .i64 I, .string J, .bool X, .slice Y D.length Z, .string s, .int .i64 y, .bool true] 52 (Z0) ?_; intro aA hg cP BK261 aB GE261 HB hb; clear hb hg; refine bD9 BK261 ?_; intros) | (go_at_call 31; (with_reducible refine (spec_l14OK.calls k s y true true _ aO.out).mono ?_); rintro e cQ ⟨rfl, hb⟩; replace BK261 := aM (kB BK261 (Z83) hb); replace HB := aM (below_step (Z13) hb); (try clear hb); refine bD9 BK261 ?_; intros))
       go_ret
       exact ⟨Z1, Z13⟩
      ·replace aR := Bool.eq_false_iff.mpr aR
       subst aR
       replace H := ifF H
       by_cases aJ : I = 0
       ·rw [if_pos aJ] at H
        have bT := beq_iff_eq.mpr aJ
        have bU := bne_eq_false_iff_eq.mpr aJ
        clear aJ
        by_cases aK : J.toList = ([] : List UInt8)
        ·rw [if_pos aK] at H
         have bV := beq_iff_eq.mpr aK
         have bW := bne_eq_false_iff_eq.mpr aK
         clear aK
         by_cases aS : X = true
         ·subst aS
          replace H := ifT H
          obtain rfl := oI H
          go_enter func12, ntmps12
          go_wp2_with (first | ((with_reducible refine gD 2 ?_); (try (refine gate_guard (Z117) ?_; dsimp only)); refine bxF w 2 #[.int .i64 U, .string M, .int .i64 I, .string J, .bool true, .slice Y D.length Z, .string s, .int .i64 y, .bool false] 52 (Z0) ?_; intro aA hg cR BK261 aB GE261 HB hb; clear hb hg; refine bD9 BK261 ?_; intros) | (go_at_call 31; (with_reducible refine (spec_l14OK.calls k s y false true _ aO.out).mono ?_); rintro e w64 ⟨rfl, hb⟩; replace BK261 := aM (kB BK261 (Z83) hb); replace HB := aM (below_step (Z13) hb); (try clear hb); refine bD9 BK261 ?_; intros))
          go_ret
          exact ⟨Z1, Z13⟩
         ·replace aS := Bool.eq_false_iff.mpr aS
          subst aS
          replace H := ifF H
          obtain rfl := oI H
          go_enter func12, ntmps12
          go_wp2_with (first | ((with_reducible refine gD 2 ?_); (try (refine gate_guard (Z117) ?_; dsimp only)); refine bxF w 2 #[.int .i64 U, .string M, .int .i64 I, .string J, .bool false, .slice Y D.length Z, .string s, .int .i64 y, .bool false] 52 (Z0) ?_; intro aA hg cS BK261 aB GE261 HB hb; clear hb hg; refine bD9 BK261 ?_; intros) | (go_at_call 31; (with_reducible refine (spec_l14OK.calls k s y false true _ aO.out).mono ?_); rintro e cT ⟨rfl, hb⟩; replace BK261 := aM (kB BK261 (Z83) hb); replace HB := aM (below_step (Z13) hb); (try clear hb); refine bD9 BK261 ?_; intros))
          go_ret
          exact ⟨Z1, Z13⟩
        ·rw [if_neg aK] at H
         have bV := beq_eq_false_iff_ne.mpr aK
         have bW := bne_iff_ne.mpr aK
         obtain rfl := oI H
         go_enter func12, ntmps12
         go_wp2_with (first | ((with_reducible refine gD 2 ?_); (try (refine gate_guard (Z117) ?_; dsimp only)); refine bxF w 2 #[.int .i64 U, .string M, .int .i64 I, .string J, .bool X, .slice Y D.length Z, .string s, .int .i64 y, .bool false] 52 (Z0) ?_; intro aA hg cU BK261 aB GE261 HB hb; clear hb hg; refine bD9 BK261 ?_; intros) | (go_at_call 31; (with_reducible refine (spec_l14OK.calls k s y false true _ aO.out).mono ?_); rintro e cV ⟨rfl, hb⟩; replace BK261 := aM (kB BK261 (Z83) hb); replace HB := aM (below_step (Z13) hb); (try clear hb); refine bD9 BK261 ?_; intros))
         go_ret
         exact ⟨Z1, Z13⟩
       ·rw [if_neg aJ] at H
        have bT := beq_eq_false_iff_ne.mpr aJ
        have bU := bne_iff_ne.mpr aJ
        obtain rfl := oI H
        go_enter func12, ntmps12
        go_wp2_with (first | ((with_reducible refine gD 2 ?_); (try (refine gate_guard (Z117) ?_; dsimp only)); refine bxF w 2 #[.int .i64 U, .string M, .int .i64 I, .string J, .bool X, .slice Y D.length Z, .string s, .int .i64 y, .bool false] 52 (Z0) ?_; intro aA hg cX BK261 aB GE261 HB hb; clear hb hg; refine bD9 BK261 ?_; intros) | (go_at_call 31; (with_reducible refine (spec_l14OK.calls k s y false true _ aO.out).mono ?_); rintro e cY ⟨rfl, hb⟩; replace BK261 := aM (kB BK261 (Z83) hb); replace HB := aM (below_step (Z13) hb); (try clear hb); refine bD9 BK261 ?_; intros))
        go_ret
        exact ⟨Z1, Z13⟩
     ·replace aQ := Bool.eq_false_iff.mpr aQ
      subst aQ
      replace H := ifF H
      obtain rfl := oI H
      go_enter func12, ntmps12
      go_wp2_with (first | ((with_reducible refine gD 2 ?_); (try (refine gate_guard (Z117) ?_; dsimp only)); refine bxF w 2 #[.int .i64 U, .string M, .int .i64 I, .string J, .bool X, .slice Y D.length Z, .string s, .int .i64 y, .bool O] 52 (Z0) ?_; intro aA hg cZ BK261 aB GE261 HB hb; clear hb hg; refine bD9 BK261 ?_; intros) | (go_at_call 31; (with_reducible refine (spec_l14OK.calls k s y O false _ aO.out).mono ?_); rintro e dA ⟨rfl, hb⟩; replace BK261 := aM (kB BK261 (Z83) hb); replace HB := aM (below_step (Z13) hb); (try clear hb)))
      go_ret
      exact ⟨Z1, Z13⟩
    ·rw [if_neg aN] at H
     have bQ := decide_eq_false aN
     have bR : decide (M.size ≤ 8000) = false := decide_eq_false (Z42)
     clear aN
     obtain rfl := oI H
     go_enter func12, ntmps12
     go_wp2_with (first | ((with_reducible refine gD 2 ?_); (try (refine gate_guard (Z117) ?_; dsimp only)); refine bxF w 2 #[.int .i64 U, .string M, .int .i64 I, .string J, .bool X, .slice Y D.length Z, .string s, .int .i64 y, .bool O] 52 (Z0) ?_; intro aA hg dB BK261 aB GE261 HB hb; clear hb hg; refine bD9 BK261 ?_; intros))
     go_ret
     exact ⟨Z1, Z13⟩
   ·rw [if_neg aI] at H
    have bO := beq_eq_false_iff_ne.mpr aI
    have bP := bne_iff_ne.mpr aI
    obtain rfl := oI H
    go_enter func12, ntmps12
    go_wp2_with (first | ((with_reducible refine gD 2 ?_); (try (refine gate_guard (Z117) ?_; dsimp only)); refine bxF w 2 #[.int .i64 U, .string M, .int .i64 I, .string J, .bool X, .slice Y D.length Z, .string s, .int .i64 y, .bool O] 52 (Z0) ?_; intro aA hg dC BK261 aB GE261 HB hb; clear hb hg; refine bD9 BK261 ?_; intros))
    go_ret
    exact ⟨Z1, Z13⟩
mutual
def spec_WorldOK.j0 : Nat → Bool → Int → ByteArray → Int → List (S98) → List (S52) → Option (Bool)
 | 0, _, _, _, _, _, _ => none
 | k + 1, s, y, D, I, J, M => if s = true then (some false) else (spec_WorldOK.l0 k 0 y D I J M)
def spec_WorldOK.l0 : Nat → Int → Int → ByteArray → Int → List (S98) → List (S52) → Option (Bool)
 | 0, _, _, _, _, _, _ => none
 | k + 1, x3, D, I, J, y, s => if x3 < 4 then (if 0 ≤ x3 then (if x3 < (s.length : Int) then ((spec_l15Conn.f k ((rd_T52 s x3).f0) ((rd_T52 s x3).f1) ((rd_T52 s x3).f2.f0) ((rd_T52 s x3).f2.f1) ((rd_T52 s x3).f2.f2) ((rd_T52 s x3).f2.f3) ((rd_T52 s x3).f3.f0) ((rd_T52 s x3).f3.f1) ((rd_T52 s x3).f3.f2) y).bind fun M => (if M = true then (spec_WorldOK.l0 k (wrap64 (x3 + 1)) D I J y s) else (some false))) else (none)) else (none)) else (some true)
end
def spec_WorldOK.f (k : Nat) (s : Int) (y : ByteArray) (D : Int) (l0_3 : List (S98)) (I : List (S52)) : Option (Bool) := if (I.length : Int) = 4 then (if (l0_3.length : Int) > 4096 then (spec_WorldOK.j0 k true s y D l0_3 I) else ((spec_EngineOK.f k s y D l0_3).bind fun J => (spec_WorldOK.j0 k (!J) s y D l0_3 I))) else (spec_WorldOK.j0 k true s y D l0_3 I)
def spec_WorldOK.T6 : Bool × List (List Nat × List Nat) := (true, [([], []), ([0], [0]), ([], []), ([1, 2], [1, 2]), ([3], [3]), ([], []), ([5], [5]), ([6], [6]), ([4, 7], [4, 7]), ([8], [8])])
def spec_WorldOK.B6 : List Nat := [0, 1, 0, 7, 15, 0, 32, 96, 255, 511]
theorem spec_WorldOK.tab6 : rtab .any (opsOf Tryz.f5 6) = spec_WorldOK.T6 := by kernel_rfl
theorem spec_WorldOK.bits6 : waitsOk spec_WorldOK.T6.2 spec_WorldOK.B6 = true := by kernel_rfl
theorem spec_WorldOK.calls (k : Nat) (y : Int) (D : ByteArray) (I : Int) (J : Option Addr) (M : Nat) (l0_3 : List (S98)) (aI : Option Addr) (aE : Nat) (s : List (S52)) (r : Bool) (w : World) (aJ : Kd.C k98 w J l0_3.length l0_3) (aK : l0_3.length ≤ M) (a6 : Kd.C k52 w aI s.length s) (bF : s.length ≤ aE) (h : spec_WorldOK.f k y D I l0_3 s = some r) :
  Calls prog 5 #[.agg #[.int .i64 y, .string D, .int .i64 I, .slice J l0_3.length M, .slice aI s.length aE]] w fun e w' => e = .returned (.bool r) ∧ Below w.heap.size w w' := by
 have bS := underlying38
 have bT := underlying35
 have bU := underlying52
 replace aJ := aM aJ
 replace aK := aM aK
 replace a6 := aM a6
 replace bF := aM bF
 have HB := aM (Below.refl w.heap.size w)
 have H := h
 clear h
 unfold spec_WorldOK.f at H
 have bA := aM H
 clear H
 go_enter func5, ntmps5
 go_upto_region 1 with (first | ((with_reducible refine gD 1 ?_); (try (refine gate_guard (Z117) ?_; dsimp only)); refine bxF w 1 #[.int .i64 y, .string D, .int .i64 I, .slice J l0_3.length M, .slice aI s.length aE] 38 (Z0) ?_; intro a7 hg w3 BK265 bV GE265 HB hb; clear hb hg))
 (try simp only [Act.put, List.setIfInBounds_toArray, List.set_cons_zero, List.set_cons_succ])
 go_cut [20] (fun bL wc => ∃ (kq : Nat) (a8 : Bool), bL = .bool a8 ∧ Aside0 (spec_WorldOK.j0 kq a8 y D I l0_3 s = some r) ∧ Aside0 (kq ≤ k) ∧ Aside0 (wc.heap[a7]? = some (.cells #[.int .i64 y, .string D, .int .i64 I, (.slice J l0_3.length M), (.slice aI s.length aE)] 38 (0, 0))) ∧ Aside0 (Below w.heap.size w wc))
 case first =>
  have H := bA.out
  clear bA
  by_cases c4 : (s.length : Int) = 4
  ·rw [if_pos c4] at H
   have aL := beq_iff_eq.mpr c4
   have bB := bne_eq_false_iff_eq.mpr c4
   clear c4
   (first | rw [aL] | rw [bB] | (simp only [i64_w, i32_w]; rw [aL]) | skip)
   by_cases c5 : (l0_3.length : Int) > 4096
   ·rw [if_pos c5] at H
    have bM : decide (4096 < (l0_3.length : Int)) = true := decide_eq_true c5
    have bN : decide (4096 < l0_3.length) = true := decide_eq_true (Z42)
    clear c5
    have H' := aM H
    clear H
    refine bD5 BK265 ?_
    intros
    go_wp2
    go_meet
    case rel => exact ⟨_, (true), (Z3), H', ⟨Z84⟩, ⟨Z107⟩, ⟨Z59⟩⟩
   ·rw [if_neg c5] at H
    have bM : decide (4096 < (l0_3.length : Int)) = false := decide_eq_false c5
    have bN : decide (4096 < l0_3.length) = false := decide_eq_false (Z42)
    clear c5
    obtain ⟨bG, A7, H⟩ := bindA H
    try dsimp only at H
    have H' := aM H
    clear H
    refine bD5 BK265 ?_
    intros
    go_wp2_with (first | (go_at_call 11; (with_reducible refine (spec_EngineOK.calls k y D I _ _ l0_3 bG _ ?Y1 ?Y2 A7.out).mono ?_); (case Y1 => have h_ := Kd.C_below aJ.out HB.out; exact tC); (case Y2 => exact aK.out); rintro e w9 ⟨rfl, hb⟩; replace BK265 := aM (kB BK265 (Z107) hb); replace HB := aM (below_step (Z59) hb); (try clear hb)))
    go_meet
    case rel => exact ⟨_, (!bG), (Z3), H', ⟨Z84⟩, ⟨Z107⟩, ⟨Z59⟩⟩
  ·rw [if_neg c4] at H
   have aL := beq_eq_false_iff_ne.mpr c4
   have bB := bne_iff_ne.mpr c4
   (first | rw [aL] | rw [bB] | (simp only [i64_w, i32_w]; rw [aL]) | skip)
   have H' := aM H
   clear H
   refine bD5 BK265 ?_
   intros
   go_wp2
   go_meet
   case rel => exact ⟨_, (true), (Z3), H', ⟨Z84⟩, ⟨Z107⟩, ⟨Z59⟩⟩
 case rest =>
  clear bA
  obtain ⟨kq, a8, rfl, HA, HJ1, BK265, HB⟩ := hcut
  cases kq with
  | zero => exact absurd HA.out (by simp [spec_WorldOK.j0])
  | succ bH =>
   have H := HA.out
   clear HA
   simp only [spec_WorldOK.j0] at H
   by_cases aN : a8 = true
   ·subst aN
    replace H := ifT H
    obtain rfl := oI H
    go_wp2
    go_ret
    exact ⟨Z1, Z59⟩
   ·replace aN := Bool.eq_false_iff.mpr aN
    subst aN
    replace H := ifF H
    have H' := aM H
    clear H
    go_wp2
    go_loopg [3] bH (fun kq v3 w' => ∃ (x3_2 : Int), v3 = .int .i64 x3_2 ∧ Aside0 (spec_WorldOK.l0 kq x3_2 y D I l0_3 s = some r) ∧ Aside0 (kq ≤ bH) ∧ Aside0 (w'.heap[a7]? = some (.cells #[.int .i64 y, .string D, .int .i64 I, (.slice J l0_3.length M), (.slice aI s.length aE)] 38 (0, 0))) ∧ Aside0 (Below w.heap.size w w'))
    case atStart => exact ⟨(0), (Z3), H', ⟨Nat.le_refl _⟩, ⟨Z107⟩, ⟨Z59⟩⟩
    case round =>
     clear H'
     (try clear aN)
     obtain ⟨x3_2, rfl, HA, HK2, BK265, HB⟩ := hrel
     cases gk with
     | zero => exact absurd HA.out (by simp [spec_WorldOK.l0])
     | succ k2 =>
      have H := HA.out
      clear HA
      simp only [spec_WorldOK.l0] at H
      by_cases aH : x3_2 < 4
      ·rw [if_pos aH] at H
       have bQ := decide_eq_true aH
       clear aH
       obtain ⟨bI, H⟩ := ifS H
       have bX := decide_eq_true bI
       clear bI
       obtain ⟨bJ, H⟩ := ifS H
       have bY := decide_eq_true bJ
       clear bJ
       obtain ⟨bR, bK, H⟩ := bindA H
       try dsimp only at H
       by_cases a9 : bR = true
       ·subst a9
        replace H := ifT H
        have H' := aM H
        clear H
        try go_wp2
        replace BK265 := aM (blk_drew BK265.out)
        replace HB := aM (below_drew1 HB.out)
        have aF : 0 ≤ (x3_2 : Int) := of_decide_eq_true (Z4)
        have aG : x3_2 < (s.length : Int) := of_decide_eq_true (Z4)
        obtain ⟨aO, aP, aQ, bD, O, U, X, Y, Z, aA, aB, aC, aD, aR, aS⟩ := at_T52 a6.out x3_2 aF aG
        have aT := aD
        have aU := aC
        have aV := aB
        have aW := aA
        have aX := Z
        have aY := Y
        have aZ := X
        have a2 := U
        have a3 := O
        cases bD
        replace O := cB HB.out O
        replace U := cB HB.out U
        replace X := cB HB.out X
        replace Y := cB HB.out Y
        replace Z := cB HB.out Z
        replace aA := cB HB.out aA
        replace aB := cB HB.out aB
        replace aC := cB HB.out aC
        replace aD := cB HB.out aD
        have a5 := aM aS
        have bE := aM aR
        clear aS aR
        replace aF := eq_true aF
        replace aG := eq_true aG
        refine start_ (n := 10) (S := fun w' => Qc5 a7 (.int .i64 y) (.string D) (.int .i64 I) (.slice J l0_3.length M) (.slice (some aO) s.length aE) (qa9 (aO.add ((x3_2).toNat * 9)) (.int .i64 ((rd_T52 s x3_2).f0)) (.string ((rd_T52 s x3_2).f1)) (.int .i64 ((rd_T52 s x3_2).f2.f0)) (.string ((rd_T52 s x3_2).f2.f1)) (.bool ((rd_T52 s x3_2).f2.f2)) (.slice aP ((rd_T52 s x3_2).f2.f3).length aQ) (.string ((rd_T52 s x3_2).f3.f0)) (.int .i64 ((rd_T52 s x3_2).f3.f1)) (.bool ((rd_T52 s x3_2).f3.f2)) w') w') (ds := []) #[false, false, false, false, false, false, false, false, false, false] (Z18) rfl rfl (bk5 BK265.out (⟨(cB HB.out a3 :), ⟨(cB HB.out a2 :), ⟨(cB HB.out aZ :), ⟨(cB HB.out aY :), ⟨(cB HB.out aX :), ⟨(cB HB.out aW :), ⟨(cB HB.out aV :), ⟨(cB HB.out aU :), (cB HB.out aT :)⟩⟩⟩⟩⟩⟩⟩⟩)) (fun hHeld => ?_); refine with_tabW spec_WorldOK.tab6 spec_WorldOK.bits6 (fun HT_ HW_ => ?_)
        generalize wr.drew = bZ at BK265 HB a5 O U X Y Z aA aB aC aD hHeld ⊢
        refine pA 0 25 ?_
        refine pA 2 27 ?_
        refine pA 5 30 ?_
        refine pA 6 31 ?_
        refine tA 1 26 ?_
        refine pA 3 28 ?_
        refine tA 4 29 ?_
        refine tA 7 32 ?_
        refine oA 8 33 (fun K hK => ?_)
        refine goes_ func12 (Z18) rfl #[.agg #[.int .i64 ((rd_T52 s x3_2).f0), .string ((rd_T52 s x3_2).f1), .int .i64 ((rd_T52 s x3_2).f2.f0), .string ((rd_T52 s x3_2).f2.f1), .bool ((rd_T52 s x3_2).f2.f2), .slice aP ((rd_T52 s x3_2).f2.f3).length aQ, .string ((rd_T52 s x3_2).f3.f0), .int .i64 ((rd_T52 s x3_2).f3.f1), .bool ((rd_T52 s x3_2).f3.f2)], .slice J l0_3.length M] (Z117) rfl rfl (Z2) ?_
        with_reducible refine (spec_l15Conn.calls k2 ((rd_T52 s x3_2).f0) ((rd_T52 s x3_2).f1) ((rd_T52 s x3_2).f2.f0) ((rd_T52 s x3_2).f2.f1) ((rd_T52 s x3_2).f2.f2) _ _ ((rd_T52 s x3_2).f2.f3) ((rd_T52 s x3_2).f3.f0) ((rd_T52 s x3_2).f3.f1) ((rd_T52 s x3_2).f3.f2) _ _ l0_3 true _ ?Y1 ?Y2 ?Y3 ?Y4 bK.out).mono ?_
        (case Y1 => have h_ := Kd.C_below a5.out HB.out; exact tC)
        (case Y2 => exact bE.out)
        (case Y3 => have h_ := Kd.C_below aJ.out HB.out; exact tC)
        (case Y4 => exact aK.out)
        rintro e b0 ⟨rfl, hb⟩
        refine ⟨_, rfl, ?_⟩
        replace BK265 := aM (kB BK265 (Z107) hb)
        replace HB := aM (below_step (Z59) hb)
        (try clear hb)
        refine hK.out _ _ (bk5 BK265.out (⟨(cB HB.out a3 :), ⟨(cB HB.out a2 :), ⟨(cB HB.out aZ :), ⟨(cB HB.out aY :), ⟨(cB HB.out aX :), ⟨(cB HB.out aW :), ⟨(cB HB.out aV :), ⟨(cB HB.out aU :), (cB HB.out aT :)⟩⟩⟩⟩⟩⟩⟩⟩)) (fun hHeld => ?_)
        clear hK K
        refine nB 33 ?_
        refine pA 9 34 ?_
        refine done_ (done_of HT_.out (Z18)) ?_
        try go_wp2
        go_roundg k2
        case measure => have := HJ1.out; have := HK2.out; omega
        case rel => exact ⟨(wrap64 (x3_2 + 1)), (Z3), H', ⟨Z183⟩, ⟨Z107⟩, ⟨Z59⟩⟩
       ·replace a9 := Bool.eq_false_iff.mpr a9
        subst a9
        replace H := ifF H
        obtain rfl := oI H
        try go_wp2
        replace BK265 := aM (blk_drew BK265.out)
        replace HB := aM (below_drew1 HB.out)
        have aF : 0 ≤ (x3_2 : Int) := of_decide_eq_true (Z4)
        have aG : x3_2 < (s.length : Int) := of_decide_eq_true (Z4)
        obtain ⟨aO, aP, aQ, bD, O, U, X, Y, Z, aA, aB, aC, aD, aR, aS⟩ := at_T52 a6.out x3_2 aF aG
        have aT := aD
        have aU := aC
        have aV := aB
        have aW := aA
        have aX := Z
        have aY := Y
        have aZ := X
        have a2 := U
        have a3 := O
        cases bD
        replace O := cB HB.out O
        replace U := cB HB.out U
        replace X := cB HB.out X
        replace Y := cB HB.out Y
        replace Z := cB HB.out Z
        replace aA := cB HB.out aA
        replace aB := cB HB.out aB
        replace aC := cB HB.out aC
        replace aD := cB HB.out aD
        have a5 := aM aS
        have bE := aM aR
        clear aS aR
        replace aF := eq_true aF
        replace aG := eq_true aG
        refine start_ (n := 10) (S := fun w' => Qc5 a7 (.int .i64 y) (.string D) (.int .i64 I) (.slice J l0_3.length M) (.slice (some aO) s.length aE) (qa9 (aO.add ((x3_2).toNat * 9)) (.int .i64 ((rd_T52 s x3_2).f0)) (.string ((rd_T52 s x3_2).f1)) (.int .i64 ((rd_T52 s x3_2).f2.f0)) (.string ((rd_T52 s x3_2).f2.f1)) (.bool ((rd_T52 s x3_2).f2.f2)) (.slice aP ((rd_T52 s x3_2).f2.f3).length aQ) (.string ((rd_T52 s x3_2).f3.f0)) (.int .i64 ((rd_T52 s x3_2).f3.f1)) (.bool ((rd_T52 s x3_2).f3.f2)) w') w') (ds := []) #[false, false, false, false, false, false, false, false, false, false] (Z18) rfl rfl (bk5 BK265.out (⟨(cB HB.out a3 :), ⟨(cB HB.out a2 :), ⟨(cB HB.out aZ :), ⟨(cB HB.out aY :), ⟨(cB HB.out aX :), ⟨(cB HB.out aW :), ⟨(cB HB.out aV :), ⟨(cB HB.out aU :), (cB HB.out aT :)⟩⟩⟩⟩⟩⟩⟩⟩)) (fun hHeld => ?_); refine with_tabW spec_WorldOK.tab6 spec_WorldOK.bits6 (fun HT_ HW_ => ?_)
        generalize wr.drew = b1 at BK265 HB a5 O U X Y Z aA aB aC aD hHeld ⊢
        refine pA 0 25 ?_
        refine pA 2 27 ?_
        refine pA 5 30 ?_
        refine pA 6 31 ?_
        refine tA 1 26 ?_
        refine pA 3 28 ?_
        refine tA 4 29 ?_
        refine tA 7 32 ?_
        refine oA 8 33 (fun K hK => ?_)
        refine goes_ func12 (Z18) rfl #[.agg #[.int .i64 ((rd_T52 s x3_2).f0), .string ((rd_T52 s x3_2).f1), .int .i64 ((rd_T52 s x3_2).f2.f0), .string ((rd_T52 s x3_2).f2.f1), .bool ((rd_T52 s x3_2).f2.f2), .slice aP ((rd_T52 s x3_2).f2.f3).length aQ, .string ((rd_T52 s x3_2).f3.f0), .int .i64 ((rd_T52 s x3_2).f3.f1), .bool ((rd_T52 s x3_2).f3.f2)], .slice J l0_3.length M] (Z117) rfl rfl (Z2) ?_
        with_reducible refine (spec_l15Conn.calls k2 ((rd_T52 s x3_2).f0) ((rd_T52 s x3_2).f1) ((rd_T52 s x3_2).f2.f0) ((rd_T52 s x3_2).f2.f1) ((rd_T52 s x3_2).f2.f2) _ _ ((rd_T52 s x3_2).f2.f3) ((rd_T52 s x3_2).f3.f0) ((rd_T52 s x3_2).f3.f1) ((rd_T52 s x3_2).f3.f2) _ _ l0_3 false _ ?Y1 ?Y2 ?Y3 ?Y4 bK.out).mono ?_
        (case Y1 => have h_ := Kd.C_below a5.out HB.out; exact tC)
        (case Y2 => exact bE.out)
        (case Y3 => have h_ := Kd.C_below aJ.out HB.out; exact tC)
        (case Y4 => exact aK.out)
        rintro e b2 ⟨rfl, hb⟩
        refine ⟨_, rfl, ?_⟩
        replace BK265 := aM (kB BK265 (Z107) hb)
        replace HB := aM (below_step (Z59) hb)
        (try clear hb)
        refine hK.out _ _ (bk5 BK265.out (⟨(cB HB.out a3 :), ⟨(cB HB.out a2 :), ⟨(cB HB.out aZ :), ⟨(cB HB.out aY :), ⟨(cB HB.out aX :), ⟨(cB HB.out aW :), ⟨(cB HB.out aV :), ⟨(cB HB.out aU :), (cB HB.out aT :)⟩⟩⟩⟩⟩⟩⟩⟩)) (fun hHeld => ?_)
        clear hK K
        refine nB 33 ?_
        refine pA 9 34 ?_
        refine done_ (done_of HT_.out (Z18)) ?_
        try go_wp2
        go_ret
        exact ⟨Z1, Z59⟩
      ·rw [if_neg aH] at H
       have bQ := decide_eq_false aH
       clear aH
       obtain rfl := oI H
       go_wp2
       go_ret
       exact ⟨Z1, Z59⟩
def laws_toLog.f (s : Int) (y : ByteArray) (D : Int) : Option (Int × ByteArray × Int) := some (s, y, D)
theorem laws_toLog.calls (s : Int) (y : ByteArray) (D : Int) (I : Int) (J : ByteArray) (M : Int) (w : World) (h : laws_toLog.f s y D = some (I, J, M)) :
  Calls prog 32 #[.agg #[.int .i64 s, .string y, .int .i64 D]] w fun e w' => e = .returned (.agg #[.int .i64 I, .string J, .int .i64 M]) ∧ Below w.heap.size w w' := by
 have aE := underlying23
 have aF := underlying32
 have HB := aM (Below.refl w.heap.size w)
 have H := h
 clear h
 unfold laws_toLog.f at H
 simp only [Option.some.injEq, Prod.mk.injEq] at H
 obtain ⟨rfl, rfl, rfl⟩ := H
 go_enter func32, ntmps32
 go_wp2_with (first | ((with_reducible refine gD 1 ?_); refine bxF w 1 #[.int .i64 s, .string y, .int .i64 D] 23 (Z0) ?_; intro aG hg w2 BK269 aH GE269 HB hb; clear hb hg) | ((with_reducible refine gD 2 ?_); refine bxF w 2 #[.int .i64 0, .string (⟨#[]⟩ : ByteArray), .int .i64 0] 32 (Z165) ?_; intro O hg w3 BK270 aI GE270 HB hb; have U := aM ((nL BK269 hg (Z129))); have X := aM ((nG BK269 hg (Z129))); replace BK269 := aM (kB BK269 (Z129) hb); clear hb hg) | ((with_reducible refine gD 3 ?_); refine bxF w 3 #[.int .i64 0, .string (⟨#[]⟩ : ByteArray), .int .i64 0] 32 (Z145) ?_; intro aJ hg w4 Y aK Z HB hb; have aA := aM ((nL BK269 hg (Z129))); have aB := aM ((nG BK269 hg (Z129))); replace BK269 := aM (kB BK269 (Z129) hb); have aC := aM ((nL BK270 hg (Z188))); have aD := aM ((nG BK270 hg (Z188))); replace BK270 := aM (kB BK270 (Z188) hb); clear hb hg; have aL := U.out; have aN := X.out; have aO := aA.out; have aP := aB.out; refine bD3 BK269 ?_; intros; have aQ := aD.out; have aR := aC.out; refine bD3 Y ?_; intros; refine bD3 BK270 ?_; intros))
 refine bodyPost_ret (results_cell_row rfl _ _ O 32 #[.int .i64 s, .string y, .int .i64 D] (0, 0) _ rfl zB underlying32 rfl (Z18)) rfl ?_
 exact ⟨Z1, by repeat (first | (with_reducible first | exact HB.out | apply below_alloc | apply pw_below_drewN | apply below_drew1 | refine below_set ?_ GE269.out | refine below_set ?_ GE270.out | refine below_set ?_ Z.out) | exact HB.out)⟩
def laws_toStored.f (s : Int) (y : Int) (D : ByteArray) : Option (Int × Int × ByteArray) := some (s, y, D)
theorem laws_toStored.calls (s : Int) (y : Int) (D : ByteArray) (I : Int) (J : Int) (M : ByteArray) (w : World) (h : laws_toStored.f s y D = some (I, J, M)) :
  Calls prog 117 #[.agg #[.int .i64 s, .int .i64 y, .string D]] w fun e w' => e = .returned (.agg #[.int .i64 I, .int .i64 J, .string M]) ∧ Below w.heap.size w w' := by
 have aE := underlying152
 have aF := underlying109
 have HB := aM (Below.refl w.heap.size w)
 have H := h
 clear h
 unfold laws_toStored.f at H
 simp only [Option.some.injEq, Prod.mk.injEq] at H
 obtain ⟨rfl, rfl, rfl⟩ := H
 go_enter func117, ntmps117
 go_wp2_with (first | ((with_reducible refine gD 1 ?_); refine bxF w 1 #[.int .i64 s, .int .i64 y, .string D] 152 (Z0) ?_; intro aG hg w2 BK272 aH GE272 HB hb; clear hb hg) | ((with_reducible refine gD 2 ?_); refine bxF w 2 #[.int .i64 0, .int .i64 0, .string (⟨#[]⟩ : ByteArray)] 109 (Z166) ?_; intro O hg w3 BK273 aI GE273 HB hb; have U := aM ((nL BK272 hg (Z130))); have X := aM ((nG BK272 hg (Z130))); replace BK272 := aM (kB BK272 (Z130) hb); clear hb hg) | ((with_reducible refine gD 3 ?_); refine bxF w 3 #[.int .i64 0, .int .i64 0, .string (⟨#[]⟩ : ByteArray)] 109 (Z146) ?_; intro aJ hg w4 Y aK Z HB hb; have aA := aM ((nL BK272 hg (Z130))); have aB := aM ((nG BK272 hg (Z130))); replace BK272 := aM (kB BK272 (Z130) hb); have aC := aM ((nL BK273 hg (Z189))); have aD := aM ((nG BK273 hg (Z189))); replace BK273 := aM (kB BK273 (Z189) hb); clear hb hg; have aL := U.out; have aN := X.out; have aO := aA.out; have aP := aB.out; refine bD3 BK272 ?_; intros; have aQ := aD.out; have aR := aC.out; refine bD3 Y ?_; intros; refine bD3 BK273 ?_; intros))
 refine bodyPost_ret (results_cell_row rfl _ _ O 109 #[.int .i64 s, .int .i64 y, .string D] (0, 0) _ rfl zB underlying109 rfl (Z18)) rfl ?_
 exact ⟨Z1, by repeat (first | (with_reducible first | exact HB.out | apply below_alloc | apply pw_below_drewN | apply below_drew1 | refine below_set ?_ GE272.out | refine below_set ?_ GE273.out | refine below_set ?_ Z.out) | exact HB.out)⟩
def laws_toStoredS.l0 : Nat → List (S152) → List (S109) → Int → Option ((List (S109)))
 | 0, _, _, _ => none
 | k + 1, x0, x3, x4 => if x4 < (x0.length : Int) then (if 0 ≤ x4 then ((laws_toStored.f ((rd_T152 x0 x4).f0) ((rd_T152 x0 x4).f1) ((rd_T152 x0 x4).f2)).bind fun s => (if x4 < (x3.length : Int) then (laws_toStoredS.l0 k x0 (x3.set (x4 : Int).toNat (⟨s.1, s.2.1, s.2.2⟩ : S109)) (wrap64 (x4 + 1))) else (none))) else (none)) else (some x3)
def laws_toStoredS.f (k : Nat) (l0 : List (S152)) : Option ((List (S109))) := if 0 ≤ (l0.length : Int) then (if ((l0.length : Int) : Int).toNat ≤ 8796093022208 then (laws_toStoredS.l0 k l0 (List.replicate ((l0.length : Int) : Int).toNat z109) 0) else (none)) else (none)
theorem laws_toStoredS.calls (k : Nat) (A0 : Option Addr) (c0 : Nat) (l0 : List (S152)) (r : List (S109)) (w : World) (hr0 : Kd.C k152 w A0 l0.length l0) (aL : l0.length ≤ c0) (h : laws_toStoredS.f k l0 = some r) :
  Calls prog 90 #[.slice A0 l0.length c0] w fun e w' => ∃ v0_ : Value, e = .returned (v0_) ∧ Kd.R k109 109 w' w.heap.size (fun _ => True) v0_ r ∧ Below w.heap.size w w' := by
 have bN := underlying152
 have bO := underlying109
 replace hr0 := aM hr0
 replace aL := aM aL
 have HB := aM (Below.refl w.heap.size w)
 have H := h
 clear h
 unfold laws_toStoredS.f at H
 obtain ⟨c2, H⟩ := ifS H
 have a3 := eq_true c2
 have a5 : decide (0 ≤ (l0.length : Int)) = true := decide_eq_true c2
 clear c2
 obtain ⟨c3, H⟩ := ifS H
 have a6 := eq_true c3
 have a7 : decide (((l0.length : Int) : Int).toNat ≤ 8796093022208) = true := decide_eq_true c3
 clear c3
 obtain ⟨aN, U⟩ : ∃ y_ : List (S109), y_ = (List.replicate ((l0.length : Int) : Int).toNat z109) := ⟨_, rfl⟩
 replace H : (laws_toStoredS.l0 k l0 aN 0) = some r := by first | (rw [U]; with_reducible exact H) | (have H2_ := (Option.bind_some _ _).symm.trans H; rw [U]; with_reducible exact H2_) | (have H2_ := (Option.bind_some _ _).symm.trans H; with_reducible exact H2_) | with_reducible exact H | (rw [U]; exact H) | exact H
 have aO := aM U
 clear U
 have H' := aM H
 clear H
 go_enter func90, ntmps90
 go_wp2_with (first | ((with_reducible refine gD 7 ?_); refine Kd.R_make k109 _ 109 rfl (N := 7) rfl 96 _ _ rfl (l0.length : Int) rfl rfl underlying96 (.agg #[(.int .i64 0), (.int .i64 0), (.string ⟨#[]⟩)]) 32 info109 rfl (Z101) (Z42) z109 (ok := fun _ => True) (okp := fun _ => True) (k109_mkM _ _ _ z109 ) (fun _ hk => hk) trivial (of_decide_eq_true (Z4)) (Nat.le_trans (Nat.mul_le_mul_right _ (of_decide_eq_true (Z4) : (l0.length : Int).toNat ≤ 8796093022208)) (Z42)) (Below.refl _ _) (Nat.le_refl _) ?_; intro a8 w4 X hb hg_ hnew_; clear hg_ hnew_; (first | rw [← aO.out] at X | (simp only [Int.reduceToNat] at X; rw [← aO.out] at X)); have a9 := aM (Kd.R_lower X (below_size (Z0))); replace HB := aM (below_step (Z0) hb); clear hb X))
 go_loopg [4] k (fun kq v4 w' => ∃ (y : List (S109)) (s : Int), v4 = .int .i64 s ∧ Aside0 (laws_toStoredS.l0 kq l0 y s = some r) ∧ Aside0 (kq ≤ k) ∧ Aside0 (Kd.R k109 109 w' w.heap.size (fun _ => True) a8 y) ∧ Aside0 (Below w.heap.size w w'))
 case atStart => exact ⟨(aN), (0), (Z3), H', ⟨Nat.le_refl _⟩, ⟨by (with_reducible repeat (first | apply Kd.R_alloc | apply Kd.R_drewN | apply Kd.R_drew)); exact a9.out⟩, ⟨Z0⟩⟩
 case round =>
  clear H'
  (try clear c2); (try clear a3); (try clear a5); (try clear c3); (try clear a6); (try clear a7)
  obtain ⟨y, s, rfl, HA, HK1, HO_3, HB⟩ := hrel
  cases gk with
  | zero => exact absurd HA.out (by simp [laws_toStoredS.l0])
  | succ k1 =>
   have H := HA.out
   clear HA
   simp only [laws_toStoredS.l0] at H
   by_cases c6 : s < (l0.length : Int)
   ·rw [if_pos c6] at H
    have bB := decide_eq_true c6
    clear c6
    obtain ⟨c7, H⟩ := ifS H
    have bP := decide_eq_true c7
    clear c7
    obtain ⟨⟨J, M, O⟩, A8, H⟩ := bindA H
    try dsimp only at H
    obtain ⟨c9, H⟩ := ifS H
    have bQ := decide_eq_true c9
    clear c9
    obtain ⟨aD, Y⟩ : ∃ y_ : List (S109), y_ = (y.set (s : Int).toNat (⟨J, M, O⟩ : S109)) := ⟨_, rfl⟩
    replace H : (laws_toStoredS.l0 k1 l0 aD (wrap64 (s + 1))) = some r := by first | (rw [Y]; with_reducible exact H) | (have H2_ := (Option.bind_some _ _).symm.trans H; rw [Y]; with_reducible exact H2_) | (have H2_ := (Option.bind_some _ _).symm.trans H; with_reducible exact H2_) | with_reducible exact H | (rw [Y]; exact H) | exact H
    have bD := aM Y
    clear Y
    have H' := aM H
    clear H
    have aE : 0 ≤ (s : Int) := of_decide_eq_true (Z4)
    have aF : s < (l0.length : Int) := of_decide_eq_true (Z4)
    obtain ⟨bR, bE, aQ, aR, aS⟩ := at_T152 hr0.out s aE aF
    cases bE
    replace aQ := cB HB.out aQ
    replace aR := cB HB.out aR
    replace aS := cB HB.out aS
    replace aE := eq_true aE
    replace aF := eq_true aF
    go_wp2_with (first | ((with_reducible refine gC 117 ?_); refine gL 20 func117 #[.agg #[.int .i64 ((rd_T152 l0 s).f0), .int .i64 ((rd_T152 l0 s).f1), .string ((rd_T152 l0 s).f2)]] ?_; (with_reducible refine (laws_toStored.calls ((rd_T152 l0 s).f0) ((rd_T152 l0 s).f1) ((rd_T152 l0 s).f2) J M O _ A8.out).mono ?_); rintro e I ⟨rfl, hb⟩; refine ⟨_, rfl, ?_⟩; replace HO_3 := aM (Kd.R_below (Z112) hb); replace HB := aM (below_step (Z0) hb); (try clear hb); have p10 : 0 ≤ (s : Int) := of_decide_eq_true (Z4); have aG : (s : Int) < ((y.length : Int) : Int) := of_decide_eq_true (Z4); obtain ⟨D, aT, aU, aV, bF, bS, aW⟩ := Kd.R_form HO_3.out (Z42); (first | cases aU | (injection aU with ea_ en_ ec_; (first | subst ea_ | (injection ea_ with ea_; subst ea_)); subst ec_; clear en_)); have aH := aM aV; have bT := aM aW; clear aV bF aW; obtain ⟨bU, bG, aX, aA, aB⟩ := Kd.R_elem HO_3.out z109 (s : Int) p10 aG; obtain rfl := k109_openM aX; have bV : I.cell? ⟨D, (s : Int).toNat * 3, none⟩ = some (.int .i64 ((rd_T109 y s).f0)) := aA 0 _ rfl; have bW : I.cell? ⟨D, (s : Int).toNat * 3 + 1, none⟩ = some (.int .i64 ((rd_T109 y s).f1)) := aA 1 _ rfl; have bX : I.cell? ⟨D, (s : Int).toNat * 3 + 2, none⟩ = some (.string ((rd_T109 y s).f2)) := aA 2 _ rfl; have bY : I.frozen? ⟨D, (s : Int).toNat * 3, none⟩ = false := aB 0; have bZ : I.frozen? ⟨D, (s : Int).toNat * 3 + 1, none⟩ = false := aB 1; have b0 : I.frozen? ⟨D, (s : Int).toNat * 3 + 2, none⟩ = false := aB 2; clear bG aA aB aX; replace p10 := eq_true p10; replace aG := eq_true aG; have aY := aM (show Kd.R k109 109 I w.heap.size (fun _ => True) (.slice (some ⟨D, 0, none⟩) y.length aT) y from (Z112)); obtain ⟨b1, aZ, a2, Z, aC⟩ := Kd.R_elem aY.out z109 (s : Int) (of_decide_eq_true (Z4)) (by have h_ : (s : Int) < ((y.length : Int) : Int) := of_decide_eq_true (Z4); first | exact h_ | (have e_ := (Kd.R_reads' HO_3.out).1; omega) | simpa using h_); obtain rfl := k109_openM a2; have aI := Kd.R_seg aY.out (s : Int) (of_decide_eq_true (Z4)) (by have h_ : (s : Int) < ((y.length : Int) : Int) := of_decide_eq_true (Z4); first | exact h_ | (have e_ := (Kd.R_reads' HO_3.out).1; omega) | simpa using h_) (seg := [.int .i64 J, .int .i64 M, .string O]) (j := 0) aZ Z (show 3 ≤ 3 from by decide) (x' := (⟨J, M, O⟩ : S109)) (k109_mkM _ _ _ (⟨J, M, O⟩ : S109) ) (fun _ hk => hk); have bH := Z 0 _ rfl; (try simp only [show (k109).sz = 3 from rfl, Nat.mul_one, Nat.add_zero] at bH); have bI := aC 0; (try simp only [show (k109).sz = 3 from rfl, Nat.mul_one, Nat.add_zero] at bI); have bJ := Z 1 _ rfl; (try simp only [show (k109).sz = 3 from rfl, Nat.mul_one, Nat.add_zero] at bJ); have bK := aC 1; (try simp only [show (k109).sz = 3 from rfl, Nat.mul_one, Nat.add_zero] at bK); have bL := Z 2 _ rfl; (try simp only [show (k109).sz = 3 from rfl, Nat.mul_one, Nat.add_zero] at bL); have bM := aC 2; (try simp only [show (k109).sz = 3 from rfl, Nat.mul_one, Nat.add_zero] at bM); clear aZ Z aC a2) | ((with_reducible refine gate_store (t := 109) (p := 21) rfl ?_); refine store_event (t := 109) (p := 21) (v := ?vo_w13) (w1 := (((I.setCell ⟨D, (s : Int).toNat * 3, none⟩ (.int .i64 J)).setCell ⟨D, (s : Int).toNat * 3 + 1, none⟩ (.int .i64 M)).setCell ⟨D, (s : Int).toNat * 3 + 2, none⟩ (.string O))) ?hg ?ho ?hn ?hr ?_; (case ho => rfl); (case hg => rfl); (case hn => rfl); (case hr => first | (go_simp; done) | (go_simp; rfl)); intro aJ hw; have hg : I.grownBy aJ (some D) := (by rw [hw]; exact aI.2); have hp_ : Kd.R k109 109 aJ w.heap.size (fun _ => True) (.slice (some ⟨D, 0, none⟩) y.length aT) aD := (by rw [hw, bD.out]; exact aI.1); clear aI; replace HO_3 := aM (hp_); replace HB := aM ((by rw [hw]; exact below_set (below_set (below_set (HB.out) aH.out) aH.out) aH.out : Below w.heap.size w aJ)); clear hg hw hp_))
    go_roundg k1
    case measure => have := HK1.out; omega
    case rel => exact ⟨(aD), (wrap64 (s + 1)), (Z3), H', ⟨Z125⟩, ⟨Z112⟩, ⟨Z0⟩⟩
   ·rw [if_neg c6] at H
    have bB := decide_eq_false c6
    clear c6
    obtain rfl := oI H
    go_wp2
    go_ret
    exact ⟨_, Z1, Z112, Z0⟩
end Go.Proofs.YtifkmkiljpeaaacGreat.PFnExactWorldOK
