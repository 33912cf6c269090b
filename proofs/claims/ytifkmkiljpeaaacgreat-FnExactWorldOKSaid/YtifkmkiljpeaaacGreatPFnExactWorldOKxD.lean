import Derived.Test.YtifkmkiljpeaaacGreatPFnExactWorldOKxA
set_option maxHeartbeats 40000000
set_option maxRecDepth 100000
namespace Go.Proofs.YtifkmkiljpeaaacGreat.PFnExactWorldOK
open Go.RowKit Go.Proofs.YtifkmkiljpeaaacGreatW.PrintWords Go.Proofs.YtifkmkiljpeaaacGreatW.PrintLast Go.Proofs.YtifkmkiljpeaaacGreatW.PrintMore Go.Proofs.YtifkmkiljpeaaacGreat.Mac Go.Proofs.Tryz
set_option linter.unusedVariables false
set_option linter.unusedSimpArgs false
mutual
def spec_BoxOK.j0 : Nat → Bool → ByteArray → Int → Int → List (S109) → List ByteArray → Option (Bool)
 | 0, _, _, _, _, _, _ => none
 | k + 1, s, y, D, I, J, M => if s = true then (some false) else (spec_BoxOK.l0 k 0 y D I J M)
def spec_BoxOK.l0 : Nat → Int → ByteArray → Int → Int → List (S109) → List ByteArray → Option (Bool)
 | 0, _, _, _, _, _, _ => none
 | k + 1, x3, D, I, y, s, J => if x3 < (s.length : Int) then (if 0 ≤ x3 then ((spec_l01In.f ((rd_T109 s x3).f0) 1 (wrap64 (y - 1))).bind fun M => (if M = true then (if x3 > 0 then (if 0 ≤ (wrap64 (x3 - 1)) then (if (wrap64 (x3 - 1)) < (s.length : Int) then (if ((rd_T109 s (wrap64 (x3 - 1))).f0) ≥ ((rd_T109 s x3).f0) then (some false) else ((spec_l01In.f ((rd_T109 s x3).f1) 0 31).bind fun O => (if O = true then (if (((rd_T109 s x3).f2).size : Int) > 4000 then (some false) else (spec_BoxOK.l0 k (wrap64 (x3 + 1)) D I y s J)) else (some false)))) else (none)) else (none)) else ((spec_l01In.f ((rd_T109 s x3).f1) 0 31).bind fun U => (if U = true then (if (((rd_T109 s x3).f2).size : Int) > 4000 then (some false) else (spec_BoxOK.l0 k (wrap64 (x3 + 1)) D I y s J)) else (some false)))) else (some false))) else (none)) else (spec_BoxOK.l1 k 0 D I y s J)
def spec_BoxOK.l1 : Nat → Int → ByteArray → Int → Int → List (S109) → List ByteArray → Option (Bool)
 | 0, _, _, _, _, _, _ => none
 | k + 1, x5, y, D, I, J, s => if x5 < (s.length : Int) then (if 0 ≤ x5 then ((spec_l01In.f ((rdOf ByteArray.empty s x5).size : Int) 1 200).bind fun M => (if M = true then (if x5 ≤ (s.length : Int) then ((spec_l06Has.f k (s.take (x5 : Int).toNat) (rdOf ByteArray.empty s x5)).bind fun O => (if O = true then (some false) else (spec_BoxOK.l1 k (wrap64 (x5 + 1)) y D I J s))) else (none)) else (some false))) else (none)) else (some true)
end
def spec_BoxOK.f (k : Nat) (D : ByteArray) (I : Int) (s : Int) (l0_3 : List (S109)) (y : List ByteArray) : Option (Bool) := (spec_NameOK.f k D).bind fun J => (if J = true then ((spec_l01In.f I 1 1000000).bind fun M => (if M = true then ((spec_l01In.f s 1 1001).bind fun O => (if O = true then (if (l0_3.length : Int) > 30 then (spec_BoxOK.j0 k true D I s l0_3 y) else (if (y.length : Int) > 60 then (spec_BoxOK.j0 k true D I s l0_3 y) else (spec_BoxOK.j0 k ((y.length : Int) != (wrap64 (s - 1))) D I s l0_3 y))) else (spec_BoxOK.j0 k true D I s l0_3 y))) else (spec_BoxOK.j0 k true D I s l0_3 y))) else (spec_BoxOK.j0 k true D I s l0_3 y))
def spec_BoxOK.T7 : Bool × List (List Nat × List Nat) := (true, [([], []), ([0], [0]), ([], []), ([2], [2]), ([3], [3]), ([1, 4], [1, 4]), ([5], [5]), ([6, 5], [6]), ([7], [7]), ([8, 7], [7, 8]), ([9, 7, 7], [7, 9]), ([10], [10]), ([11, 10], [10, 11]), ([10], [10]), ([13, 10], [10, 13]), ([12, 14, 10], [10, 12, 14]), ([15, 10], [10, 15]), ([16, 10], [10, 16]), ([10], [10]), ([18, 10], [10, 18]), ([17, 19, 10], [10, 17, 19]), ([10, 20, 7], [7, 10, 20]), ([7, 21], [7, 21]), ([22, 10], [22]), ([23], [23]), ([24, 23], [23, 24]), ([25, 23, 23], [23, 25]), ([26, 23], [23, 26]), ([23, 27], [23, 27]), ([28, 26], [28]), ([29], [29]), ([30, 29], [29, 30]), ([31, 29], [29, 31]), ([32, 29], [29, 32]), ([29, 33], [29, 33])])
def spec_BoxOK.B7 : List Nat := [0, 1, 0, 4, 12, 31, 63, 127, 255, 511, 1023, 2047, 4095, 2047, 10239, 32767, 65535, 131071, 2047, 264191, 1048575, 2097151, 4194303, 8388607, 16777215, 33554431, 67108863, 134217727, 268435455, 536870911, 1073741823, 2147483647, 4294967295, 8589934591, 17179869183]
theorem spec_BoxOK.tab7 : rtab .any (opsOf Tryz.f51 7) = spec_BoxOK.T7 := by kernel_rfl
theorem spec_BoxOK.bits7 : waitsOk spec_BoxOK.T7.2 spec_BoxOK.B7 = true := by kernel_rfl
def spec_BoxOK.T12 : Bool × List (List Nat × List Nat) := (true, [([], []), ([0], [0]), ([], []), ([1, 2], [1, 2]), ([3], [3]), ([4], [4]), ([5], [5]), ([6], [6]), ([7, 6], [7]), ([8], [8]), ([9, 8], [8, 9]), ([8], [8]), ([10, 11, 8], [8, 10, 11]), ([8], [8]), ([13, 8], [8, 13]), ([8], [8]), ([14, 15, 8], [8, 14, 15]), ([16, 8], [8, 16]), ([12, 17, 8, 8], [8, 12, 17]), ([8, 18], [8, 18])])
def spec_BoxOK.B12 : List Nat := [0, 1, 0, 7, 15, 31, 63, 127, 255, 511, 1023, 511, 4095, 511, 8703, 511, 57855, 123391, 262143, 524287]
theorem spec_BoxOK.tab12 : rtab .any (opsOf Tryz.f51 12) = spec_BoxOK.T12 := by kernel_rfl
theorem spec_BoxOK.bits12 : waitsOk spec_BoxOK.T12.2 spec_BoxOK.B12 = true := by kernel_rfl
theorem spec_BoxOK.calls (k : Nat) (J : ByteArray) (O : Int) (I : Int) (aX : Option Addr) (aA : Nat) (l0_3 : List (S109)) (aE : Option Addr) (Z : Nat) (y : List ByteArray) (r : Bool) (w : World) (aP : Kd.C k109 w aX l0_3.length l0_3) (cL : l0_3.length ≤ aA) (aY : Kd.C Kd.string w aE y.length y) (bN : y.length ≤ Z) (h : spec_BoxOK.f k J O I l0_3 y = some r) :
  Calls prog 51 #[.agg #[.string J, .int .i64 O, .int .i64 I, .slice aX l0_3.length aA, .slice aE y.length Z]] w fun e w' => e = .returned (.bool r) ∧ Below w.heap.size w w' := by
 have d4 := underlying98
 have d5 := underlying109
 replace aP := aM aP
 replace cL := aM cL
 replace aY := aM aY
 replace bN := aM bN
 have HB := aM (Below.refl w.heap.size w)
 have H := h
 clear h
 unfold spec_BoxOK.f at H
 have b6 := aM H
 clear H
 go_enter func51, ntmps51
 go_upto_region 1 with (first | ((with_reducible refine gD 1 ?_); (try (refine gate_guard (Z117) ?_; dsimp only)); refine bxF w 1 #[.string J, .int .i64 O, .int .i64 I, .slice aX l0_3.length aA, .slice aE y.length Z] 98 (Z0) ?_; intro aF hg w3 BK134 d6 GE134 HB hb; clear hb hg))
 (try simp only [Act.put, List.setIfInBounds_toArray, List.set_cons_zero, List.set_cons_succ])
 go_cut [42] (fun dD wc => ∃ (kq : Nat) (bO : Bool), dD = .bool bO ∧ Aside0 (spec_BoxOK.j0 kq bO J O I l0_3 y = some r) ∧ Aside0 (kq ≤ k) ∧ Aside0 (wc.heap[aF]? = some (.cells #[.string J, .int .i64 O, .int .i64 I, (.slice aX l0_3.length aA), (.slice aE y.length Z)] 98 (0, 0))) ∧ Aside0 (Below w.heap.size w wc))
 case first =>
  have H := b6.out
  clear b6
  obtain ⟨dE, A4, H⟩ := bindA H
  try dsimp only at H
  by_cases c5 : dE = true
  ·subst c5
   replace H := ifT H
   obtain ⟨dF, A6, H⟩ := bindA H
   try dsimp only at H
   by_cases c7 : dF = true
   ·subst c7
    replace H := ifT H
    obtain ⟨dG, A8, H⟩ := bindA H
    try dsimp only at H
    by_cases c9 : dG = true
    ·subst c9
     replace H := ifT H
     by_cases c10 : (l0_3.length : Int) > 30
     ·rw [if_pos c10] at H
      have bJ : decide (30 < (l0_3.length : Int)) = true := decide_eq_true c10
      have b7 : decide (30 < l0_3.length) = true := decide_eq_true (Z42)
      clear c10
      (first | rw [bJ] | rw [b7] | (simp only [i64_w, i32_w]; rw [bJ]) | skip)
      have H' := aM H
      clear H
      refine bD5 BK134 ?_
      intros
      go_wp2_with (first | ((with_reducible refine gC 57 ?_); refine gL 8 func57 #[.string J] ?_; (with_reducible refine (spec_NameOK.calls k J true _ A4.out).mono ?_); rintro e w' ⟨rfl, ⟨nd, rfl⟩⟩; refine ⟨_, rfl, ?_⟩) | (go_at_call 50; (with_reducible refine (spec_l01In.calls O 1 1000000 true _ A6.out).mono ?_); rintro e w' ⟨rfl, ⟨nd, rfl⟩⟩) | (go_at_call 50; (with_reducible refine (spec_l01In.calls I 1 1001 true _ A8.out).mono ?_); rintro e w' ⟨rfl, ⟨nd, rfl⟩⟩))
      go_meet
      case rel => exact ⟨_, (true), (Z3), H', ⟨Z84⟩, ⟨Z21⟩, ⟨Z8⟩⟩
     ·rw [if_neg c10] at H
      have bJ : decide (30 < (l0_3.length : Int)) = false := decide_eq_false c10
      have b7 : decide (30 < l0_3.length) = false := decide_eq_false (Z42)
      clear c10
      (first | rw [bJ] | rw [b7] | (simp only [i64_w, i32_w]; rw [bJ]) | skip)
      by_cases bC : (y.length : Int) > 60
      ·rw [if_pos bC] at H
       have dH : decide (60 < (y.length : Int)) = true := decide_eq_true bC
       have dI : decide (60 < y.length) = true := decide_eq_true (Z42)
       clear bC
       have H' := aM H
       clear H
       refine bD5 BK134 ?_
       intros
       go_wp2_with (first | ((with_reducible refine gC 57 ?_); refine gL 8 func57 #[.string J] ?_; (with_reducible refine (spec_NameOK.calls k J true _ A4.out).mono ?_); rintro e w' ⟨rfl, ⟨nd, rfl⟩⟩; refine ⟨_, rfl, ?_⟩) | (go_at_call 50; (with_reducible refine (spec_l01In.calls O 1 1000000 true _ A6.out).mono ?_); rintro e w' ⟨rfl, ⟨nd, rfl⟩⟩) | (go_at_call 50; (with_reducible refine (spec_l01In.calls I 1 1001 true _ A8.out).mono ?_); rintro e w' ⟨rfl, ⟨nd, rfl⟩⟩))
       go_meet
       case rel => exact ⟨_, (true), (Z3), H', ⟨Z84⟩, ⟨Z21⟩, ⟨Z8⟩⟩
      ·rw [if_neg bC] at H
       have dH : decide (60 < (y.length : Int)) = false := decide_eq_false bC
       have dI : decide (60 < y.length) = false := decide_eq_false (Z42)
       clear bC
       have H' := aM H
       clear H
       refine bD5 BK134 ?_
       intros
       go_wp2_with (first | ((with_reducible refine gC 57 ?_); refine gL 8 func57 #[.string J] ?_; (with_reducible refine (spec_NameOK.calls k J true _ A4.out).mono ?_); rintro e w' ⟨rfl, ⟨nd, rfl⟩⟩; refine ⟨_, rfl, ?_⟩) | (go_at_call 50; (with_reducible refine (spec_l01In.calls O 1 1000000 true _ A6.out).mono ?_); rintro e w' ⟨rfl, ⟨nd, rfl⟩⟩) | (go_at_call 50; (with_reducible refine (spec_l01In.calls I 1 1001 true _ A8.out).mono ?_); rintro e w' ⟨rfl, ⟨nd, rfl⟩⟩))
       go_meet
       case rel => exact ⟨_, (((y.length : Int) != (wrap64 (I - 1)))), (Z3), H', ⟨Z84⟩, ⟨Z21⟩, ⟨Z8⟩⟩
    ·replace c9 := Bool.eq_false_iff.mpr c9
     subst c9
     replace H := ifF H
     have H' := aM H
     clear H
     refine bD5 BK134 ?_
     intros
     go_wp2_with (first | ((with_reducible refine gC 57 ?_); refine gL 8 func57 #[.string J] ?_; (with_reducible refine (spec_NameOK.calls k J true _ A4.out).mono ?_); rintro e w' ⟨rfl, ⟨nd, rfl⟩⟩; refine ⟨_, rfl, ?_⟩) | (go_at_call 50; (with_reducible refine (spec_l01In.calls O 1 1000000 true _ A6.out).mono ?_); rintro e w' ⟨rfl, ⟨nd, rfl⟩⟩) | (go_at_call 50; (with_reducible refine (spec_l01In.calls I 1 1001 false _ A8.out).mono ?_); rintro e w' ⟨rfl, ⟨nd, rfl⟩⟩))
     go_meet
     case rel => exact ⟨_, (true), (Z3), H', ⟨Z84⟩, ⟨Z21⟩, ⟨Z8⟩⟩
   ·replace c7 := Bool.eq_false_iff.mpr c7
    subst c7
    replace H := ifF H
    have H' := aM H
    clear H
    refine bD5 BK134 ?_
    intros
    go_wp2_with (first | ((with_reducible refine gC 57 ?_); refine gL 8 func57 #[.string J] ?_; (with_reducible refine (spec_NameOK.calls k J true _ A4.out).mono ?_); rintro e w' ⟨rfl, ⟨nd, rfl⟩⟩; refine ⟨_, rfl, ?_⟩) | (go_at_call 50; (with_reducible refine (spec_l01In.calls O 1 1000000 false _ A6.out).mono ?_); rintro e w' ⟨rfl, ⟨nd, rfl⟩⟩))
    go_meet
    case rel => exact ⟨_, (true), (Z3), H', ⟨Z84⟩, ⟨Z21⟩, ⟨Z8⟩⟩
  ·replace c5 := Bool.eq_false_iff.mpr c5
   subst c5
   replace H := ifF H
   have H' := aM H
   clear H
   refine bD5 BK134 ?_
   intros
   go_wp2_with (first | ((with_reducible refine gC 57 ?_); refine gL 8 func57 #[.string J] ?_; (with_reducible refine (spec_NameOK.calls k J false _ A4.out).mono ?_); rintro e w' ⟨rfl, ⟨nd, rfl⟩⟩; refine ⟨_, rfl, ?_⟩))
   go_meet
   case rel => exact ⟨_, (true), (Z3), H', ⟨Z84⟩, ⟨Z21⟩, ⟨Z8⟩⟩
 case rest =>
  clear b6
  obtain ⟨kq, bO, rfl, HA, HJ1, BK134, HB⟩ := hcut
  cases kq with
  | zero => exact absurd HA.out (by simp [spec_BoxOK.j0])
  | succ cM =>
   have H := HA.out
   clear HA
   simp only [spec_BoxOK.j0] at H
   by_cases bK : bO = true
   ·subst bK
    replace H := ifT H
    obtain rfl := oI H
    go_wp2
    go_ret
    exact ⟨Z1, Z8⟩
   ·replace bK := Bool.eq_false_iff.mpr bK
    subst bK
    replace H := ifF H
    have H' := aM H
    clear H
    go_wp2
    go_loopg [3] cM (fun kq v3 w' => ∃ (x3_2 : Int), v3 = .int .i64 x3_2 ∧ Aside0 (spec_BoxOK.l0 kq x3_2 J O I l0_3 y = some r) ∧ Aside0 (kq ≤ cM) ∧ Aside0 (w'.heap[aF]? = some (.cells #[.string J, .int .i64 O, .int .i64 I, (.slice aX l0_3.length aA), (.slice aE y.length Z)] 98 (0, 0))) ∧ Aside0 (Below w.heap.size w w'))
    case atStart => exact ⟨(0), (Z3), H', ⟨Nat.le_refl _⟩, ⟨Z21⟩, ⟨Z8⟩⟩
    case round =>
     clear H'
     (try clear bK)
     obtain ⟨x3_2, rfl, HA, HK2, BK134, HB⟩ := hrel
     cases gk with
     | zero => exact absurd HA.out (by simp [spec_BoxOK.l0])
     | succ k2 =>
      have H := HA.out
      clear HA
      simp only [spec_BoxOK.l0] at H
      by_cases a3 : x3_2 < (l0_3.length : Int)
      ·rw [if_pos a3] at H
       have cN := decide_eq_true a3
       clear a3
       obtain ⟨cO, H⟩ := ifS H
       have eA := decide_eq_true cO
       clear cO
       obtain ⟨dK, aZ, H⟩ := bindA H
       try dsimp only at H
       by_cases bQ : dK = true
       ·subst bQ
        replace H := ifT H
        by_cases bD : x3_2 > 0
        ·rw [if_pos bD] at H
         have dL : decide (0 < x3_2) = true := decide_eq_true bD
         clear bD
         obtain ⟨M, hji24⟩ : ∃ j_ : Int, (wrap64 (x3_2 - 1)) = j_ := ⟨_, rfl⟩
         replace H : (if 0 ≤ (M) then (if (M) < (l0_3.length : Int) then (if ((rd_T109 l0_3 (M)).f0) ≥ ((rd_T109 l0_3 x3_2).f0) then (some false) else ((spec_l01In.f ((rd_T109 l0_3 x3_2).f1) 0 31).bind fun b8 => (if b8 = true then (if (((rd_T109 l0_3 x3_2).f2).size : Int) > 4000 then (some false) else (spec_BoxOK.l0 k2 (wrap64 (x3_2 + 1)) J O I l0_3 y)) else (some false)))) else (none)) else (none)) = some r := by first | (rw [hji24] at H; exact H) | (simp only [hji24] at H ⊢; exact H)
         (try rw [hji24] at aZ)
         have hji24w : (IntKind.i64.wrap (x3_2 - 1)) = M := (i64_w _).trans hji24
         obtain ⟨cP, H⟩ := ifS H
         have eB := decide_eq_true cP
         clear cP
         obtain ⟨cQ, H⟩ := ifS H
         have eC := decide_eq_true cQ
         clear cQ
         by_cases bE : ((rd_T109 l0_3 (M)).f0) ≥ ((rd_T109 l0_3 x3_2).f0)
         ·rw [if_pos bE] at H
          have dM : decide (((rd_T109 l0_3 x3_2).f0) ≤ ((rd_T109 l0_3 (M)).f0)) = true := decide_eq_true bE
          clear bE
          obtain rfl := oI H
          refine bD5 BK134 ?_
          intros
          have U : 0 ≤ (x3_2 : Int) := of_decide_eq_true (Z4)
          have X : x3_2 < (l0_3.length : Int) := of_decide_eq_true (Z4)
          obtain ⟨Y, aK, aB, aC, aD⟩ := at_T109 aP.out x3_2 U X
          cases aK
          replace aB := cB HB.out aB
          replace aC := cB HB.out aC
          replace aD := cB HB.out aD
          replace U := eq_true U
          replace X := eq_true X
          try go_wp2_with (first | ((with_reducible refine gD 4 ?_); (try (refine gate_guard (Z117) ?_; dsimp only)); refine bxF w 4 #[.int .i64 0, .int .i64 0, .string (⟨#[]⟩ : ByteArray)] 109 (Z8) ?_; intro s hg bR BK139 a5 GE139 HB hb; have NB134_139 := aM ((nL BK134 hg (Z21))); have aL := aM ((nG BK134 hg (Z21))); replace BK134 := aM (kB BK134 (Z21) hb); clear hb hg; have eD := aL.out; have eE := NB134_139.out; refine bD3 BK139 ?_; intros))
          have n0_ : Aside0 ((((bR.setCell ⟨s, 0, none⟩ (.int .i64 ((rd_T109 l0_3 x3_2).f0))).setCell ⟨s, 1, none⟩ (.int .i64 ((rd_T109 l0_3 x3_2).f1))).setCell ⟨s, 2, none⟩ (.string ((rd_T109 l0_3 x3_2).f2))).heap[aF]? = some (.cells #[.string J, .int .i64 O, .int .i64 I, .slice (some Y) l0_3.length aA, .slice aE y.length Z] 98 (0, 0))) := ⟨Z20⟩
          have n1_ : Aside0 ((((bR.setCell ⟨s, 0, none⟩ (.int .i64 ((rd_T109 l0_3 x3_2).f0))).setCell ⟨s, 1, none⟩ (.int .i64 ((rd_T109 l0_3 x3_2).f1))).setCell ⟨s, 2, none⟩ (.string ((rd_T109 l0_3 x3_2).f2))).heap[s]? = some (.cells #[.int .i64 ((rd_T109 l0_3 x3_2).f0), .int .i64 ((rd_T109 l0_3 x3_2).f1), .string ((rd_T109 l0_3 x3_2).f2)] 109 (0, 0))) := ⟨Z10⟩
          have n2_ : Aside0 (Below w.heap.size w (((bR.setCell ⟨s, 0, none⟩ (.int .i64 ((rd_T109 l0_3 x3_2).f0))).setCell ⟨s, 1, none⟩ (.int .i64 ((rd_T109 l0_3 x3_2).f1))).setCell ⟨s, 2, none⟩ (.string ((rd_T109 l0_3 x3_2).f2)))) := ⟨Z28⟩
          (try clear BK134); (try clear BK139); (try clear HB)
          generalize (((bR.setCell ⟨s, 0, none⟩ (.int .i64 ((rd_T109 l0_3 x3_2).f0))).setCell ⟨s, 1, none⟩ (.int .i64 ((rd_T109 l0_3 x3_2).f1))).setCell ⟨s, 2, none⟩ (.string ((rd_T109 l0_3 x3_2).f2))) = dN at n0_ n1_ n2_ ⊢
          have BK134 := n0_
          have BK139 := n1_
          have HB := n2_
          clear n0_ n1_ n2_
          replace BK134 := aM (blk_drew BK134.out)
          replace BK139 := aM (blk_drew BK139.out)
          replace HB := aM (below_drew1 HB.out)
          have aN : 0 ≤ ((M) : Int) := of_decide_eq_true (Z4)
          have aO : (M) < (l0_3.length : Int) := of_decide_eq_true (Z4)
          obtain ⟨a6, a7, aG, aH, aI⟩ := at_T109 aP.out (M) aN aO
          have aQ := aI
          have aR := aH
          have aS := aG
          obtain rfl : Y = a6 := (by injection a7)
          replace aG := cB HB.out aG
          replace aH := cB HB.out aH
          replace aI := cB HB.out aI
          replace aN := eq_true aN
          replace aO := eq_true aO
          refine start_ (n := 35) (S := fun w' => Qc3 s (.int .i64 ((rd_T109 l0_3 x3_2).f0)) (.int .i64 ((rd_T109 l0_3 x3_2).f1)) (.string ((rd_T109 l0_3 x3_2).f2)) (Qc5 aF (.string J) (.int .i64 O) (.int .i64 I) (.slice (some Y) l0_3.length aA) (.slice aE y.length Z) (qa3 (Y.add (((M)).toNat * 3)) (.int .i64 ((rd_T109 l0_3 (M)).f0)) (.int .i64 ((rd_T109 l0_3 (M)).f1)) (.string ((rd_T109 l0_3 (M)).f2)) w') w') w') (ds := []) #[false, false, false, false, false, false, false, false, false, false, false, false, false, false, false, false, false, false, false, false, false, false, false, false, false, false, false, false, false, false, false, false, false, false, false] (Z18) rfl rfl (bk3 BK139.out (bk5 BK134.out (⟨(cB HB.out aS :), ⟨(cB HB.out aR :), (cB HB.out aQ :)⟩⟩))) (fun hHeld => ?_); refine with_tabW spec_BoxOK.tab7 spec_BoxOK.bits7 (fun HT_ HW_ => ?_)
          generalize dN.drew = eF at BK134 BK139 HB aG aH aI hHeld ⊢
          refine pA 0 55 ?_
          refine pA 2 57 ?_
          refine tA 1 56 ?_
          refine tA 3 58 ?_
          refine pA 4 59 ?_
          refine oA 5 60 (fun K hK => ?_)
          refine goes_ func50 (Z18) rfl #[.int .i64 ((rd_T109 l0_3 x3_2).f0), .int .i64 1, .int .i64 (wrap64 (I - 1))] (Z117) rfl rfl (Z2) ?_
          with_reducible refine (spec_l01In.calls ((rd_T109 l0_3 x3_2).f0) 1 (wrap64 (I - 1)) true _ aZ.out).mono ?_
          rintro e w' ⟨rfl, ⟨nd, rfl⟩⟩
          refine ⟨_, rfl, ?_⟩
          refine hK.out _ _ (bk3 BK139.out (bk5 BK134.out (⟨(cB HB.out aS :), ⟨(cB HB.out aR :), (cB HB.out aQ :)⟩⟩))) (fun hHeld => ?_)
          clear hK K
          refine nB 60 ?_
          refine pA 6 61 ?_
          refine pA 7 62 ?_
          refine pA 8 63 ?_
          refine pA 9 64 ?_
          refine pA 10 65 ?_
          refine pA 11 66 ?_
          refine pA 13 68 ?_
          refine pA 14 69 ?_
          refine pA 18 73 ?_
          refine tA 12 67 ?_
          refine pA 15 70 ?_
          refine pA 16 71 ?_
          refine tA 17 72 ?_
          refine tA 19 74 ?_
          refine pA 20 75 ?_
          refine pA 21 76 ?_
          refine pA 22 77 ?_
          refine pA 23 78 ?_
          refine pU 24 79 ?_
          refine pU 25 80 ?_
          refine pU 26 81 ?_
          refine pU 27 82 ?_
          refine pA 28 83 ?_
          refine pA 29 84 ?_
          refine pU 30 85 ?_
          refine pU 31 86 ?_
          refine pU 32 87 ?_
          refine pU 33 88 ?_
          refine pA 34 89 ?_
          refine done_ (done_of HT_.out (Z18)) ?_
          try go_wp2
          go_ret
          exact ⟨Z126, Z28⟩
         ·rw [if_neg bE] at H
          have dM : decide (((rd_T109 l0_3 x3_2).f0) ≤ ((rd_T109 l0_3 (M)).f0)) = false := decide_eq_false bE
          clear bE
          obtain ⟨b8, b9, H⟩ := bindA H
          try dsimp only at H
          by_cases bS : b8 = true
          ·subst bS
           replace H := ifT H
           by_cases bF : (((rd_T109 l0_3 x3_2).f2).size : Int) > 4000
           ·rw [if_pos bF] at H
            have dO : decide (4000 < (((rd_T109 l0_3 x3_2).f2).size : Int)) = true := decide_eq_true bF
            have dP : decide (4000 < ((rd_T109 l0_3 x3_2).f2).size) = true := decide_eq_true (Z42)
            clear bF
            obtain rfl := oI H
            refine bD5 BK134 ?_
            intros
            have U : 0 ≤ (x3_2 : Int) := of_decide_eq_true (Z4)
            have X : x3_2 < (l0_3.length : Int) := of_decide_eq_true (Z4)
            obtain ⟨Y, aK, aB, aC, aD⟩ := at_T109 aP.out x3_2 U X
            cases aK
            replace aB := cB HB.out aB
            replace aC := cB HB.out aC
            replace aD := cB HB.out aD
            replace U := eq_true U
            replace X := eq_true X
            try go_wp2_with (first | ((with_reducible refine gD 4 ?_); (try (refine gate_guard (Z117) ?_; dsimp only)); refine bxF w 4 #[.int .i64 0, .int .i64 0, .string (⟨#[]⟩ : ByteArray)] 109 (Z8) ?_; intro s hg bT BK139 a5 GE139 HB hb; have NB134_139 := aM ((nL BK134 hg (Z21))); have aL := aM ((nG BK134 hg (Z21))); replace BK134 := aM (kB BK134 (Z21) hb); clear hb hg; have eG := aL.out; have eH := NB134_139.out; refine bD3 BK139 ?_; intros))
            have n0_ : Aside0 ((((bT.setCell ⟨s, 0, none⟩ (.int .i64 ((rd_T109 l0_3 x3_2).f0))).setCell ⟨s, 1, none⟩ (.int .i64 ((rd_T109 l0_3 x3_2).f1))).setCell ⟨s, 2, none⟩ (.string ((rd_T109 l0_3 x3_2).f2))).heap[aF]? = some (.cells #[.string J, .int .i64 O, .int .i64 I, .slice (some Y) l0_3.length aA, .slice aE y.length Z] 98 (0, 0))) := ⟨Z20⟩
            have n1_ : Aside0 ((((bT.setCell ⟨s, 0, none⟩ (.int .i64 ((rd_T109 l0_3 x3_2).f0))).setCell ⟨s, 1, none⟩ (.int .i64 ((rd_T109 l0_3 x3_2).f1))).setCell ⟨s, 2, none⟩ (.string ((rd_T109 l0_3 x3_2).f2))).heap[s]? = some (.cells #[.int .i64 ((rd_T109 l0_3 x3_2).f0), .int .i64 ((rd_T109 l0_3 x3_2).f1), .string ((rd_T109 l0_3 x3_2).f2)] 109 (0, 0))) := ⟨Z10⟩
            have n2_ : Aside0 (Below w.heap.size w (((bT.setCell ⟨s, 0, none⟩ (.int .i64 ((rd_T109 l0_3 x3_2).f0))).setCell ⟨s, 1, none⟩ (.int .i64 ((rd_T109 l0_3 x3_2).f1))).setCell ⟨s, 2, none⟩ (.string ((rd_T109 l0_3 x3_2).f2)))) := ⟨Z28⟩
            (try clear BK134); (try clear BK139); (try clear HB)
            generalize (((bT.setCell ⟨s, 0, none⟩ (.int .i64 ((rd_T109 l0_3 x3_2).f0))).setCell ⟨s, 1, none⟩ (.int .i64 ((rd_T109 l0_3 x3_2).f1))).setCell ⟨s, 2, none⟩ (.string ((rd_T109 l0_3 x3_2).f2))) = dQ at n0_ n1_ n2_ ⊢
            have BK134 := n0_
            have BK139 := n1_
            have HB := n2_
            clear n0_ n1_ n2_
            replace BK134 := aM (blk_drew BK134.out)
            replace BK139 := aM (blk_drew BK139.out)
            replace HB := aM (below_drew1 HB.out)
            have aN : 0 ≤ ((M) : Int) := of_decide_eq_true (Z4)
            have aO : (M) < (l0_3.length : Int) := of_decide_eq_true (Z4)
            obtain ⟨a6, a7, aG, aH, aI⟩ := at_T109 aP.out (M) aN aO
            have aQ := aI
            have aR := aH
            have aS := aG
            obtain rfl : Y = a6 := (by injection a7)
            replace aG := cB HB.out aG
            replace aH := cB HB.out aH
            replace aI := cB HB.out aI
            replace aN := eq_true aN
            replace aO := eq_true aO
            refine start_ (n := 35) (S := fun w' => Qc3 s (.int .i64 ((rd_T109 l0_3 x3_2).f0)) (.int .i64 ((rd_T109 l0_3 x3_2).f1)) (.string ((rd_T109 l0_3 x3_2).f2)) (Qc5 aF (.string J) (.int .i64 O) (.int .i64 I) (.slice (some Y) l0_3.length aA) (.slice aE y.length Z) (qa3 (Y.add (((M)).toNat * 3)) (.int .i64 ((rd_T109 l0_3 (M)).f0)) (.int .i64 ((rd_T109 l0_3 (M)).f1)) (.string ((rd_T109 l0_3 (M)).f2)) w') w') w') (ds := []) #[false, false, false, false, false, false, false, false, false, false, false, false, false, false, false, false, false, false, false, false, false, false, false, false, false, false, false, false, false, false, false, false, false, false, false] (Z18) rfl rfl (bk3 BK139.out (bk5 BK134.out (⟨(cB HB.out aS :), ⟨(cB HB.out aR :), (cB HB.out aQ :)⟩⟩))) (fun hHeld => ?_); refine with_tabW spec_BoxOK.tab7 spec_BoxOK.bits7 (fun HT_ HW_ => ?_)
            generalize dQ.drew = eI at BK134 BK139 HB aG aH aI hHeld ⊢
            refine pA 0 55 ?_
            refine pA 2 57 ?_
            refine tA 1 56 ?_
            refine tA 3 58 ?_
            refine pA 4 59 ?_
            refine oA 5 60 (fun K hK => ?_)
            refine goes_ func50 (Z18) rfl #[.int .i64 ((rd_T109 l0_3 x3_2).f0), .int .i64 1, .int .i64 (wrap64 (I - 1))] (Z117) rfl rfl (Z2) ?_
            with_reducible refine (spec_l01In.calls ((rd_T109 l0_3 x3_2).f0) 1 (wrap64 (I - 1)) true _ aZ.out).mono ?_
            rintro e w' ⟨rfl, ⟨nd, rfl⟩⟩
            refine ⟨_, rfl, ?_⟩
            refine hK.out _ _ (bk3 BK139.out (bk5 BK134.out (⟨(cB HB.out aS :), ⟨(cB HB.out aR :), (cB HB.out aQ :)⟩⟩))) (fun hHeld => ?_)
            clear hK K
            refine nB 60 ?_
            refine pA 6 61 ?_
            refine pA 7 62 ?_
            refine pA 8 63 ?_
            refine pA 9 64 ?_
            refine pA 10 65 ?_
            refine pA 11 66 ?_
            refine pA 13 68 ?_
            refine pA 14 69 ?_
            refine pA 18 73 ?_
            refine tA 12 67 ?_
            refine pA 15 70 ?_
            refine pA 16 71 ?_
            refine tA 17 72 ?_
            refine tA 19 74 ?_
            refine pA 20 75 ?_
            refine pA 21 76 ?_
            refine pA 22 77 ?_
            refine pA 23 78 ?_
            refine pA 24 79 ?_
            refine tA 25 80 ?_
            refine oA 26 81 (fun K hK => ?_)
            refine goes_ func50 (Z18) rfl #[.int .i64 ((rd_T109 l0_3 x3_2).f1), .int .i64 0, .int .i64 31] (Z117) rfl rfl (Z2) ?_
            with_reducible refine (spec_l01In.calls ((rd_T109 l0_3 x3_2).f1) 0 31 true _ b9.out).mono ?_
            rintro e w' ⟨rfl, ⟨nd, rfl⟩⟩
            refine ⟨_, rfl, ?_⟩
            refine hK.out _ _ (bk3 BK139.out (bk5 BK134.out (⟨(cB HB.out aS :), ⟨(cB HB.out aR :), (cB HB.out aQ :)⟩⟩))) (fun hHeld => ?_)
            clear hK K
            refine nB 81 ?_
            refine pA 27 82 ?_
            refine pA 28 83 ?_
            refine pA 29 84 ?_
            refine pA 30 85 ?_
            refine tA 31 86 ?_
            refine pA 32 87 ?_
            refine pA 33 88 ?_
            refine pA 34 89 ?_
            refine done_ (done_of HT_.out (Z18)) ?_
            try go_wp2
            go_ret
            exact ⟨Z126, Z28⟩
           ·rw [if_neg bF] at H
            have dO : decide (4000 < (((rd_T109 l0_3 x3_2).f2).size : Int)) = false := decide_eq_false bF
            have dP : decide (4000 < ((rd_T109 l0_3 x3_2).f2).size) = false := decide_eq_false (Z42)
            clear bF
            have H' := aM H
            clear H
            refine bD5 BK134 ?_
            intros
            have U : 0 ≤ (x3_2 : Int) := of_decide_eq_true (Z4)
            have X : x3_2 < (l0_3.length : Int) := of_decide_eq_true (Z4)
            obtain ⟨Y, aK, aB, aC, aD⟩ := at_T109 aP.out x3_2 U X
            cases aK
            replace aB := cB HB.out aB
            replace aC := cB HB.out aC
            replace aD := cB HB.out aD
            replace U := eq_true U
            replace X := eq_true X
            try go_wp2_with (first | ((with_reducible refine gD 4 ?_); (try (refine gate_guard (Z117) ?_; dsimp only)); refine bxF w 4 #[.int .i64 0, .int .i64 0, .string (⟨#[]⟩ : ByteArray)] 109 (Z8) ?_; intro s hg bU BK139 a5 GE139 HB hb; have NB134_139 := aM ((nL BK134 hg (Z21))); have aL := aM ((nG BK134 hg (Z21))); replace BK134 := aM (kB BK134 (Z21) hb); clear hb hg; have eJ := aL.out; have eK := NB134_139.out; refine bD3 BK139 ?_; intros))
            have n0_ : Aside0 ((((bU.setCell ⟨s, 0, none⟩ (.int .i64 ((rd_T109 l0_3 x3_2).f0))).setCell ⟨s, 1, none⟩ (.int .i64 ((rd_T109 l0_3 x3_2).f1))).setCell ⟨s, 2, none⟩ (.string ((rd_T109 l0_3 x3_2).f2))).heap[aF]? = some (.cells #[.string J, .int .i64 O, .int .i64 I, .slice (some Y) l0_3.length aA, .slice aE y.length Z] 98 (0, 0))) := ⟨Z20⟩
            have n1_ : Aside0 ((((bU.setCell ⟨s, 0, none⟩ (.int .i64 ((rd_T109 l0_3 x3_2).f0))).setCell ⟨s, 1, none⟩ (.int .i64 ((rd_T109 l0_3 x3_2).f1))).setCell ⟨s, 2, none⟩ (.string ((rd_T109 l0_3 x3_2).f2))).heap[s]? = some (.cells #[.int .i64 ((rd_T109 l0_3 x3_2).f0), .int .i64 ((rd_T109 l0_3 x3_2).f1), .string ((rd_T109 l0_3 x3_2).f2)] 109 (0, 0))) := ⟨Z10⟩
            have n2_ : Aside0 (Below w.heap.size w (((bU.setCell ⟨s, 0, none⟩ (.int .i64 ((rd_T109 l0_3 x3_2).f0))).setCell ⟨s, 1, none⟩ (.int .i64 ((rd_T109 l0_3 x3_2).f1))).setCell ⟨s, 2, none⟩ (.string ((rd_T109 l0_3 x3_2).f2)))) := ⟨Z28⟩
            (try clear BK134); (try clear BK139); (try clear HB)
            generalize (((bU.setCell ⟨s, 0, none⟩ (.int .i64 ((rd_T109 l0_3 x3_2).f0))).setCell ⟨s, 1, none⟩ (.int .i64 ((rd_T109 l0_3 x3_2).f1))).setCell ⟨s, 2, none⟩ (.string ((rd_T109 l0_3 x3_2).f2))) = dR at n0_ n1_ n2_ ⊢
            have BK134 := n0_
            have BK139 := n1_
            have HB := n2_
            clear n0_ n1_ n2_
            replace BK134 := aM (blk_drew BK134.out)
            replace BK139 := aM (blk_drew BK139.out)
            replace HB := aM (below_drew1 HB.out)
            have aN : 0 ≤ ((M) : Int) := of_decide_eq_true (Z4)
            have aO : (M) < (l0_3.length : Int) := of_decide_eq_true (Z4)
            obtain ⟨a6, a7, aG, aH, aI⟩ := at_T109 aP.out (M) aN aO
            have aQ := aI
            have aR := aH
            have aS := aG
            obtain rfl : Y = a6 := (by injection a7)
            replace aG := cB HB.out aG
            replace aH := cB HB.out aH
            replace aI := cB HB.out aI
            replace aN := eq_true aN
            replace aO := eq_true aO
            refine start_ (n := 35) (S := fun w' => Qc3 s (.int .i64 ((rd_T109 l0_3 x3_2).f0)) (.int .i64 ((rd_T109 l0_3 x3_2).f1)) (.string ((rd_T109 l0_3 x3_2).f2)) (Qc5 aF (.string J) (.int .i64 O) (.int .i64 I) (.slice (some Y) l0_3.length aA) (.slice aE y.length Z) (qa3 (Y.add (((M)).toNat * 3)) (.int .i64 ((rd_T109 l0_3 (M)).f0)) (.int .i64 ((rd_T109 l0_3 (M)).f1)) (.string ((rd_T109 l0_3 (M)).f2)) w') w') w') (ds := []) #[false, false, false, false, false, false, false, false, false, false, false, false, false, false, false, false, false, false, false, false, false, false, false, false, false, false, false, false, false, false, false, false, false, false, false] (Z18) rfl rfl (bk3 BK139.out (bk5 BK134.out (⟨(cB HB.out aS :), ⟨(cB HB.out aR :), (cB HB.out aQ :)⟩⟩))) (fun hHeld => ?_); refine with_tabW spec_BoxOK.tab7 spec_BoxOK.bits7 (fun HT_ HW_ => ?_)
            generalize dR.drew = eL at BK134 BK139 HB aG aH aI hHeld ⊢
            refine pA 0 55 ?_
            refine pA 2 57 ?_
            refine tA 1 56 ?_
            refine tA 3 58 ?_
            refine pA 4 59 ?_
            refine oA 5 60 (fun K hK => ?_)
            refine goes_ func50 (Z18) rfl #[.int .i64 ((rd_T109 l0_3 x3_2).f0), .int .i64 1, .int .i64 (wrap64 (I - 1))] (Z117) rfl rfl (Z2) ?_
            with_reducible refine (spec_l01In.calls ((rd_T109 l0_3 x3_2).f0) 1 (wrap64 (I - 1)) true _ aZ.out).mono ?_
            rintro e w' ⟨rfl, ⟨nd, rfl⟩⟩
            refine ⟨_, rfl, ?_⟩
            refine hK.out _ _ (bk3 BK139.out (bk5 BK134.out (⟨(cB HB.out aS :), ⟨(cB HB.out aR :), (cB HB.out aQ :)⟩⟩))) (fun hHeld => ?_)
            clear hK K
            refine nB 60 ?_
            refine pA 6 61 ?_
            refine pA 7 62 ?_
            refine pA 8 63 ?_
            refine pA 9 64 ?_
            refine pA 10 65 ?_
            refine pA 11 66 ?_
            refine pA 13 68 ?_
            refine pA 14 69 ?_
            refine pA 18 73 ?_
            refine tA 12 67 ?_
            refine pA 15 70 ?_
            refine pA 16 71 ?_
            refine tA 17 72 ?_
            refine tA 19 74 ?_
            refine pA 20 75 ?_
            refine pA 21 76 ?_
            refine pA 22 77 ?_
            refine pA 23 78 ?_
            refine pA 24 79 ?_
            refine tA 25 80 ?_
            refine oA 26 81 (fun K hK => ?_)
            refine goes_ func50 (Z18) rfl #[.int .i64 ((rd_T109 l0_3 x3_2).f1), .int .i64 0, .int .i64 31] (Z117) rfl rfl (Z2) ?_
            with_reducible refine (spec_l01In.calls ((rd_T109 l0_3 x3_2).f1) 0 31 true _ b9.out).mono ?_
            rintro e w' ⟨rfl, ⟨nd, rfl⟩⟩
            refine ⟨_, rfl, ?_⟩
            refine hK.out _ _ (bk3 BK139.out (bk5 BK134.out (⟨(cB HB.out aS :), ⟨(cB HB.out aR :), (cB HB.out aQ :)⟩⟩))) (fun hHeld => ?_)
            clear hK K
            refine nB 81 ?_
            refine pA 27 82 ?_
            refine pA 28 83 ?_
            refine pA 29 84 ?_
            refine pA 30 85 ?_
            refine tA 31 86 ?_
            refine pA 32 87 ?_
            refine pA 33 88 ?_
            refine pA 34 89 ?_
            refine done_ (done_of HT_.out (Z18)) ?_
            try go_wp2
            go_roundg k2
            case measure => have := HJ1.out; have := HK2.out; omega
            case rel => exact ⟨(wrap64 (x3_2 + 1)), (Z3), H', ⟨Z183⟩, ⟨Z21⟩, ⟨Z28⟩⟩
          ·replace bS := Bool.eq_false_iff.mpr bS
           subst bS
           replace H := ifF H
           obtain rfl := oI H
           refine bD5 BK134 ?_
           intros
           have U : 0 ≤ (x3_2 : Int) := of_decide_eq_true (Z4)
           have X : x3_2 < (l0_3.length : Int) := of_decide_eq_true (Z4)
           obtain ⟨Y, aK, aB, aC, aD⟩ := at_T109 aP.out x3_2 U X
           cases aK
           replace aB := cB HB.out aB
           replace aC := cB HB.out aC
           replace aD := cB HB.out aD
           replace U := eq_true U
           replace X := eq_true X
           try go_wp2_with (first | ((with_reducible refine gD 4 ?_); (try (refine gate_guard (Z117) ?_; dsimp only)); refine bxF w 4 #[.int .i64 0, .int .i64 0, .string (⟨#[]⟩ : ByteArray)] 109 (Z8) ?_; intro s hg bV BK139 a5 GE139 HB hb; have NB134_139 := aM ((nL BK134 hg (Z21))); have aL := aM ((nG BK134 hg (Z21))); replace BK134 := aM (kB BK134 (Z21) hb); clear hb hg; have eM := aL.out; have eN := NB134_139.out; refine bD3 BK139 ?_; intros))
           have n0_ : Aside0 ((((bV.setCell ⟨s, 0, none⟩ (.int .i64 ((rd_T109 l0_3 x3_2).f0))).setCell ⟨s, 1, none⟩ (.int .i64 ((rd_T109 l0_3 x3_2).f1))).setCell ⟨s, 2, none⟩ (.string ((rd_T109 l0_3 x3_2).f2))).heap[aF]? = some (.cells #[.string J, .int .i64 O, .int .i64 I, .slice (some Y) l0_3.length aA, .slice aE y.length Z] 98 (0, 0))) := ⟨Z20⟩
           have n1_ : Aside0 ((((bV.setCell ⟨s, 0, none⟩ (.int .i64 ((rd_T109 l0_3 x3_2).f0))).setCell ⟨s, 1, none⟩ (.int .i64 ((rd_T109 l0_3 x3_2).f1))).setCell ⟨s, 2, none⟩ (.string ((rd_T109 l0_3 x3_2).f2))).heap[s]? = some (.cells #[.int .i64 ((rd_T109 l0_3 x3_2).f0), .int .i64 ((rd_T109 l0_3 x3_2).f1), .string ((rd_T109 l0_3 x3_2).f2)] 109 (0, 0))) := ⟨Z10⟩
           have n2_ : Aside0 (Below w.heap.size w (((bV.setCell ⟨s, 0, none⟩ (.int .i64 ((rd_T109 l0_3 x3_2).f0))).setCell ⟨s, 1, none⟩ (.int .i64 ((rd_T109 l0_3 x3_2).f1))).setCell ⟨s, 2, none⟩ (.string ((rd_T109 l0_3 x3_2).f2)))) := ⟨Z28⟩
           (try clear BK134); (try clear BK139); (try clear HB)
           generalize (((bV.setCell ⟨s, 0, none⟩ (.int .i64 ((rd_T109 l0_3 x3_2).f0))).setCell ⟨s, 1, none⟩ (.int .i64 ((rd_T109 l0_3 x3_2).f1))).setCell ⟨s, 2, none⟩ (.string ((rd_T109 l0_3 x3_2).f2))) = dS at n0_ n1_ n2_ ⊢
           have BK134 := n0_
           have BK139 := n1_
           have HB := n2_
           clear n0_ n1_ n2_
           replace BK134 := aM (blk_drew BK134.out)
           replace BK139 := aM (blk_drew BK139.out)
           replace HB := aM (below_drew1 HB.out)
           have aN : 0 ≤ ((M) : Int) := of_decide_eq_true (Z4)
           have aO : (M) < (l0_3.length : Int) := of_decide_eq_true (Z4)
           obtain ⟨a6, a7, aG, aH, aI⟩ := at_T109 aP.out (M) aN aO
           have aQ := aI
           have aR := aH
           have aS := aG
           obtain rfl : Y = a6 := (by injection a7)
           replace aG := cB HB.out aG
           replace aH := cB HB.out aH
           replace aI := cB HB.out aI
           replace aN := eq_true aN
           replace aO := eq_true aO
           refine start_ (n := 35) (S := fun w' => Qc3 s (.int .i64 ((rd_T109 l0_3 x3_2).f0)) (.int .i64 ((rd_T109 l0_3 x3_2).f1)) (.string ((rd_T109 l0_3 x3_2).f2)) (Qc5 aF (.string J) (.int .i64 O) (.int .i64 I) (.slice (some Y) l0_3.length aA) (.slice aE y.length Z) (qa3 (Y.add (((M)).toNat * 3)) (.int .i64 ((rd_T109 l0_3 (M)).f0)) (.int .i64 ((rd_T109 l0_3 (M)).f1)) (.string ((rd_T109 l0_3 (M)).f2)) w') w') w') (ds := []) #[false, false, false, false, false, false, false, false, false, false, false, false, false, false, false, false, false, false, false, false, false, false, false, false, false, false, false, false, false, false, false, false, false, false, false] (Z18) rfl rfl (bk3 BK139.out (bk5 BK134.out (⟨(cB HB.out aS :), ⟨(cB HB.out aR :), (cB HB.out aQ :)⟩⟩))) (fun hHeld => ?_); refine with_tabW spec_BoxOK.tab7 spec_BoxOK.bits7 (fun HT_ HW_ => ?_)
           generalize dS.drew = eO at BK134 BK139 HB aG aH aI hHeld ⊢
           refine pA 0 55 ?_
           refine pA 2 57 ?_
           refine tA 1 56 ?_
           refine tA 3 58 ?_
           refine pA 4 59 ?_
           refine oA 5 60 (fun K hK => ?_)
           refine goes_ func50 (Z18) rfl #[.int .i64 ((rd_T109 l0_3 x3_2).f0), .int .i64 1, .int .i64 (wrap64 (I - 1))] (Z117) rfl rfl (Z2) ?_
           with_reducible refine (spec_l01In.calls ((rd_T109 l0_3 x3_2).f0) 1 (wrap64 (I - 1)) true _ aZ.out).mono ?_
           rintro e w' ⟨rfl, ⟨nd, rfl⟩⟩
           refine ⟨_, rfl, ?_⟩
           refine hK.out _ _ (bk3 BK139.out (bk5 BK134.out (⟨(cB HB.out aS :), ⟨(cB HB.out aR :), (cB HB.out aQ :)⟩⟩))) (fun hHeld => ?_)
           clear hK K
           refine nB 60 ?_
           refine pA 6 61 ?_
           refine pA 7 62 ?_
           refine pA 8 63 ?_
           refine pA 9 64 ?_
           refine pA 10 65 ?_
           refine pA 11 66 ?_
           refine pA 13 68 ?_
           refine pA 14 69 ?_
           refine pA 18 73 ?_
           refine tA 12 67 ?_
           refine pA 15 70 ?_
           refine pA 16 71 ?_
           refine tA 17 72 ?_
           refine tA 19 74 ?_
           refine pA 20 75 ?_
           refine pA 21 76 ?_
           refine pA 22 77 ?_
           refine pA 23 78 ?_
           refine pA 24 79 ?_
           refine tA 25 80 ?_
           refine oA 26 81 (fun K hK => ?_)
           refine goes_ func50 (Z18) rfl #[.int .i64 ((rd_T109 l0_3 x3_2).f1), .int .i64 0, .int .i64 31] (Z117) rfl rfl (Z2) ?_
           with_reducible refine (spec_l01In.calls ((rd_T109 l0_3 x3_2).f1) 0 31 false _ b9.out).mono ?_
           rintro e w' ⟨rfl, ⟨nd, rfl⟩⟩
           refine ⟨_, rfl, ?_⟩
           refine hK.out _ _ (bk3 BK139.out (bk5 BK134.out (⟨(cB HB.out aS :), ⟨(cB HB.out aR :), (cB HB.out aQ :)⟩⟩))) (fun hHeld => ?_)
           clear hK K
           refine nB 81 ?_
           refine pA 27 82 ?_
           refine pA 28 83 ?_
           refine pA 29 84 ?_
           refine pU 30 85 ?_
           refine pU 31 86 ?_
           refine pU 32 87 ?_
           refine pU 33 88 ?_
           refine pA 34 89 ?_
           refine done_ (done_of HT_.out (Z18)) ?_
           try go_wp2
           go_ret
           exact ⟨Z126, Z28⟩
        ·rw [if_neg bD] at H
         have dL : decide (0 < x3_2) = false := decide_eq_false bD
         clear bD
         obtain ⟨dT, cA, H⟩ := bindA H
         try dsimp only at H
         by_cases bW : dT = true
         ·subst bW
          replace H := ifT H
          by_cases bG : (((rd_T109 l0_3 x3_2).f2).size : Int) > 4000
          ·rw [if_pos bG] at H
           have dU : decide (4000 < (((rd_T109 l0_3 x3_2).f2).size : Int)) = true := decide_eq_true bG
           have dV : decide (4000 < ((rd_T109 l0_3 x3_2).f2).size) = true := decide_eq_true (Z42)
           clear bG
           obtain rfl := oI H
           refine bD5 BK134 ?_
           intros
           have U : 0 ≤ (x3_2 : Int) := of_decide_eq_true (Z4)
           have X : x3_2 < (l0_3.length : Int) := of_decide_eq_true (Z4)
           obtain ⟨Y, aK, aB, aC, aD⟩ := at_T109 aP.out x3_2 U X
           cases aK
           replace aB := cB HB.out aB
           replace aC := cB HB.out aC
           replace aD := cB HB.out aD
           replace U := eq_true U
           replace X := eq_true X
           try go_wp2_with (first | ((with_reducible refine gD 4 ?_); (try (refine gate_guard (Z117) ?_; dsimp only)); refine bxF w 4 #[.int .i64 0, .int .i64 0, .string (⟨#[]⟩ : ByteArray)] 109 (Z8) ?_; intro s hg bX BK139 a5 GE139 HB hb; have NB134_139 := aM ((nL BK134 hg (Z21))); have aL := aM ((nG BK134 hg (Z21))); replace BK134 := aM (kB BK134 (Z21) hb); clear hb hg; have eP := aL.out; have eQ := NB134_139.out; refine bD3 BK139 ?_; intros))
           have n0_ : Aside0 ((((bX.setCell ⟨s, 0, none⟩ (.int .i64 ((rd_T109 l0_3 x3_2).f0))).setCell ⟨s, 1, none⟩ (.int .i64 ((rd_T109 l0_3 x3_2).f1))).setCell ⟨s, 2, none⟩ (.string ((rd_T109 l0_3 x3_2).f2))).heap[aF]? = some (.cells #[.string J, .int .i64 O, .int .i64 I, .slice (some Y) l0_3.length aA, .slice aE y.length Z] 98 (0, 0))) := ⟨Z20⟩
           have n1_ : Aside0 ((((bX.setCell ⟨s, 0, none⟩ (.int .i64 ((rd_T109 l0_3 x3_2).f0))).setCell ⟨s, 1, none⟩ (.int .i64 ((rd_T109 l0_3 x3_2).f1))).setCell ⟨s, 2, none⟩ (.string ((rd_T109 l0_3 x3_2).f2))).heap[s]? = some (.cells #[.int .i64 ((rd_T109 l0_3 x3_2).f0), .int .i64 ((rd_T109 l0_3 x3_2).f1), .string ((rd_T109 l0_3 x3_2).f2)] 109 (0, 0))) := ⟨Z10⟩
           have n2_ : Aside0 (Below w.heap.size w (((bX.setCell ⟨s, 0, none⟩ (.int .i64 ((rd_T109 l0_3 x3_2).f0))).setCell ⟨s, 1, none⟩ (.int .i64 ((rd_T109 l0_3 x3_2).f1))).setCell ⟨s, 2, none⟩ (.string ((rd_T109 l0_3 x3_2).f2)))) := ⟨Z28⟩
           (try clear BK134); (try clear BK139); (try clear HB)
           generalize (((bX.setCell ⟨s, 0, none⟩ (.int .i64 ((rd_T109 l0_3 x3_2).f0))).setCell ⟨s, 1, none⟩ (.int .i64 ((rd_T109 l0_3 x3_2).f1))).setCell ⟨s, 2, none⟩ (.string ((rd_T109 l0_3 x3_2).f2))) = dW at n0_ n1_ n2_ ⊢
           have BK134 := n0_
           have BK139 := n1_
           have HB := n2_
           clear n0_ n1_ n2_
           replace BK134 := aM (blk_drew BK134.out)
           replace BK139 := aM (blk_drew BK139.out)
           replace HB := aM (below_drew1 HB.out)
           refine start_ (n := 35) (S := fun w' => Qc3 s (.int .i64 ((rd_T109 l0_3 x3_2).f0)) (.int .i64 ((rd_T109 l0_3 x3_2).f1)) (.string ((rd_T109 l0_3 x3_2).f2)) (qc5 aF (.string J) (.int .i64 O) (.int .i64 I) (.slice (some Y) l0_3.length aA) (.slice aE y.length Z) w') w') (ds := []) #[false, false, false, false, false, false, false, false, false, false, false, false, false, false, false, false, false, false, false, false, false, false, false, false, false, false, false, false, false, false, false, false, false, false, false] (Z18) rfl rfl (bk3 BK139.out (bc5 BK134.out)) (fun hHeld => ?_); refine with_tabW spec_BoxOK.tab7 spec_BoxOK.bits7 (fun HT_ HW_ => ?_)
           generalize dW.drew = eR at BK134 BK139 HB hHeld ⊢
           refine pA 0 55 ?_
           refine pA 2 57 ?_
           refine tA 1 56 ?_
           refine tA 3 58 ?_
           refine pA 4 59 ?_
           refine oA 5 60 (fun K hK => ?_)
           refine goes_ func50 (Z18) rfl #[.int .i64 ((rd_T109 l0_3 x3_2).f0), .int .i64 1, .int .i64 (wrap64 (I - 1))] (Z117) rfl rfl (Z2) ?_
           with_reducible refine (spec_l01In.calls ((rd_T109 l0_3 x3_2).f0) 1 (wrap64 (I - 1)) true _ aZ.out).mono ?_
           rintro e w' ⟨rfl, ⟨nd, rfl⟩⟩
           refine ⟨_, rfl, ?_⟩
           refine hK.out _ _ (bk3 BK139.out (bc5 BK134.out)) (fun hHeld => ?_)
           clear hK K
           refine nB 60 ?_
           refine pA 6 61 ?_
           refine pA 7 62 ?_
           refine pA 8 63 ?_
           refine pA 9 64 ?_
           refine pA 10 65 ?_
           refine pU 11 66 ?_
           refine pU 12 67 ?_
           refine pU 13 68 ?_
           refine pU 14 69 ?_
           refine pU 15 70 ?_
           refine pU 16 71 ?_
           refine pU 17 72 ?_
           refine pU 18 73 ?_
           refine pU 19 74 ?_
           refine pU 20 75 ?_
           refine pA 21 76 ?_
           refine pA 22 77 ?_
           refine pA 23 78 ?_
           refine pA 24 79 ?_
           refine tA 25 80 ?_
           refine oA 26 81 (fun K hK => ?_)
           refine goes_ func50 (Z18) rfl #[.int .i64 ((rd_T109 l0_3 x3_2).f1), .int .i64 0, .int .i64 31] (Z117) rfl rfl (Z2) ?_
           with_reducible refine (spec_l01In.calls ((rd_T109 l0_3 x3_2).f1) 0 31 true _ cA.out).mono ?_
           rintro e w' ⟨rfl, ⟨nd, rfl⟩⟩
           refine ⟨_, rfl, ?_⟩
           refine hK.out _ _ (bk3 BK139.out (bc5 BK134.out)) (fun hHeld => ?_)
           clear hK K
           refine nB 81 ?_
           refine pA 27 82 ?_
           refine pA 28 83 ?_
           refine pA 29 84 ?_
           refine pA 30 85 ?_
           refine tA 31 86 ?_
           refine pA 32 87 ?_
           refine pA 33 88 ?_
           refine pA 34 89 ?_
           refine done_ (done_of HT_.out (Z18)) ?_
           try go_wp2
           go_ret
           exact ⟨Z1, Z28⟩
          ·rw [if_neg bG] at H
           have dU : decide (4000 < (((rd_T109 l0_3 x3_2).f2).size : Int)) = false := decide_eq_false bG
           have dV : decide (4000 < ((rd_T109 l0_3 x3_2).f2).size) = false := decide_eq_false (Z42)
           clear bG
           have H' := aM H
           clear H
           refine bD5 BK134 ?_
           intros
           have U : 0 ≤ (x3_2 : Int) := of_decide_eq_true (Z4)
           have X : x3_2 < (l0_3.length : Int) := of_decide_eq_true (Z4)
           obtain ⟨Y, aK, aB, aC, aD⟩ := at_T109 aP.out x3_2 U X
           cases aK
           replace aB := cB HB.out aB
           replace aC := cB HB.out aC
           replace aD := cB HB.out aD
           replace U := eq_true U
           replace X := eq_true X
           try go_wp2_with (first | ((with_reducible refine gD 4 ?_); (try (refine gate_guard (Z117) ?_; dsimp only)); refine bxF w 4 #[.int .i64 0, .int .i64 0, .string (⟨#[]⟩ : ByteArray)] 109 (Z8) ?_; intro s hg bY BK139 a5 GE139 HB hb; have NB134_139 := aM ((nL BK134 hg (Z21))); have aL := aM ((nG BK134 hg (Z21))); replace BK134 := aM (kB BK134 (Z21) hb); clear hb hg; have eS := aL.out; have eT := NB134_139.out; refine bD3 BK139 ?_; intros))
           have n0_ : Aside0 ((((bY.setCell ⟨s, 0, none⟩ (.int .i64 ((rd_T109 l0_3 x3_2).f0))).setCell ⟨s, 1, none⟩ (.int .i64 ((rd_T109 l0_3 x3_2).f1))).setCell ⟨s, 2, none⟩ (.string ((rd_T109 l0_3 x3_2).f2))).heap[aF]? = some (.cells #[.string J, .int .i64 O, .int .i64 I, .slice (some Y) l0_3.length aA, .slice aE y.length Z] 98 (0, 0))) := ⟨Z20⟩
           have n1_ : Aside0 ((((bY.setCell ⟨s, 0, none⟩ (.int .i64 ((rd_T109 l0_3 x3_2).f0))).setCell ⟨s, 1, none⟩ (.int .i64 ((rd_T109 l0_3 x3_2).f1))).setCell ⟨s, 2, none⟩ (.string ((rd_T109 l0_3 x3_2).f2))).heap[s]? = some (.cells #[.int .i64 ((rd_T109 l0_3 x3_2).f0), .int .i64 ((rd_T109 l0_3 x3_2).f1), .string ((rd_T109 l0_3 x3_2).f2)] 109 (0, 0))) := ⟨Z10⟩
           have n2_ : Aside0 (Below w.heap.size w (((bY.setCell ⟨s, 0, none⟩ (.int .i64 ((rd_T109 l0_3 x3_2).f0))).setCell ⟨s, 1, none⟩ (.int .i64 ((rd_T109 l0_3 x3_2).f1))).setCell ⟨s, 2, none⟩ (.string ((rd_T109 l0_3 x3_2).f2)))) := ⟨Z28⟩
           (try clear BK134); (try clear BK139); (try clear HB)
           generalize (((bY.setCell ⟨s, 0, none⟩ (.int .i64 ((rd_T109 l0_3 x3_2).f0))).setCell ⟨s, 1, none⟩ (.int .i64 ((rd_T109 l0_3 x3_2).f1))).setCell ⟨s, 2, none⟩ (.string ((rd_T109 l0_3 x3_2).f2))) = dX at n0_ n1_ n2_ ⊢
           have BK134 := n0_
           have BK139 := n1_
           have HB := n2_
           clear n0_ n1_ n2_
           replace BK134 := aM (blk_drew BK134.out)
           replace BK139 := aM (blk_drew BK139.out)
           replace HB := aM (below_drew1 HB.out)
           refine start_ (n := 35) (S := fun w' => Qc3 s (.int .i64 ((rd_T109 l0_3 x3_2).f0)) (.int .i64 ((rd_T109 l0_3 x3_2).f1)) (.string ((rd_T109 l0_3 x3_2).f2)) (qc5 aF (.string J) (.int .i64 O) (.int .i64 I) (.slice (some Y) l0_3.length aA) (.slice aE y.length Z) w') w') (ds := []) #[false, false, false, false, false, false, false, false, false, false, false, false, false, false, false, false, false, false, false, false, false, false, false, false, false, false, false, false, false, false, false, false, false, false, false] (Z18) rfl rfl (bk3 BK139.out (bc5 BK134.out)) (fun hHeld => ?_); refine with_tabW spec_BoxOK.tab7 spec_BoxOK.bits7 (fun HT_ HW_ => ?_)
           generalize dX.drew = eU at BK134 BK139 HB hHeld ⊢
           refine pA 0 55 ?_
           refine pA 2 57 ?_
           refine tA 1 56 ?_
           refine tA 3 58 ?_
           refine pA 4 59 ?_
           refine oA 5 60 (fun K hK => ?_)
           refine goes_ func50 (Z18) rfl #[.int .i64 ((rd_T109 l0_3 x3_2).f0), .int .i64 1, .int .i64 (wrap64 (I - 1))] (Z117) rfl rfl (Z2) ?_
           with_reducible refine (spec_l01In.calls ((rd_T109 l0_3 x3_2).f0) 1 (wrap64 (I - 1)) true _ aZ.out).mono ?_
           rintro e w' ⟨rfl, ⟨nd, rfl⟩⟩
           refine ⟨_, rfl, ?_⟩
           refine hK.out _ _ (bk3 BK139.out (bc5 BK134.out)) (fun hHeld => ?_)
           clear hK K
           refine nB 60 ?_
           refine pA 6 61 ?_
           refine pA 7 62 ?_
           refine pA 8 63 ?_
           refine pA 9 64 ?_
           refine pA 10 65 ?_
           refine pU 11 66 ?_
           refine pU 12 67 ?_
           refine pU 13 68 ?_
           refine pU 14 69 ?_
           refine pU 15 70 ?_
           refine pU 16 71 ?_
           refine pU 17 72 ?_
           refine pU 18 73 ?_
           refine pU 19 74 ?_
           refine pU 20 75 ?_
           refine pA 21 76 ?_
           refine pA 22 77 ?_
           refine pA 23 78 ?_
           refine pA 24 79 ?_
           refine tA 25 80 ?_
           refine oA 26 81 (fun K hK => ?_)
           refine goes_ func50 (Z18) rfl #[.int .i64 ((rd_T109 l0_3 x3_2).f1), .int .i64 0, .int .i64 31] (Z117) rfl rfl (Z2) ?_
           with_reducible refine (spec_l01In.calls ((rd_T109 l0_3 x3_2).f1) 0 31 true _ cA.out).mono ?_
           rintro e w' ⟨rfl, ⟨nd, rfl⟩⟩
           refine ⟨_, rfl, ?_⟩
           refine hK.out _ _ (bk3 BK139.out (bc5 BK134.out)) (fun hHeld => ?_)
           clear hK K
           refine nB 81 ?_
           refine pA 27 82 ?_
           refine pA 28 83 ?_
           refine pA 29 84 ?_
           refine pA 30 85 ?_
           refine tA 31 86 ?_
           refine pA 32 87 ?_
           refine pA 33 88 ?_
           refine pA 34 89 ?_
           refine done_ (done_of HT_.out (Z18)) ?_
           try go_wp2
           go_roundg k2
           case measure => have := HJ1.out; have := HK2.out; omega
           case rel => exact ⟨(wrap64 (x3_2 + 1)), (Z3), H', ⟨Z183⟩, ⟨Z21⟩, ⟨Z28⟩⟩
         ·replace bW := Bool.eq_false_iff.mpr bW
          subst bW
          replace H := ifF H
          obtain rfl := oI H
          refine bD5 BK134 ?_
          intros
          have U : 0 ≤ (x3_2 : Int) := of_decide_eq_true (Z4)
          have X : x3_2 < (l0_3.length : Int) := of_decide_eq_true (Z4)
          obtain ⟨Y, aK, aB, aC, aD⟩ := at_T109 aP.out x3_2 U X
          cases aK
          replace aB := cB HB.out aB
          replace aC := cB HB.out aC
          replace aD := cB HB.out aD
          replace U := eq_true U
          replace X := eq_true X
          try go_wp2_with (first | ((with_reducible refine gD 4 ?_); (try (refine gate_guard (Z117) ?_; dsimp only)); refine bxF w 4 #[.int .i64 0, .int .i64 0, .string (⟨#[]⟩ : ByteArray)] 109 (Z8) ?_; intro s hg bZ BK139 a5 GE139 HB hb; have NB134_139 := aM ((nL BK134 hg (Z21))); have aL := aM ((nG BK134 hg (Z21))); replace BK134 := aM (kB BK134 (Z21) hb); clear hb hg; have eV := aL.out; have eW := NB134_139.out; refine bD3 BK139 ?_; intros))
          have n0_ : Aside0 ((((bZ.setCell ⟨s, 0, none⟩ (.int .i64 ((rd_T109 l0_3 x3_2).f0))).setCell ⟨s, 1, none⟩ (.int .i64 ((rd_T109 l0_3 x3_2).f1))).setCell ⟨s, 2, none⟩ (.string ((rd_T109 l0_3 x3_2).f2))).heap[aF]? = some (.cells #[.string J, .int .i64 O, .int .i64 I, .slice (some Y) l0_3.length aA, .slice aE y.length Z] 98 (0, 0))) := ⟨Z20⟩
          have n1_ : Aside0 ((((bZ.setCell ⟨s, 0, none⟩ (.int .i64 ((rd_T109 l0_3 x3_2).f0))).setCell ⟨s, 1, none⟩ (.int .i64 ((rd_T109 l0_3 x3_2).f1))).setCell ⟨s, 2, none⟩ (.string ((rd_T109 l0_3 x3_2).f2))).heap[s]? = some (.cells #[.int .i64 ((rd_T109 l0_3 x3_2).f0), .int .i64 ((rd_T109 l0_3 x3_2).f1), .string ((rd_T109 l0_3 x3_2).f2)] 109 (0, 0))) := ⟨Z10⟩
          have n2_ : Aside0 (Below w.heap.size w (((bZ.setCell ⟨s, 0, none⟩ (.int .i64 ((rd_T109 l0_3 x3_2).f0))).setCell ⟨s, 1, none⟩ (.int .i64 ((rd_T109 l0_3 x3_2).f1))).setCell ⟨s, 2, none⟩ (.string ((rd_T109 l0_3 x3_2).f2)))) := ⟨Z28⟩
          (try clear BK134); (try clear BK139); (try clear HB)
          generalize (((bZ.setCell ⟨s, 0, none⟩ (.int .i64 ((rd_T109 l0_3 x3_2).f0))).setCell ⟨s, 1, none⟩ (.int .i64 ((rd_T109 l0_3 x3_2).f1))).setCell ⟨s, 2, none⟩ (.string ((rd_T109 l0_3 x3_2).f2))) = dY at n0_ n1_ n2_ ⊢
          have BK134 := n0_
          have BK139 := n1_
          have HB := n2_
          clear n0_ n1_ n2_
          replace BK134 := aM (blk_drew BK134.out)
          replace BK139 := aM (blk_drew BK139.out)
          replace HB := aM (below_drew1 HB.out)
          refine start_ (n := 35) (S := fun w' => Qc3 s (.int .i64 ((rd_T109 l0_3 x3_2).f0)) (.int .i64 ((rd_T109 l0_3 x3_2).f1)) (.string ((rd_T109 l0_3 x3_2).f2)) (qc5 aF (.string J) (.int .i64 O) (.int .i64 I) (.slice (some Y) l0_3.length aA) (.slice aE y.length Z) w') w') (ds := []) #[false, false, false, false, false, false, false, false, false, false, false, false, false, false, false, false, false, false, false, false, false, false, false, false, false, false, false, false, false, false, false, false, false, false, false] (Z18) rfl rfl (bk3 BK139.out (bc5 BK134.out)) (fun hHeld => ?_); refine with_tabW spec_BoxOK.tab7 spec_BoxOK.bits7 (fun HT_ HW_ => ?_)
          generalize dY.drew = eX at BK134 BK139 HB hHeld ⊢
          refine pA 0 55 ?_
          refine pA 2 57 ?_
          refine tA 1 56 ?_
          refine tA 3 58 ?_
          refine pA 4 59 ?_
          refine oA 5 60 (fun K hK => ?_)
          refine goes_ func50 (Z18) rfl #[.int .i64 ((rd_T109 l0_3 x3_2).f0), .int .i64 1, .int .i64 (wrap64 (I - 1))] (Z117) rfl rfl (Z2) ?_
          with_reducible refine (spec_l01In.calls ((rd_T109 l0_3 x3_2).f0) 1 (wrap64 (I - 1)) true _ aZ.out).mono ?_
          rintro e w' ⟨rfl, ⟨nd, rfl⟩⟩
          refine ⟨_, rfl, ?_⟩
          refine hK.out _ _ (bk3 BK139.out (bc5 BK134.out)) (fun hHeld => ?_)
          clear hK K
          refine nB 60 ?_
          refine pA 6 61 ?_
          refine pA 7 62 ?_
          refine pA 8 63 ?_
          refine pA 9 64 ?_
          refine pA 10 65 ?_
          refine pU 11 66 ?_
          refine pU 12 67 ?_
          refine pU 13 68 ?_
          refine pU 14 69 ?_
          refine pU 15 70 ?_
          refine pU 16 71 ?_
          refine pU 17 72 ?_
          refine pU 18 73 ?_
          refine pU 19 74 ?_
          refine pU 20 75 ?_
          refine pA 21 76 ?_
          refine pA 22 77 ?_
          refine pA 23 78 ?_
          refine pA 24 79 ?_
          refine tA 25 80 ?_
          refine oA 26 81 (fun K hK => ?_)
          refine goes_ func50 (Z18) rfl #[.int .i64 ((rd_T109 l0_3 x3_2).f1), .int .i64 0, .int .i64 31] (Z117) rfl rfl (Z2) ?_
          with_reducible refine (spec_l01In.calls ((rd_T109 l0_3 x3_2).f1) 0 31 false _ cA.out).mono ?_
          rintro e w' ⟨rfl, ⟨nd, rfl⟩⟩
          refine ⟨_, rfl, ?_⟩
          refine hK.out _ _ (bk3 BK139.out (bc5 BK134.out)) (fun hHeld => ?_)
          clear hK K
          refine nB 81 ?_
          refine pA 27 82 ?_
          refine pA 28 83 ?_
          refine pA 29 84 ?_
          refine pU 30 85 ?_
          refine pU 31 86 ?_
          refine pU 32 87 ?_
          refine pU 33 88 ?_
          refine pA 34 89 ?_
          refine done_ (done_of HT_.out (Z18)) ?_
          try go_wp2
          go_ret
          exact ⟨Z1, Z28⟩
       ·replace bQ := Bool.eq_false_iff.mpr bQ
        subst bQ
        replace H := ifF H
        obtain rfl := oI H
        refine bD5 BK134 ?_
        intros
        have U : 0 ≤ (x3_2 : Int) := of_decide_eq_true (Z4)
        have X : x3_2 < (l0_3.length : Int) := of_decide_eq_true (Z4)
        obtain ⟨Y, aK, aB, aC, aD⟩ := at_T109 aP.out x3_2 U X
        cases aK
        replace aB := cB HB.out aB
        replace aC := cB HB.out aC
        replace aD := cB HB.out aD
        replace U := eq_true U
        replace X := eq_true X
        try go_wp2_with (first | ((with_reducible refine gD 4 ?_); (try (refine gate_guard (Z117) ?_; dsimp only)); refine bxF w 4 #[.int .i64 0, .int .i64 0, .string (⟨#[]⟩ : ByteArray)] 109 (Z8) ?_; intro s hg b0 BK139 a5 GE139 HB hb; have NB134_139 := aM ((nL BK134 hg (Z21))); have aL := aM ((nG BK134 hg (Z21))); replace BK134 := aM (kB BK134 (Z21) hb); clear hb hg; have eY := aL.out; have eZ := NB134_139.out; refine bD3 BK139 ?_; intros))
        have n0_ : Aside0 ((((b0.setCell ⟨s, 0, none⟩ (.int .i64 ((rd_T109 l0_3 x3_2).f0))).setCell ⟨s, 1, none⟩ (.int .i64 ((rd_T109 l0_3 x3_2).f1))).setCell ⟨s, 2, none⟩ (.string ((rd_T109 l0_3 x3_2).f2))).heap[aF]? = some (.cells #[.string J, .int .i64 O, .int .i64 I, .slice (some Y) l0_3.length aA, .slice aE y.length Z] 98 (0, 0))) := ⟨Z20⟩
        have n1_ : Aside0 ((((b0.setCell ⟨s, 0, none⟩ (.int .i64 ((rd_T109 l0_3 x3_2).f0))).setCell ⟨s, 1, none⟩ (.int .i64 ((rd_T109 l0_3 x3_2).f1))).setCell ⟨s, 2, none⟩ (.string ((rd_T109 l0_3 x3_2).f2))).heap[s]? = some (.cells #[.int .i64 ((rd_T109 l0_3 x3_2).f0), .int .i64 ((rd_T109 l0_3 x3_2).f1), .string ((rd_T109 l0_3 x3_2).f2)] 109 (0, 0))) := ⟨Z10⟩
        have n2_ : Aside0 (Below w.heap.size w (((b0.setCell ⟨s, 0, none⟩ (.int .i64 ((rd_T109 l0_3 x3_2).f0))).setCell ⟨s, 1, none⟩ (.int .i64 ((rd_T109 l0_3 x3_2).f1))).setCell ⟨s, 2, none⟩ (.string ((rd_T109 l0_3 x3_2).f2)))) := ⟨Z28⟩
        (try clear BK134); (try clear BK139); (try clear HB)
        generalize (((b0.setCell ⟨s, 0, none⟩ (.int .i64 ((rd_T109 l0_3 x3_2).f0))).setCell ⟨s, 1, none⟩ (.int .i64 ((rd_T109 l0_3 x3_2).f1))).setCell ⟨s, 2, none⟩ (.string ((rd_T109 l0_3 x3_2).f2))) = dZ at n0_ n1_ n2_ ⊢
        have BK134 := n0_
        have BK139 := n1_
        have HB := n2_
        clear n0_ n1_ n2_
        replace BK134 := aM (blk_drew BK134.out)
        replace BK139 := aM (blk_drew BK139.out)
        replace HB := aM (below_drew1 HB.out)
        refine start_ (n := 35) (S := fun w' => Qc3 s (.int .i64 ((rd_T109 l0_3 x3_2).f0)) (.int .i64 ((rd_T109 l0_3 x3_2).f1)) (.string ((rd_T109 l0_3 x3_2).f2)) (qc5 aF (.string J) (.int .i64 O) (.int .i64 I) (.slice (some Y) l0_3.length aA) (.slice aE y.length Z) w') w') (ds := []) #[false, false, false, false, false, false, false, false, false, false, false, false, false, false, false, false, false, false, false, false, false, false, false, false, false, false, false, false, false, false, false, false, false, false, false] (Z18) rfl rfl (bk3 BK139.out (bc5 BK134.out)) (fun hHeld => ?_); refine with_tabW spec_BoxOK.tab7 spec_BoxOK.bits7 (fun HT_ HW_ => ?_)
        generalize dZ.drew = e0 at BK134 BK139 HB hHeld ⊢
        refine pA 0 55 ?_
        refine pA 2 57 ?_
        refine tA 1 56 ?_
        refine tA 3 58 ?_
        refine pA 4 59 ?_
        refine oA 5 60 (fun K hK => ?_)
        refine goes_ func50 (Z18) rfl #[.int .i64 ((rd_T109 l0_3 x3_2).f0), .int .i64 1, .int .i64 (wrap64 (I - 1))] (Z117) rfl rfl (Z2) ?_
        with_reducible refine (spec_l01In.calls ((rd_T109 l0_3 x3_2).f0) 1 (wrap64 (I - 1)) false _ aZ.out).mono ?_
        rintro e w' ⟨rfl, ⟨nd, rfl⟩⟩
        refine ⟨_, rfl, ?_⟩
        refine hK.out _ _ (bk3 BK139.out (bc5 BK134.out)) (fun hHeld => ?_)
        clear hK K
        refine nB 60 ?_
        refine pA 6 61 ?_
        refine pA 7 62 ?_
        refine pU 8 63 ?_
        refine pU 9 64 ?_
        refine pU 10 65 ?_
        refine pU 11 66 ?_
        refine pU 12 67 ?_
        refine pU 13 68 ?_
        refine pU 14 69 ?_
        refine pU 15 70 ?_
        refine pU 16 71 ?_
        refine pU 17 72 ?_
        refine pU 18 73 ?_
        refine pU 19 74 ?_
        refine pU 20 75 ?_
        refine pU 21 76 ?_
        refine pA 22 77 ?_
        refine pA 23 78 ?_
        refine pU 24 79 ?_
        refine pU 25 80 ?_
        refine pU 26 81 ?_
        refine pU 27 82 ?_
        refine pA 28 83 ?_
        refine pA 29 84 ?_
        refine pU 30 85 ?_
        refine pU 31 86 ?_
        refine pU 32 87 ?_
        refine pU 33 88 ?_
        refine pA 34 89 ?_
        refine done_ (done_of HT_.out (Z18)) ?_
        try go_wp2
        go_ret
        exact ⟨Z1, Z28⟩
      ·rw [if_neg a3] at H
       have cN := decide_eq_false a3
       clear a3
       have H' := aM H
       clear H
       refine bD5 BK134 ?_
       intros
       go_wp2
       go_loopg [5] k2 (fun kq v5 w' => ∃ (D : Int), v5 = .int .i64 D ∧ Aside0 (spec_BoxOK.l1 kq D J O I l0_3 y = some r) ∧ Aside0 (kq ≤ k2) ∧ Aside0 (w'.heap[aF]? = some (.cells #[.string J, .int .i64 O, .int .i64 I, (.slice aX l0_3.length aA), (.slice aE y.length Z)] 98 (0, 0))) ∧ Aside0 (Below w.heap.size w w'))
       case atStart => exact ⟨(0), (Z3), H', ⟨Nat.le_refl _⟩, ⟨Z21⟩, ⟨Z8⟩⟩
       case round =>
        clear H'
        (try clear a3); (try clear cN)
        obtain ⟨D, rfl, HA, cR, BK134, HB⟩ := hrel
        cases gk with
        | zero => exact absurd HA.out (by simp [spec_BoxOK.l1])
        | succ k3 =>
         have H := HA.out
         clear HA
         simp only [spec_BoxOK.l1] at H
         by_cases bH : D < (y.length : Int)
         ·rw [if_pos bH] at H
          have d1 := decide_eq_true bH
          clear bH
          obtain ⟨cS, H⟩ := ifS H
          have e1 := decide_eq_true cS
          clear cS
          obtain ⟨d2, cD, H⟩ := bindA H
          try dsimp only at H
          by_cases b1 : d2 = true
          ·subst b1
           replace H := ifT H
           have e2 := eq_true (of_decide_eq_true (Z4) : 0 ≤ D)
           obtain ⟨cG, H⟩ := ifS H
           have e3 := eq_true cG
           have e4 : decide (D ≤ (y.length : Int)) = true := decide_eq_true cG
           clear cG
           obtain ⟨d3, cT, H⟩ := bindA H
           try dsimp only at H
           by_cases b2 : d3 = true
           ·subst b2
            replace H := ifT H
            obtain rfl := oI H
            refine bD5 BK134 ?_
            intros
            try go_wp2
            replace BK134 := aM (blk_drew BK134.out)
            replace HB := aM (below_drew1 HB.out)
            have aU : 0 ≤ (D : Int) := of_decide_eq_true (Z4)
            have aV : D < (y.length : Int) := of_decide_eq_true (Z4)
            obtain ⟨aJ, bM, aT⟩ := Kd.at_string aY.out D aU aV
            have aW := aT
            cases bM
            replace aT := cB HB.out aT
            replace aU := eq_true aU
            replace aV := eq_true aV
            have a8 : 0 ≤ (D : Int) := of_decide_eq_true (Z4)
            have a9 : D < (y.length : Int) := of_decide_eq_true (Z4)
            obtain ⟨cH, cI, a2⟩ := Kd.at_string aY.out D a8 a9
            have bA := a2
            obtain rfl : aJ = cH := (by injection cI)
            replace a2 := cB HB.out a2
            replace a8 := eq_true a8
            replace a9 := eq_true a9
            refine start_ (n := 20) (S := fun w' => Qc5 aF (.string J) (.int .i64 O) (.int .i64 I) (.slice aX l0_3.length aA) (.slice (some aJ) y.length Z) (w'.cell? (aJ.add (D).toNat) = some (.string (rdOf ByteArray.empty y D)) ∧ w'.cell? (aJ.add (D).toNat) = some (.string (rdOf ByteArray.empty y D))) w') (ds := []) #[false, false, false, false, false, false, false, false, false, false, false, false, false, false, false, false, false, false, false, false] (Z18) rfl rfl (bk5 BK134.out (⟨(cB HB.out aW :), (cB HB.out bA :)⟩)) (fun hHeld => ?_); refine with_tabW spec_BoxOK.tab12 spec_BoxOK.bits12 (fun HT_ HW_ => ?_)
            generalize wr.drew = e5 at BK134 HB aT a2 hHeld ⊢
            refine pA 0 97 ?_
            refine pA 2 99 ?_
            refine tA 1 98 ?_
            refine pA 3 100 ?_
            refine tA 4 101 ?_
            refine pA 5 102 ?_
            refine oA 6 103 (fun K hK => ?_)
            refine goes_ func50 (Z18) rfl #[.int .i64 ((rdOf ByteArray.empty y D).size : Int), .int .i64 1, .int .i64 200] (Z117) rfl rfl (Z2) ?_
            with_reducible refine (spec_l01In.calls ((rdOf ByteArray.empty y D).size : Int) 1 200 true _ cD.out).mono ?_
            rintro e w' ⟨rfl, ⟨nd, rfl⟩⟩
            refine ⟨_, rfl, ?_⟩
            obtain ⟨i093, cU, _, cV, _⟩ := info_parts info9
            obtain ⟨e6, cX, cY⟩ := print_take_of (P := prog) Value.string (⟨#[]⟩ : ByteArray) 69 9 .i64 underlying69 cU cV (some aJ) Z y D (of_decide_eq_true (Z4)) (of_decide_eq_true (Z4)) bN.out
            have cJ := aM (Kd.C_of_reads (h1 := fun _ => rfl) (cX _ (Kd.reads_of_C aY.out)))
            have cK := aM cY
            clear cX cY cU cV
            refine hK.out _ _ (bk5 BK134.out (⟨(cB HB.out aW :), (cB HB.out bA :)⟩)) (fun hHeld => ?_)
            clear hK K
            refine nB 103 ?_
            refine pA 7 104 ?_
            refine pA 8 105 ?_
            refine pA 9 106 ?_
            refine pA 11 108 ?_
            refine pA 13 110 ?_
            refine pA 15 112 ?_
            refine tA 10 107 ?_
            refine pA 12 109 ?_
            refine tA 14 111 ?_
            refine pA 16 113 ?_
            refine tA 17 114 ?_
            refine oA 18 115 (fun K hK => ?_)
            refine goes_ func82 (Z18) rfl #[.slice (some aJ) (y.take (D : Int).toNat).length Z, .string (rdOf ByteArray.empty y D)] (Z117) rfl rfl (by (try simp only [List.map_toArray, List.map_cons, List.map_nil]); first | done | (rw [show (y.take (D : Int).toNat).length = D.toNat from (by rw [List.length_take]; have h_ : (D : Int) ≤ (y.length : Int) := of_decide_eq_true (Z4); omega)] <;> rfl) | rfl | (simp only [List.length_drop, List.length_take]; rfl)) ?_
            with_reducible refine (spec_l06Has.calls k3 _ _ (y.take (D : Int).toNat) (rdOf ByteArray.empty y D) true _ ?Y1 ?Y2 cT.out).mono ?_
            (case Y1 => repeat (first | exact (Kd.C_below cJ.out (Z8)) | (with_reducible refine Kd.C_alloc ?_ _) | (with_reducible refine Kd.C_drewN ?_ _) | (with_reducible refine Kd.C_drew ?_)))
            (case Y2 => exact cK.out)
            rintro e w' ⟨rfl, ⟨nd, rfl⟩⟩
            refine ⟨_, rfl, ?_⟩
            refine hK.out _ _ (bk5 BK134.out (⟨(cB HB.out aW :), (cB HB.out bA :)⟩)) (fun hHeld => ?_)
            clear hK K
            refine nB 115 ?_
            refine pA 19 116 ?_
            refine done_ (done_of HT_.out (Z18)) ?_
            try go_wp2
            go_ret
            exact ⟨Z1, Z8⟩
           ·replace b2 := Bool.eq_false_iff.mpr b2
            subst b2
            replace H := ifF H
            have H' := aM H
            clear H
            refine bD5 BK134 ?_
            intros
            try go_wp2
            replace BK134 := aM (blk_drew BK134.out)
            replace HB := aM (below_drew1 HB.out)
            have aU : 0 ≤ (D : Int) := of_decide_eq_true (Z4)
            have aV : D < (y.length : Int) := of_decide_eq_true (Z4)
            obtain ⟨aJ, bM, aT⟩ := Kd.at_string aY.out D aU aV
            have aW := aT
            cases bM
            replace aT := cB HB.out aT
            replace aU := eq_true aU
            replace aV := eq_true aV
            have a8 : 0 ≤ (D : Int) := of_decide_eq_true (Z4)
            have a9 : D < (y.length : Int) := of_decide_eq_true (Z4)
            obtain ⟨cH, cI, a2⟩ := Kd.at_string aY.out D a8 a9
            have bA := a2
            obtain rfl : aJ = cH := (by injection cI)
            replace a2 := cB HB.out a2
            replace a8 := eq_true a8
            replace a9 := eq_true a9
            refine start_ (n := 20) (S := fun w' => Qc5 aF (.string J) (.int .i64 O) (.int .i64 I) (.slice aX l0_3.length aA) (.slice (some aJ) y.length Z) (w'.cell? (aJ.add (D).toNat) = some (.string (rdOf ByteArray.empty y D)) ∧ w'.cell? (aJ.add (D).toNat) = some (.string (rdOf ByteArray.empty y D))) w') (ds := []) #[false, false, false, false, false, false, false, false, false, false, false, false, false, false, false, false, false, false, false, false] (Z18) rfl rfl (bk5 BK134.out (⟨(cB HB.out aW :), (cB HB.out bA :)⟩)) (fun hHeld => ?_); refine with_tabW spec_BoxOK.tab12 spec_BoxOK.bits12 (fun HT_ HW_ => ?_)
            generalize wr.drew = e7 at BK134 HB aT a2 hHeld ⊢
            refine pA 0 97 ?_
            refine pA 2 99 ?_
            refine tA 1 98 ?_
            refine pA 3 100 ?_
            refine tA 4 101 ?_
            refine pA 5 102 ?_
            refine oA 6 103 (fun K hK => ?_)
            refine goes_ func50 (Z18) rfl #[.int .i64 ((rdOf ByteArray.empty y D).size : Int), .int .i64 1, .int .i64 200] (Z117) rfl rfl (Z2) ?_
            with_reducible refine (spec_l01In.calls ((rdOf ByteArray.empty y D).size : Int) 1 200 true _ cD.out).mono ?_
            rintro e w' ⟨rfl, ⟨nd, rfl⟩⟩
            refine ⟨_, rfl, ?_⟩
            obtain ⟨i096, cZ, _, dA, _⟩ := info_parts info9
            obtain ⟨e8, dB, dC⟩ := print_take_of (P := prog) Value.string (⟨#[]⟩ : ByteArray) 69 9 .i64 underlying69 cZ dA (some aJ) Z y D (of_decide_eq_true (Z4)) (of_decide_eq_true (Z4)) bN.out
            have cJ := aM (Kd.C_of_reads (h1 := fun _ => rfl) (dB _ (Kd.reads_of_C aY.out)))
            have cK := aM dC
            clear dB dC cZ dA
            refine hK.out _ _ (bk5 BK134.out (⟨(cB HB.out aW :), (cB HB.out bA :)⟩)) (fun hHeld => ?_)
            clear hK K
            refine nB 103 ?_
            refine pA 7 104 ?_
            refine pA 8 105 ?_
            refine pA 9 106 ?_
            refine pA 11 108 ?_
            refine pA 13 110 ?_
            refine pA 15 112 ?_
            refine tA 10 107 ?_
            refine pA 12 109 ?_
            refine tA 14 111 ?_
            refine pA 16 113 ?_
            refine tA 17 114 ?_
            refine oA 18 115 (fun K hK => ?_)
            refine goes_ func82 (Z18) rfl #[.slice (some aJ) (y.take (D : Int).toNat).length Z, .string (rdOf ByteArray.empty y D)] (Z117) rfl rfl (by (try simp only [List.map_toArray, List.map_cons, List.map_nil]); first | done | (rw [show (y.take (D : Int).toNat).length = D.toNat from (by rw [List.length_take]; have h_ : (D : Int) ≤ (y.length : Int) := of_decide_eq_true (Z4); omega)] <;> rfl) | rfl | (simp only [List.length_drop, List.length_take]; rfl)) ?_
            with_reducible refine (spec_l06Has.calls k3 _ _ (y.take (D : Int).toNat) (rdOf ByteArray.empty y D) false _ ?Y1 ?Y2 cT.out).mono ?_
            (case Y1 => repeat (first | exact (Kd.C_below cJ.out (Z8)) | (with_reducible refine Kd.C_alloc ?_ _) | (with_reducible refine Kd.C_drewN ?_ _) | (with_reducible refine Kd.C_drew ?_)))
            (case Y2 => exact cK.out)
            rintro e w' ⟨rfl, ⟨nd, rfl⟩⟩
            refine ⟨_, rfl, ?_⟩
            refine hK.out _ _ (bk5 BK134.out (⟨(cB HB.out aW :), (cB HB.out bA :)⟩)) (fun hHeld => ?_)
            clear hK K
            refine nB 115 ?_
            refine pA 19 116 ?_
            refine done_ (done_of HT_.out (Z18)) ?_
            try go_wp2
            go_roundg k3
            case measure => have := HJ1.out; have := HK2.out; have := cR.out; omega
            case rel => exact ⟨(wrap64 (D + 1)), (Z3), H', ⟨by have := HJ1.out; have := HK2.out; have := cR.out; omega⟩, ⟨Z21⟩, ⟨Z8⟩⟩
          ·replace b1 := Bool.eq_false_iff.mpr b1
           subst b1
           replace H := ifF H
           obtain rfl := oI H
           refine bD5 BK134 ?_
           intros
           try go_wp2
           replace BK134 := aM (blk_drew BK134.out)
           replace HB := aM (below_drew1 HB.out)
           have aU : 0 ≤ (D : Int) := of_decide_eq_true (Z4)
           have aV : D < (y.length : Int) := of_decide_eq_true (Z4)
           obtain ⟨aJ, bM, aT⟩ := Kd.at_string aY.out D aU aV
           have aW := aT
           cases bM
           replace aT := cB HB.out aT
           replace aU := eq_true aU
           replace aV := eq_true aV
           refine start_ (n := 20) (S := fun w' => Qc5 aF (.string J) (.int .i64 O) (.int .i64 I) (.slice aX l0_3.length aA) (.slice (some aJ) y.length Z) (w'.cell? (aJ.add (D).toNat) = some (.string (rdOf ByteArray.empty y D))) w') (ds := []) #[false, false, false, false, false, false, false, false, false, false, false, false, false, false, false, false, false, false, false, false] (Z18) rfl rfl (bk5 BK134.out ((cB HB.out aW :))) (fun hHeld => ?_); refine with_tabW spec_BoxOK.tab12 spec_BoxOK.bits12 (fun HT_ HW_ => ?_)
           generalize wr.drew = e9 at BK134 HB aT hHeld ⊢
           refine pA 0 97 ?_
           refine pA 2 99 ?_
           refine tA 1 98 ?_
           refine pA 3 100 ?_
           refine tA 4 101 ?_
           refine pA 5 102 ?_
           refine oA 6 103 (fun K hK => ?_)
           refine goes_ func50 (Z18) rfl #[.int .i64 ((rdOf ByteArray.empty y D).size : Int), .int .i64 1, .int .i64 200] (Z117) rfl rfl (Z2) ?_
           with_reducible refine (spec_l01In.calls ((rdOf ByteArray.empty y D).size : Int) 1 200 false _ cD.out).mono ?_
           rintro e w' ⟨rfl, ⟨nd, rfl⟩⟩
           refine ⟨_, rfl, ?_⟩
           refine hK.out _ _ (bk5 BK134.out ((cB HB.out aW :))) (fun hHeld => ?_)
           clear hK K
           refine nB 103 ?_
           refine pA 7 104 ?_
           refine pA 8 105 ?_
           refine pU 9 106 ?_
           refine pU 10 107 ?_
           refine pU 11 108 ?_
           refine pU 12 109 ?_
           refine pU 13 110 ?_
           refine pU 14 111 ?_
           refine pU 15 112 ?_
           refine pU 16 113 ?_
           refine pU 17 114 ?_
           refine pU 18 115 ?_
           refine pA 19 116 ?_
           refine done_ (done_of HT_.out (Z18)) ?_
           try go_wp2
           go_ret
           exact ⟨Z1, Z8⟩
         ·rw [if_neg bH] at H
          have d1 := decide_eq_false bH
          clear bH
          obtain rfl := oI H
          refine bD5 BK134 ?_
          intros
          go_wp2
          go_ret
          exact ⟨Z1, Z8⟩
def spec_StoreOK.l0 : Nat → List (S98) → Int → Option (Bool)
 | 0, _, _ => none
 | k + 1, x0, x3 => if x3 < (x0.length : Int) then (if 0 ≤ x3 then ((spec_BoxOK.f k ((rd_T98 x0 x3).f0) ((rd_T98 x0 x3).f1) ((rd_T98 x0 x3).f2) ((rd_T98 x0 x3).f3) ((rd_T98 x0 x3).f4)).bind fun s => (if s = true then (if ((rd_T98 x0 x3).f1) = (wrap64 (x3 + 1)) then (if x3 ≤ (x0.length : Int) then ((spec_l09Find.f k (x0.take (x3 : Int).toNat) ((rd_T98 x0 x3).f0)).bind fun y => (if y ≥ 0 then (some false) else (spec_StoreOK.l0 k x0 (wrap64 (x3 + 1))))) else (none)) else (some false)) else (some false))) else (none)) else (some true)
def spec_StoreOK.f (k : Nat) (l0 : List (S98)) : Option (Bool) := if (l0.length : Int) > 4096 then (some false) else (if (l0.length : Int) > 4 then (some false) else (spec_StoreOK.l0 k l0 0))
def spec_StoreOK.T8 : Bool × List (List Nat × List Nat) := (true, [([], []), ([], []), ([0, 1], [0, 1]), ([2], [2]), ([3], [3]), ([4], [4]), ([5, 4], [5]), ([6], [6]), ([6], [6]), ([7, 8, 6], [6, 7, 8]), ([9, 6], [6, 9]), ([10, 6], [6, 10]), ([6], [6]), ([12, 6], [6, 12]), ([11, 13, 6], [6, 11, 13]), ([6, 14], [6, 14]), ([15, 6], [15]), ([16], [16]), ([16], [16]), ([17, 18, 16], [16, 17, 18]), ([16], [16]), ([16], [16]), ([20, 21, 16], [16, 20, 21]), ([22, 16], [16, 22]), ([23, 16], [16, 23]), ([19, 24, 16, 16], [16, 19, 24]), ([25, 16], [16, 25]), ([16, 26], [16, 26])])
def spec_StoreOK.B8 : List Nat := [0, 0, 3, 7, 15, 31, 63, 127, 127, 511, 1023, 2047, 127, 4223, 16383, 32767, 65535, 131071, 131071, 524287, 131071, 131071, 3276799, 7471103, 15859711, 33554431, 67108863, 134217727]
theorem spec_StoreOK.tab8 : rtab .any (opsOf Tryz.f25 8) = spec_StoreOK.T8 := by kernel_rfl
theorem spec_StoreOK.bits8 : waitsOk spec_StoreOK.T8.2 spec_StoreOK.B8 = true := by kernel_rfl
theorem spec_StoreOK.calls (k : Nat) (A0 : Option Addr) (c0 : Nat) (l0 : List (S98)) (r : Bool) (w : World) (hr0 : Kd.C k98 w A0 l0.length l0) (b7 : l0.length ≤ c0) (h : spec_StoreOK.f k l0 = some r) :
  Calls prog 25 #[.slice A0 l0.length c0] w fun e w' => e = .returned (.bool r) ∧ Below w.heap.size w w' := by
 have dS := underlying98
 replace hr0 := aM hr0
 replace b7 := aM b7
 have HB := aM (Below.refl w.heap.size w)
 have H := h
 clear h
 unfold spec_StoreOK.f at H
 by_cases c2 : (l0.length : Int) > 4096
 ·rw [if_pos c2] at H
  have cN : decide (4096 < (l0.length : Int)) = true := decide_eq_true c2
  have cO : decide (4096 < l0.length) = true := decide_eq_true (Z42)
  clear c2
  obtain rfl := oI H
  go_enter func25, ntmps25
  go_wp2
  go_ret
  exact ⟨Z1, Z0⟩
 ·rw [if_neg c2] at H
  have cN : decide (4096 < (l0.length : Int)) = false := decide_eq_false c2
  have cO : decide (4096 < l0.length) = false := decide_eq_false (Z42)
  clear c2
  by_cases c3 : (l0.length : Int) > 4
  ·rw [if_pos c3] at H
   have cP : decide (4 < (l0.length : Int)) = true := decide_eq_true c3
   have cQ : decide (4 < l0.length) = true := decide_eq_true (Z42)
   clear c3
   obtain rfl := oI H
   go_enter func25, ntmps25
   go_wp2
   go_ret
   exact ⟨Z1, Z0⟩
  ·rw [if_neg c3] at H
   have cP : decide (4 < (l0.length : Int)) = false := decide_eq_false c3
   have cQ : decide (4 < l0.length) = false := decide_eq_false (Z42)
   clear c3
   have H' := aM H
   clear H
   go_enter func25, ntmps25
   go_wp2
   go_loopg [3] k (fun kq v3 w' => ∃ (s : Int), v3 = .int .i64 s ∧ Aside0 (spec_StoreOK.l0 kq l0 s = some r) ∧ Aside0 (kq ≤ k) ∧ Aside0 (Below w.heap.size w w'))
   case atStart => exact ⟨(0), (Z3), H', ⟨Nat.le_refl _⟩, ⟨Z0⟩⟩
   case round =>
    clear H'
    (try clear c2); (try clear cN); (try clear cO); (try clear c3); (try clear cP); (try clear cQ)
    obtain ⟨s, rfl, HA, HK1, HB⟩ := hrel
    cases gk with
    | zero => exact absurd HA.out (by simp [spec_StoreOK.l0])
    | succ k1 =>
     have H := HA.out
     clear HA
     simp only [spec_StoreOK.l0] at H
     by_cases c4 : s < (l0.length : Int)
     ·rw [if_pos c4] at H
      have dD := decide_eq_true c4
      clear c4
      obtain ⟨c5, H⟩ := ifS H
      have dT := decide_eq_true c5
      clear c5
      obtain ⟨dE, A6, H⟩ := bindA H
      try dsimp only at H
      by_cases c7 : dE = true
      ·subst c7
       replace H := ifT H
       by_cases c8 : ((rd_T98 l0 s).f1) = (wrap64 (s + 1))
       ·rw [if_pos c8] at H
        have dF := beq_iff_eq.mpr c8
        have dG := bne_eq_false_iff_eq.mpr c8
        clear c8
        have dU := eq_true (of_decide_eq_true (Z4) : 0 ≤ s)
        obtain ⟨c10, H⟩ := ifS H
        have dV := eq_true c10
        have dW : decide (s ≤ (l0.length : Int)) = true := decide_eq_true c10
        clear c10
        obtain ⟨a6, bV⟩ : ∃ y_ : List (S98), y_ = (l0.take (s : Int).toNat) := ⟨_, rfl⟩
        replace H : ((spec_l09Find.f k1 a6 ((rd_T98 l0 s).f0)).bind fun bE => (if bE ≥ 0 then (some false) else (spec_StoreOK.l0 k1 l0 (wrap64 (s + 1))))) = some r := by first | (rw [bV]; with_reducible exact H) | (have H2_ := (Option.bind_some _ _).symm.trans H; rw [bV]; with_reducible exact H2_) | (have H2_ := (Option.bind_some _ _).symm.trans H; with_reducible exact H2_) | with_reducible exact H | (rw [bV]; exact H) | exact H
        have b9 := aM bV
        clear bV
        obtain ⟨bE, cR, H⟩ := bindA H
        try dsimp only at H
        by_cases bT : bE ≥ 0
        ·rw [if_pos bT] at H
         have dH : decide (0 ≤ bE) = true := decide_eq_true bT
         clear bT
         obtain rfl := oI H
         try go_wp2
         replace HB := aM (below_drew1 HB.out)
         have Y : 0 ≤ (s : Int) := of_decide_eq_true (Z4)
         have Z : s < (l0.length : Int) := of_decide_eq_true (Z4)
         obtain ⟨y, aI, aJ, aK, aL, bF, D, I, J, M, O, aN, aO, aP, aQ⟩ := at_T98 hr0.out s Y Z
         have aD := O
         have aE := M
         have aF := J
         have aG := I
         have aH := D
         cases bF
         replace D := cB HB.out D
         replace I := cB HB.out I
         replace J := cB HB.out J
         replace M := cB HB.out M
         replace O := cB HB.out O
         have aR := aM aO
         have bG := aM aN
         clear aO aN
         have aS := aM aQ
         have bH := aM aP
         clear aQ aP
         replace Y := eq_true Y
         replace Z := eq_true Z
         have aT : 0 ≤ (s : Int) := of_decide_eq_true (Z4)
         have aU : s < (l0.length : Int) := of_decide_eq_true (Z4)
         obtain ⟨bW, bI, bJ, bK, bL, bX, aA, aB, aC, U, X, bA, bB, bC, bD⟩ := at_T98 hr0.out s aT aU
         have aX := X
         have aY := U
         have aZ := aC
         have a2 := aB
         have a3 := aA
         obtain rfl : y = bW := (by injection bX)
         replace aA := cB HB.out aA
         replace aB := cB HB.out aB
         replace aC := cB HB.out aC
         replace U := cB HB.out U
         replace X := cB HB.out X
         have bY := aM bB
         have cS := aM bA
         clear bB bA
         have bZ := aM bD
         have cT := aM bC
         clear bD bC
         replace aT := eq_true aT
         replace aU := eq_true aU
         have bM : 0 ≤ (s : Int) := of_decide_eq_true (Z4)
         have bN : s < (l0.length : Int) := of_decide_eq_true (Z4)
         obtain ⟨cA, dI, dJ, dK, dL, cC, a7, a8, a9, aV, aW, b0, b1, b2, b6⟩ := at_T98 hr0.out s bM bN
         have bO := aW
         have bP := aV
         have bQ := a9
         have bR := a8
         have bS := a7
         obtain rfl : y = cA := (by injection cC)
         replace a7 := cB HB.out a7
         replace a8 := cB HB.out a8
         replace a9 := cB HB.out a9
         replace aV := cB HB.out aV
         replace aW := cB HB.out aW
         have cD := aM b1
         have dM := aM b0
         clear b1 b0
         have cG := aM b6
         have dN := aM b2
         clear b6 b2
         replace bM := eq_true bM
         replace bN := eq_true bN
         have ea_ := Option.some.inj (U.symm.trans aV)
         injection ea_ with ea_ en_ ec_
         subst ea_
         subst ec_
         clear en_
         have ea_ := Option.some.inj (X.symm.trans aW)
         injection ea_ with ea_ en_ ec_
         subst ea_
         subst ec_
         clear en_
         refine start_ (n := 28) (S := fun w' => Qa5 (y.add ((s).toNat * 5)) (.string ((rd_T98 l0 s).f0)) (.int .i64 ((rd_T98 l0 s).f1)) (.int .i64 ((rd_T98 l0 s).f2)) (.slice aI ((rd_T98 l0 s).f3).length aJ) (.slice aK ((rd_T98 l0 s).f4).length aL) (Qa5 (y.add ((s).toNat * 5)) (.string ((rd_T98 l0 s).f0)) (.int .i64 ((rd_T98 l0 s).f1)) (.int .i64 ((rd_T98 l0 s).f2)) (.slice bI ((rd_T98 l0 s).f3).length bJ) (.slice bK ((rd_T98 l0 s).f4).length bL) (qa5 (y.add ((s).toNat * 5)) (.string ((rd_T98 l0 s).f0)) (.int .i64 ((rd_T98 l0 s).f1)) (.int .i64 ((rd_T98 l0 s).f2)) (.slice bI ((rd_T98 l0 s).f3).length bJ) (.slice bK ((rd_T98 l0 s).f4).length bL) w') w') w') (ds := []) #[false, false, false, false, false, false, false, false, false, false, false, false, false, false, false, false, false, false, false, false, false, false, false, false, false, false, false, false] (Z18) rfl rfl ⟨(cB HB.out aH :), ⟨(cB HB.out aG :), ⟨(cB HB.out aF :), ⟨(cB HB.out aE :), ⟨(cB HB.out aD :), ⟨(cB HB.out a3 :), ⟨(cB HB.out a2 :), ⟨(cB HB.out aZ :), ⟨(cB HB.out aY :), ⟨(cB HB.out aX :), ⟨(cB HB.out bS :), ⟨(cB HB.out bR :), ⟨(cB HB.out bQ :), ⟨(cB HB.out bP :), (cB HB.out bO :)⟩⟩⟩⟩⟩⟩⟩⟩⟩⟩⟩⟩⟩⟩ (fun hHeld => ?_); refine with_tabW spec_StoreOK.tab8 spec_StoreOK.bits8 (fun HT_ HW_ => ?_)
         generalize wr.drew = dX at HB aR aS bY bZ cD cG D I J M O aA aB aC U X a7 a8 a9 aV aW hHeld ⊢
         refine pA 0 16 ?_
         refine pA 1 17 ?_
         refine pA 2 18 ?_
         refine tA 3 19 ?_
         refine oA 4 20 (fun K hK => ?_)
         refine goes_ func51 (Z18) rfl #[.agg #[.string ((rd_T98 l0 s).f0), .int .i64 ((rd_T98 l0 s).f1), .int .i64 ((rd_T98 l0 s).f2), .slice aI ((rd_T98 l0 s).f3).length aJ, .slice aK ((rd_T98 l0 s).f4).length aL]] (Z117) rfl rfl (Z2) ?_
         with_reducible refine (spec_BoxOK.calls k1 ((rd_T98 l0 s).f0) ((rd_T98 l0 s).f1) ((rd_T98 l0 s).f2) _ _ ((rd_T98 l0 s).f3) _ _ ((rd_T98 l0 s).f4) true _ ?Y1 ?Y2 ?Y3 ?Y4 A6.out).mono ?_
         (case Y1 => have h_ := Kd.C_below aR.out HB.out; exact tC)
         (case Y2 => exact bG.out)
         (case Y3 => have h_ := Kd.C_below aS.out HB.out; exact tC)
         (case Y4 => exact bH.out)
         rintro e dY ⟨rfl, hb⟩
         refine ⟨_, rfl, ?_⟩
         replace HB := aM (below_step (Z0) hb)
         (try clear hb)
         have cH : (s : Int) ≤ ((l0.length : Int) : Int) := of_decide_eq_true (Z4)
         obtain ⟨i015, cU, _, dO, _⟩ := info_parts info98
         have cV : l0.length ≤ c0 := b7.out
         have cX : Kd.C k98 _ (some y) l0.length l0 := hr0.out
         have dP := cut_to (P := prog) 33 98 .i64 underlying33 cU (some y) l0.length c0 s (of_decide_eq_true (Z4)) cH cV
         have bU := Kd.C_take (m := (s : Int).toNat) cX (Z42)
         have cI : a6.length = (s : Int).toNat := (by rw [b9.out, List.length_take]; omega)
         rw [← b9.out] at bU
         rw [← cI] at dP
         replace bU := aM bU
         have cJ := aM (show a6.length ≤ c0 from by omega)
         clear  cX cV cU dO
         have dZ := aM cI
         clear cI
         replace cH := eq_true cH
         refine hK.out _ _ ⟨(cB HB.out aH :), ⟨(cB HB.out aG :), ⟨(cB HB.out aF :), ⟨(cB HB.out aE :), ⟨(cB HB.out aD :), ⟨(cB HB.out a3 :), ⟨(cB HB.out a2 :), ⟨(cB HB.out aZ :), ⟨(cB HB.out aY :), ⟨(cB HB.out aX :), ⟨(cB HB.out bS :), ⟨(cB HB.out bR :), ⟨(cB HB.out bQ :), ⟨(cB HB.out bP :), (cB HB.out bO :)⟩⟩⟩⟩⟩⟩⟩⟩⟩⟩⟩⟩⟩⟩ (fun hHeld => ?_)
         clear hK K
         refine nB 20 ?_
         refine pA 5 21 ?_
         refine pA 6 22 ?_
         refine pA 7 23 ?_
         refine pA 8 24 ?_
         refine pA 9 25 ?_
         refine pA 10 26 ?_
         refine pA 12 28 ?_
         refine pA 13 29 ?_
         refine tA 11 27 ?_
         refine pA 14 30 ?_
         refine pA 15 31 ?_
         refine pA 16 32 ?_
         refine pA 17 33 ?_
         refine pA 18 34 ?_
         refine pA 19 35 ?_
         refine pA 20 36 ?_
         refine pA 21 37 ?_
         refine pA 22 38 ?_
         refine pA 23 39 ?_
         refine tA 24 40 ?_
         refine oA 25 41 (fun K hK => ?_)
         refine goes_ func30 (Z18) rfl #[.slice (some y) a6.length c0, .string ((rd_T98 l0 s).f0)] (Z117) rfl rfl (Z2) ?_
         with_reducible refine (spec_l09Find.calls k1 _ _ a6 ((rd_T98 l0 s).f0) bE _ ?Y1 ?Y2 cR.out).mono ?_
         (case Y1 => have h_ := Kd.C_below bU.out HB.out; exact tC)
         (case Y2 => exact cJ.out)
         rintro e w' ⟨rfl, ⟨nd, rfl⟩⟩
         refine ⟨_, rfl, ?_⟩
         refine hK.out _ _ ⟨(cB HB.out aH :), ⟨(cB HB.out aG :), ⟨(cB HB.out aF :), ⟨(cB HB.out aE :), ⟨(cB HB.out aD :), ⟨(cB HB.out a3 :), ⟨(cB HB.out a2 :), ⟨(cB HB.out aZ :), ⟨(cB HB.out aY :), ⟨(cB HB.out aX :), ⟨(cB HB.out bS :), ⟨(cB HB.out bR :), ⟨(cB HB.out bQ :), ⟨(cB HB.out bP :), (cB HB.out bO :)⟩⟩⟩⟩⟩⟩⟩⟩⟩⟩⟩⟩⟩⟩ (fun hHeld => ?_)
         clear hK K
         refine nB 41 ?_
         refine pA 26 42 ?_
         refine pA 27 43 ?_
         refine done_ (done_of HT_.out (Z18)) ?_
         try go_wp2
         go_ret
         exact ⟨Z1, Z0⟩
        ·rw [if_neg bT] at H
         have dH : decide (0 ≤ bE) = false := decide_eq_false bT
         clear bT
         have H' := aM H
         clear H
         try go_wp2
         replace HB := aM (below_drew1 HB.out)
         have Y : 0 ≤ (s : Int) := of_decide_eq_true (Z4)
         have Z : s < (l0.length : Int) := of_decide_eq_true (Z4)
         obtain ⟨y, aI, aJ, aK, aL, bF, D, I, J, M, O, aN, aO, aP, aQ⟩ := at_T98 hr0.out s Y Z
         have aD := O
         have aE := M
         have aF := J
         have aG := I
         have aH := D
         cases bF
         replace D := cB HB.out D
         replace I := cB HB.out I
         replace J := cB HB.out J
         replace M := cB HB.out M
         replace O := cB HB.out O
         have aR := aM aO
         have bG := aM aN
         clear aO aN
         have aS := aM aQ
         have bH := aM aP
         clear aQ aP
         replace Y := eq_true Y
         replace Z := eq_true Z
         have aT : 0 ≤ (s : Int) := of_decide_eq_true (Z4)
         have aU : s < (l0.length : Int) := of_decide_eq_true (Z4)
         obtain ⟨bW, bI, bJ, bK, bL, bX, aA, aB, aC, U, X, bA, bB, bC, bD⟩ := at_T98 hr0.out s aT aU
         have aX := X
         have aY := U
         have aZ := aC
         have a2 := aB
         have a3 := aA
         obtain rfl : y = bW := (by injection bX)
         replace aA := cB HB.out aA
         replace aB := cB HB.out aB
         replace aC := cB HB.out aC
         replace U := cB HB.out U
         replace X := cB HB.out X
         have bY := aM bB
         have cS := aM bA
         clear bB bA
         have bZ := aM bD
         have cT := aM bC
         clear bD bC
         replace aT := eq_true aT
         replace aU := eq_true aU
         have bM : 0 ≤ (s : Int) := of_decide_eq_true (Z4)
         have bN : s < (l0.length : Int) := of_decide_eq_true (Z4)
         obtain ⟨cA, dI, dJ, dK, dL, cC, a7, a8, a9, aV, aW, b0, b1, b2, b6⟩ := at_T98 hr0.out s bM bN
         have bO := aW
         have bP := aV
         have bQ := a9
         have bR := a8
         have bS := a7
         obtain rfl : y = cA := (by injection cC)
         replace a7 := cB HB.out a7
         replace a8 := cB HB.out a8
         replace a9 := cB HB.out a9
         replace aV := cB HB.out aV
         replace aW := cB HB.out aW
         have cD := aM b1
         have dM := aM b0
         clear b1 b0
         have cG := aM b6
         have dN := aM b2
         clear b6 b2
         replace bM := eq_true bM
         replace bN := eq_true bN
         have ea_ := Option.some.inj (U.symm.trans aV)
         injection ea_ with ea_ en_ ec_
         subst ea_
         subst ec_
         clear en_
         have ea_ := Option.some.inj (X.symm.trans aW)
         injection ea_ with ea_ en_ ec_
         subst ea_
         subst ec_
         clear en_
         refine start_ (n := 28) (S := fun w' => Qa5 (y.add ((s).toNat * 5)) (.string ((rd_T98 l0 s).f0)) (.int .i64 ((rd_T98 l0 s).f1)) (.int .i64 ((rd_T98 l0 s).f2)) (.slice aI ((rd_T98 l0 s).f3).length aJ) (.slice aK ((rd_T98 l0 s).f4).length aL) (Qa5 (y.add ((s).toNat * 5)) (.string ((rd_T98 l0 s).f0)) (.int .i64 ((rd_T98 l0 s).f1)) (.int .i64 ((rd_T98 l0 s).f2)) (.slice bI ((rd_T98 l0 s).f3).length bJ) (.slice bK ((rd_T98 l0 s).f4).length bL) (qa5 (y.add ((s).toNat * 5)) (.string ((rd_T98 l0 s).f0)) (.int .i64 ((rd_T98 l0 s).f1)) (.int .i64 ((rd_T98 l0 s).f2)) (.slice bI ((rd_T98 l0 s).f3).length bJ) (.slice bK ((rd_T98 l0 s).f4).length bL) w') w') w') (ds := []) #[false, false, false, false, false, false, false, false, false, false, false, false, false, false, false, false, false, false, false, false, false, false, false, false, false, false, false, false] (Z18) rfl rfl ⟨(cB HB.out aH :), ⟨(cB HB.out aG :), ⟨(cB HB.out aF :), ⟨(cB HB.out aE :), ⟨(cB HB.out aD :), ⟨(cB HB.out a3 :), ⟨(cB HB.out a2 :), ⟨(cB HB.out aZ :), ⟨(cB HB.out aY :), ⟨(cB HB.out aX :), ⟨(cB HB.out bS :), ⟨(cB HB.out bR :), ⟨(cB HB.out bQ :), ⟨(cB HB.out bP :), (cB HB.out bO :)⟩⟩⟩⟩⟩⟩⟩⟩⟩⟩⟩⟩⟩⟩ (fun hHeld => ?_); refine with_tabW spec_StoreOK.tab8 spec_StoreOK.bits8 (fun HT_ HW_ => ?_)
         generalize wr.drew = d0 at HB aR aS bY bZ cD cG D I J M O aA aB aC U X a7 a8 a9 aV aW hHeld ⊢
         refine pA 0 16 ?_
         refine pA 1 17 ?_
         refine pA 2 18 ?_
         refine tA 3 19 ?_
         refine oA 4 20 (fun K hK => ?_)
         refine goes_ func51 (Z18) rfl #[.agg #[.string ((rd_T98 l0 s).f0), .int .i64 ((rd_T98 l0 s).f1), .int .i64 ((rd_T98 l0 s).f2), .slice aI ((rd_T98 l0 s).f3).length aJ, .slice aK ((rd_T98 l0 s).f4).length aL]] (Z117) rfl rfl (Z2) ?_
         with_reducible refine (spec_BoxOK.calls k1 ((rd_T98 l0 s).f0) ((rd_T98 l0 s).f1) ((rd_T98 l0 s).f2) _ _ ((rd_T98 l0 s).f3) _ _ ((rd_T98 l0 s).f4) true _ ?Y1 ?Y2 ?Y3 ?Y4 A6.out).mono ?_
         (case Y1 => have h_ := Kd.C_below aR.out HB.out; exact tC)
         (case Y2 => exact bG.out)
         (case Y3 => have h_ := Kd.C_below aS.out HB.out; exact tC)
         (case Y4 => exact bH.out)
         rintro e d1 ⟨rfl, hb⟩
         refine ⟨_, rfl, ?_⟩
         replace HB := aM (below_step (Z0) hb)
         (try clear hb)
         have cK : (s : Int) ≤ ((l0.length : Int) : Int) := of_decide_eq_true (Z4)
         obtain ⟨i018, cY, _, dQ, _⟩ := info_parts info98
         have cZ : l0.length ≤ c0 := b7.out
         have dA : Kd.C k98 _ (some y) l0.length l0 := hr0.out
         have dR := cut_to (P := prog) 33 98 .i64 underlying33 cY (some y) l0.length c0 s (of_decide_eq_true (Z4)) cK cZ
         have dB := Kd.C_take (m := (s : Int).toNat) dA (Z42)
         have cL : a6.length = (s : Int).toNat := (by rw [b9.out, List.length_take]; omega)
         rw [← b9.out] at dB
         rw [← cL] at dR
         have bU := aM dB
         have cJ := aM (show a6.length ≤ c0 from by omega)
         clear  dA cZ cY dQ
         have d2 := aM cL
         clear cL
         replace cK := eq_true cK
         refine hK.out _ _ ⟨(cB HB.out aH :), ⟨(cB HB.out aG :), ⟨(cB HB.out aF :), ⟨(cB HB.out aE :), ⟨(cB HB.out aD :), ⟨(cB HB.out a3 :), ⟨(cB HB.out a2 :), ⟨(cB HB.out aZ :), ⟨(cB HB.out aY :), ⟨(cB HB.out aX :), ⟨(cB HB.out bS :), ⟨(cB HB.out bR :), ⟨(cB HB.out bQ :), ⟨(cB HB.out bP :), (cB HB.out bO :)⟩⟩⟩⟩⟩⟩⟩⟩⟩⟩⟩⟩⟩⟩ (fun hHeld => ?_)
         clear hK K
         refine nB 20 ?_
         refine pA 5 21 ?_
         refine pA 6 22 ?_
         refine pA 7 23 ?_
         refine pA 8 24 ?_
         refine pA 9 25 ?_
         refine pA 10 26 ?_
         refine pA 12 28 ?_
         refine pA 13 29 ?_
         refine tA 11 27 ?_
         refine pA 14 30 ?_
         refine pA 15 31 ?_
         refine pA 16 32 ?_
         refine pA 17 33 ?_
         refine pA 18 34 ?_
         refine pA 19 35 ?_
         refine pA 20 36 ?_
         refine pA 21 37 ?_
         refine pA 22 38 ?_
         refine pA 23 39 ?_
         refine tA 24 40 ?_
         refine oA 25 41 (fun K hK => ?_)
         refine goes_ func30 (Z18) rfl #[.slice (some y) a6.length c0, .string ((rd_T98 l0 s).f0)] (Z117) rfl rfl (Z2) ?_
         with_reducible refine (spec_l09Find.calls k1 _ _ a6 ((rd_T98 l0 s).f0) bE _ ?Y1 ?Y2 cR.out).mono ?_
         (case Y1 => have h_ := Kd.C_below bU.out HB.out; exact tC)
         (case Y2 => exact cJ.out)
         rintro e w' ⟨rfl, ⟨nd, rfl⟩⟩
         refine ⟨_, rfl, ?_⟩
         refine hK.out _ _ ⟨(cB HB.out aH :), ⟨(cB HB.out aG :), ⟨(cB HB.out aF :), ⟨(cB HB.out aE :), ⟨(cB HB.out aD :), ⟨(cB HB.out a3 :), ⟨(cB HB.out a2 :), ⟨(cB HB.out aZ :), ⟨(cB HB.out aY :), ⟨(cB HB.out aX :), ⟨(cB HB.out bS :), ⟨(cB HB.out bR :), ⟨(cB HB.out bQ :), ⟨(cB HB.out bP :), (cB HB.out bO :)⟩⟩⟩⟩⟩⟩⟩⟩⟩⟩⟩⟩⟩⟩ (fun hHeld => ?_)
         clear hK K
         refine nB 41 ?_
         refine pA 26 42 ?_
         refine pA 27 43 ?_
         refine done_ (done_of HT_.out (Z18)) ?_
         try go_wp2
         go_roundg k1
         case measure => have := HK1.out; omega
         case rel => exact ⟨(wrap64 (s + 1)), (Z3), H', ⟨Z125⟩, ⟨Z0⟩⟩
       ·rw [if_neg c8] at H
        have dF := beq_eq_false_iff_ne.mpr c8
        have dG := bne_iff_ne.mpr c8
        obtain rfl := oI H
        try go_wp2
        replace HB := aM (below_drew1 HB.out)
        have Y : 0 ≤ (s : Int) := of_decide_eq_true (Z4)
        have Z : s < (l0.length : Int) := of_decide_eq_true (Z4)
        obtain ⟨y, aI, aJ, aK, aL, bF, D, I, J, M, O, aN, aO, aP, aQ⟩ := at_T98 hr0.out s Y Z
        have aD := O
        have aE := M
        have aF := J
        have aG := I
        have aH := D
        cases bF
        replace D := cB HB.out D
        replace I := cB HB.out I
        replace J := cB HB.out J
        replace M := cB HB.out M
        replace O := cB HB.out O
        have aR := aM aO
        have bG := aM aN
        clear aO aN
        have aS := aM aQ
        have bH := aM aP
        clear aQ aP
        replace Y := eq_true Y
        replace Z := eq_true Z
        have aT : 0 ≤ (s : Int) := of_decide_eq_true (Z4)
        have aU : s < (l0.length : Int) := of_decide_eq_true (Z4)
        obtain ⟨bW, bI, bJ, bK, bL, bX, aA, aB, aC, U, X, bA, bB, bC, bD⟩ := at_T98 hr0.out s aT aU
        have aX := X
        have aY := U
        have aZ := aC
        have a2 := aB
        have a3 := aA
        obtain rfl : y = bW := (by injection bX)
        replace aA := cB HB.out aA
        replace aB := cB HB.out aB
        replace aC := cB HB.out aC
        replace U := cB HB.out U
        replace X := cB HB.out X
        have bY := aM bB
        have cS := aM bA
        clear bB bA
        have bZ := aM bD
        have cT := aM bC
        clear bD bC
        replace aT := eq_true aT
        replace aU := eq_true aU
        refine start_ (n := 28) (S := fun w' => Qa5 (y.add ((s).toNat * 5)) (.string ((rd_T98 l0 s).f0)) (.int .i64 ((rd_T98 l0 s).f1)) (.int .i64 ((rd_T98 l0 s).f2)) (.slice aI ((rd_T98 l0 s).f3).length aJ) (.slice aK ((rd_T98 l0 s).f4).length aL) (qa5 (y.add ((s).toNat * 5)) (.string ((rd_T98 l0 s).f0)) (.int .i64 ((rd_T98 l0 s).f1)) (.int .i64 ((rd_T98 l0 s).f2)) (.slice bI ((rd_T98 l0 s).f3).length bJ) (.slice bK ((rd_T98 l0 s).f4).length bL) w') w') (ds := []) #[false, false, false, false, false, false, false, false, false, false, false, false, false, false, false, false, false, false, false, false, false, false, false, false, false, false, false, false] (Z18) rfl rfl ⟨(cB HB.out aH :), ⟨(cB HB.out aG :), ⟨(cB HB.out aF :), ⟨(cB HB.out aE :), ⟨(cB HB.out aD :), ⟨(cB HB.out a3 :), ⟨(cB HB.out a2 :), ⟨(cB HB.out aZ :), ⟨(cB HB.out aY :), (cB HB.out aX :)⟩⟩⟩⟩⟩⟩⟩⟩⟩ (fun hHeld => ?_); refine with_tabW spec_StoreOK.tab8 spec_StoreOK.bits8 (fun HT_ HW_ => ?_)
        generalize wr.drew = d3 at HB aR aS bY bZ D I J M O aA aB aC U X hHeld ⊢
        refine pA 0 16 ?_
        refine pA 1 17 ?_
        refine pA 2 18 ?_
        refine tA 3 19 ?_
        refine oA 4 20 (fun K hK => ?_)
        refine goes_ func51 (Z18) rfl #[.agg #[.string ((rd_T98 l0 s).f0), .int .i64 ((rd_T98 l0 s).f1), .int .i64 ((rd_T98 l0 s).f2), .slice aI ((rd_T98 l0 s).f3).length aJ, .slice aK ((rd_T98 l0 s).f4).length aL]] (Z117) rfl rfl (Z2) ?_
        with_reducible refine (spec_BoxOK.calls k1 ((rd_T98 l0 s).f0) ((rd_T98 l0 s).f1) ((rd_T98 l0 s).f2) _ _ ((rd_T98 l0 s).f3) _ _ ((rd_T98 l0 s).f4) true _ ?Y1 ?Y2 ?Y3 ?Y4 A6.out).mono ?_
        (case Y1 => have h_ := Kd.C_below aR.out HB.out; exact tC)
        (case Y2 => exact bG.out)
        (case Y3 => have h_ := Kd.C_below aS.out HB.out; exact tC)
        (case Y4 => exact bH.out)
        rintro e d4 ⟨rfl, hb⟩
        refine ⟨_, rfl, ?_⟩
        replace HB := aM (below_step (Z0) hb)
        (try clear hb)
        refine hK.out _ _ ⟨(cB HB.out aH :), ⟨(cB HB.out aG :), ⟨(cB HB.out aF :), ⟨(cB HB.out aE :), ⟨(cB HB.out aD :), ⟨(cB HB.out a3 :), ⟨(cB HB.out a2 :), ⟨(cB HB.out aZ :), ⟨(cB HB.out aY :), (cB HB.out aX :)⟩⟩⟩⟩⟩⟩⟩⟩⟩ (fun hHeld => ?_)
        clear hK K
        refine nB 20 ?_
        refine pA 5 21 ?_
        refine pA 6 22 ?_
        refine pA 7 23 ?_
        refine pA 8 24 ?_
        refine pA 9 25 ?_
        refine pA 10 26 ?_
        refine pA 12 28 ?_
        refine pA 13 29 ?_
        refine tA 11 27 ?_
        refine pA 14 30 ?_
        refine pA 15 31 ?_
        refine pA 16 32 ?_
        refine pU 17 33 ?_
        refine pU 18 34 ?_
        refine pU 19 35 ?_
        refine pU 20 36 ?_
        refine pU 21 37 ?_
        refine pU 22 38 ?_
        refine pU 23 39 ?_
        refine pU 24 40 ?_
        refine pU 25 41 ?_
        refine pU 26 42 ?_
        refine pA 27 43 ?_
        refine done_ (done_of HT_.out (Z18)) ?_
        try go_wp2
        go_ret
        exact ⟨Z1, Z0⟩
      ·replace c7 := Bool.eq_false_iff.mpr c7
       subst c7
       replace H := ifF H
       obtain rfl := oI H
       try go_wp2
       replace HB := aM (below_drew1 HB.out)
       have Y : 0 ≤ (s : Int) := of_decide_eq_true (Z4)
       have Z : s < (l0.length : Int) := of_decide_eq_true (Z4)
       obtain ⟨y, aI, aJ, aK, aL, bF, D, I, J, M, O, aN, aO, aP, aQ⟩ := at_T98 hr0.out s Y Z
       have aD := O
       have aE := M
       have aF := J
       have aG := I
       have aH := D
       cases bF
       replace D := cB HB.out D
       replace I := cB HB.out I
       replace J := cB HB.out J
       replace M := cB HB.out M
       replace O := cB HB.out O
       have aR := aM aO
       have bG := aM aN
       clear aO aN
       have aS := aM aQ
       have bH := aM aP
       clear aQ aP
       replace Y := eq_true Y
       replace Z := eq_true Z
       refine start_ (n := 28) (S := fun w' => qa5 (y.add ((s).toNat * 5)) (.string ((rd_T98 l0 s).f0)) (.int .i64 ((rd_T98 l0 s).f1)) (.int .i64 ((rd_T98 l0 s).f2)) (.slice aI ((rd_T98 l0 s).f3).length aJ) (.slice aK ((rd_T98 l0 s).f4).length aL) w') (ds := []) #[false, false, false, false, false, false, false, false, false, false, false, false, false, false, false, false, false, false, false, false, false, false, false, false, false, false, false, false] (Z18) rfl rfl ⟨(cB HB.out aH :), ⟨(cB HB.out aG :), ⟨(cB HB.out aF :), ⟨(cB HB.out aE :), (cB HB.out aD :)⟩⟩⟩⟩ (fun hHeld => ?_); refine with_tabW spec_StoreOK.tab8 spec_StoreOK.bits8 (fun HT_ HW_ => ?_)
       generalize wr.drew = d5 at HB aR aS D I J M O hHeld ⊢
       refine pA 0 16 ?_
       refine pA 1 17 ?_
       refine pA 2 18 ?_
       refine tA 3 19 ?_
       refine oA 4 20 (fun K hK => ?_)
       refine goes_ func51 (Z18) rfl #[.agg #[.string ((rd_T98 l0 s).f0), .int .i64 ((rd_T98 l0 s).f1), .int .i64 ((rd_T98 l0 s).f2), .slice aI ((rd_T98 l0 s).f3).length aJ, .slice aK ((rd_T98 l0 s).f4).length aL]] (Z117) rfl rfl (Z2) ?_
       with_reducible refine (spec_BoxOK.calls k1 ((rd_T98 l0 s).f0) ((rd_T98 l0 s).f1) ((rd_T98 l0 s).f2) _ _ ((rd_T98 l0 s).f3) _ _ ((rd_T98 l0 s).f4) false _ ?Y1 ?Y2 ?Y3 ?Y4 A6.out).mono ?_
       (case Y1 => have h_ := Kd.C_below aR.out HB.out; exact tC)
       (case Y2 => exact bG.out)
       (case Y3 => have h_ := Kd.C_below aS.out HB.out; exact tC)
       (case Y4 => exact bH.out)
       rintro e d6 ⟨rfl, hb⟩
       refine ⟨_, rfl, ?_⟩
       replace HB := aM (below_step (Z0) hb)
       (try clear hb)
       refine hK.out _ _ ⟨(cB HB.out aH :), ⟨(cB HB.out aG :), ⟨(cB HB.out aF :), ⟨(cB HB.out aE :), (cB HB.out aD :)⟩⟩⟩⟩ (fun hHeld => ?_)
       clear hK K
       refine nB 20 ?_
       refine pA 5 21 ?_
       refine pA 6 22 ?_
       refine pU 7 23 ?_
       refine pU 8 24 ?_
       refine pU 9 25 ?_
       refine pU 10 26 ?_
       refine pU 11 27 ?_
       refine pU 12 28 ?_
       refine pU 13 29 ?_
       refine pU 14 30 ?_
       refine pA 15 31 ?_
       refine pA 16 32 ?_
       refine pU 17 33 ?_
       refine pU 18 34 ?_
       refine pU 19 35 ?_
       refine pU 20 36 ?_
       refine pU 21 37 ?_
       refine pU 22 38 ?_
       refine pU 23 39 ?_
       refine pU 24 40 ?_
       refine pU 25 41 ?_
       refine pU 26 42 ?_
       refine pA 27 43 ?_
       refine done_ (done_of HT_.out (Z18)) ?_
       try go_wp2
       go_ret
       exact ⟨Z1, Z0⟩
     ·rw [if_neg c4] at H
      have dD := decide_eq_false c4
      clear c4
      obtain rfl := oI H
      go_wp2
      go_ret
      exact ⟨Z1, Z0⟩
end Go.Proofs.YtifkmkiljpeaaacGreat.PFnExactWorldOK
