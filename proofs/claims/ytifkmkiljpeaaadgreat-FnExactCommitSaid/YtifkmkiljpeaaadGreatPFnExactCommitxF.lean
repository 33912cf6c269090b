import Derived.Test.YtifkmkiljpeaaadGreatPFnExactCommitxA
import Derived.Test.YtifkmkiljpeaaadGreatPFnExactCommitxJ
set_option maxHeartbeats 40000000
set_option maxRecDepth 100000
namespace Go.Proofs.YtifkmkiljpeaaadGreat.PFnExactCommit
open Go.RowKit Go.Proofs.YtifkmkiljpeaaadGreatW.PrintWords Go.Proofs.YtifkmkiljpeaaadGreatW.PrintLast Go.Proofs.YtifkmkiljpeaaadGreatW.PrintMore Go.Proofs.YtifkmkiljpeaaadGreat.Mac Go.Proofs.Tryz
set_option linter.unusedVariables false
set_option linter.unusedSimpArgs false
def laws_eqStored.f (s : Int) (y : Int) (D : ByteArray) (I : Int) (J : Int) (M : ByteArray) : Option (Bool) := if s = I then (if y = J then (if D.toList = M.toList then (some true) else (some false)) else (some false)) else (some false)
theorem laws_eqStored.calls (s : Int) (y : Int) (D : ByteArray) (I : Int) (J : Int) (M : ByteArray) (r : Bool) (w : World) (h : laws_eqStored.f s y D I J M = some r) :
  Calls prog 130 #[.agg #[.int .i64 s, .int .i64 y, .string D], .agg #[.int .i64 I, .int .i64 J, .string M]] w fun e w' => e = .returned (.bool r) /\ Below w.heap.size w w' := by
 have aI := underlying113
 have HB := aM (bi w.heap.size w)
 have H := h
 clear h
 unfold laws_eqStored.f at H
 by_cases c3 : s = I
 ·rw [if_pos c3] at H
  have aC := bf c3
  have aD := bc c3
  clear c3
  by_cases c4 : y = J
  ·rw [if_pos c4] at H
   have aE := bf c4
   have aF := bc c4
   clear c4
   by_cases c5 : D.toList = M.toList
   ·rw [if_pos c5] at H
    have aG := bf c5
    have aH := bc c5
    clear c5
    obtain rfl := oI H
    go_enter func130, ntmps130
    go_wp2_with (first | ((with_reducible refine gD 2 ?_); refine bxF w 2 #[.int .i64 s, .int .i64 y, .string D] 113 (Z0) ?_; intro Y hg w6 BK452 Z GE452 HB hb; clear hb hg) | ((with_reducible refine gD 3 ?_); refine bxF w 3 #[.int .i64 I, .int .i64 J, .string M] 113 (Z41) ?_; intro aA hg w7 O aB GE453 HB hb; have U := aM ((nL BK452 hg (Z65))); have X := aM ((nG BK452 hg (Z65))); replace BK452 := aM (kB BK452 (Z65) hb); clear hb hg; have aJ := U.out; have aK := X.out; refine bD3 BK452 ?_; intros; refine bD3 O ?_; intros))
    go_ret
    exact ⟨Z1, Z92⟩
   rw [if_neg c5] at H
   have aG := bb c5
   have aH := bg c5
   obtain rfl := oI H
   go_enter func130, ntmps130
   go_wp2_with (first | ((with_reducible refine gD 2 ?_); refine bxF w 2 #[.int .i64 s, .int .i64 y, .string D] 113 (Z0) ?_; intro Y hg aL BK452 Z GE452 HB hb; clear hb hg) | ((with_reducible refine gD 3 ?_); refine bxF w 3 #[.int .i64 I, .int .i64 J, .string M] 113 (Z41) ?_; intro aA hg aN O aB GE453 HB hb; have U := aM ((nL BK452 hg (Z65))); have X := aM ((nG BK452 hg (Z65))); replace BK452 := aM (kB BK452 (Z65) hb); clear hb hg; have aO := U.out; have aP := X.out; refine bD3 BK452 ?_; intros; refine bD3 O ?_; intros))
   go_ret
   exact ⟨Z1, Z92⟩
  rw [if_neg c4] at H
  have aE := bb c4
  have aF := bg c4
  obtain rfl := oI H
  go_enter func130, ntmps130
  go_wp2_with (first | ((with_reducible refine gD 2 ?_); refine bxF w 2 #[.int .i64 s, .int .i64 y, .string D] 113 (Z0) ?_; intro Y hg aQ BK452 Z GE452 HB hb; clear hb hg) | ((with_reducible refine gD 3 ?_); refine bxF w 3 #[.int .i64 I, .int .i64 J, .string M] 113 (Z41) ?_; intro aA hg aR O aB GE453 HB hb; have U := aM ((nL BK452 hg (Z65))); have X := aM ((nG BK452 hg (Z65))); replace BK452 := aM (kB BK452 (Z65) hb); clear hb hg; have aS := U.out; have aT := X.out; refine bD3 BK452 ?_; intros; refine bD3 O ?_; intros))
  go_ret
  exact ⟨Z1, Z92⟩
 rw [if_neg c3] at H
 have aC := bb c3
 have aD := bg c3
 obtain rfl := oI H
 go_enter func130, ntmps130
 go_wp2_with (first | ((with_reducible refine gD 2 ?_); refine bxF w 2 #[.int .i64 s, .int .i64 y, .string D] 113 (Z0) ?_; intro Y hg aU BK452 Z GE452 HB hb; clear hb hg) | ((with_reducible refine gD 3 ?_); refine bxF w 3 #[.int .i64 I, .int .i64 J, .string M] 113 (Z41) ?_; intro aA hg aV O aB GE453 HB hb; have U := aM ((nL BK452 hg (Z65))); have X := aM ((nG BK452 hg (Z65))); replace BK452 := aM (kB BK452 (Z65) hb); clear hb hg; have aW := U.out; have aX := X.out; refine bD3 BK452 ?_; intros; refine bD3 O ?_; intros))
 go_ret
 exact ⟨Z1, Z92⟩
def cv.l0 : Nat -> List (S113) -> List (S113) -> Int -> Option (Bool)
 | 0, _, _, _ => none
 | k + 1, x0, x1, x5 => if x5 < (x0.length : Int) then (if 0 <= x5 then (if x5 < (x1.length : Int) then ((laws_eqStored.f ((ar x0 x5).f0) ((ar x0 x5).f1) ((ar x0 x5).f2) ((ar x1 x5).f0) ((ar x1 x5).f1) ((ar x1 x5).f2)).bind fun s => (if s = true then (cv.l0 k x0 x1 (wrap64 (x5 + 1))) else (some false))) else (none)) else (none)) else (some true)
def cv.f (k : Nat) (l0 : List (S113)) (l1 : List (S113)) : Option (Bool) := if (l0.length : Int) = (l1.length : Int) then (cv.l0 k l0 l1 0) else (some false)
def cv.T6 : Bool × List (List Nat × List Nat) := (true, [([], []), ([], []), ([0, 1], [0, 1]), ([2], [2]), ([], []), ([], []), ([4, 5], [4, 5]), ([6], [6]), ([3, 7], [3, 7]), ([8], [8])])
def cv.B6 : List Nat := [0, 0, 3, 7, 0, 0, 48, 112, 255, 511]
theorem cv.tab6 : rtab .any (opsOf Tryz.f106 6) = cv.T6 := by kernel_rfl
theorem cv.bits6 : waitsOk cv.T6.2 cv.B6 = true := by kernel_rfl
theorem cv.calls (k : Nat) (A0 : Option Addr) (c0 : Nat) (l0 : List (S113)) (A1 : Option Addr) (c1 : Nat) (l1 : List (S113)) (r : Bool) (w : World) (hr0 : Kd.C k113 w A0 l0.length l0) (aN : l0.length <= c0) (aF : Kd.C k113 w A1 l1.length l1) (aO : l1.length <= c1) (h : cv.f k l0 l1 = some r) :
  Calls prog 106 #[.slice A0 l0.length c0, .slice A1 l1.length c1] w fun e w' => e = .returned (.bool r) /\ Below w.heap.size w w' := by
 have aX := underlying113
 replace hr0 := aM hr0
 replace aN := aM aN
 replace aF := aM aF
 replace aO := aM aO
 have HB := aM (bi w.heap.size w)
 have H := h
 clear h
 unfold cv.f at H
 by_cases c3 : (l0.length : Int) = (l1.length : Int)
 ·rw [if_pos c3] at H
  have aP := bf c3
  have aQ := bc c3
  have aR : (l0.length == l1.length) = true := by first | simpa using c3 | (simp at c3 ⊢; omega)
  clear c3
  have H' := aM H
  clear H
  go_enter func106, ntmps106
  go_wp2
  go_loopg [5] k (fun kq v5 w' => ∃ (x5_1 : Int), v5 = .int .i64 x5_1 /\ ap (cv.l0 kq l0 l1 x5_1 = some r) /\ ap (kq <= k) /\ ap (Below w.heap.size w w'))
  case atStart => exact ⟨(0), (Z3), H', ⟨bj _⟩, ⟨Z0⟩⟩
  case round =>
   clear H'
   (try clear c1); (try clear c3); (try clear aP); (try clear aQ); (try clear aR)
   obtain ⟨x5_1, rfl, HA, HK1, HB⟩ := hrel
   cases gk with
   | zero => exact absurd HA.out (by simp [cv.l0])
   | succ k1 =>
    have H := HA.out
    clear HA
    simp only [cv.l0] at H
    by_cases c4 : x5_1 < (l0.length : Int)
    ·rw [if_pos c4] at H
     have aV := az c4
     clear c4
     obtain ⟨c5, H⟩ := ifS H
     have aY := az c5
     clear c5
     obtain ⟨c6, H⟩ := ifS H
     have aZ := az c6
     clear c6
     obtain ⟨aW, A7, H⟩ := cz H
     try dsimp only at H
     by_cases c8 : aW = true
     ·subst c8
      replace H := ifT H
      have H' := aM H
      clear H
      try go_wp2
      replace HB := aM (ac HB.out)
      have O : 0 <= (x5_1 : Int) := dT (Z4)
      have U : x5_1 < (l0.length : Int) := dT (Z4)
      obtain ⟨aG, aH, s, y, D⟩ := ed hr0.out x5_1 O U
      have Z := D
      have aA := y
      have aB := s
      cases aH
      replace s := cB HB.out s
      replace y := cB HB.out y
      replace D := cB HB.out D
      replace O := bh O
      replace U := bh U
      have X : 0 <= (x5_1 : Int) := dT (Z4)
      have Y : x5_1 < (l1.length : Int) := dT (Z4)
      obtain ⟨aI, aJ, I, J, M⟩ := ed aF.out x5_1 X Y
      have aC := M
      have aD := J
      have aE := I
      cases aJ
      replace I := cB HB.out I
      replace J := cB HB.out J
      replace M := cB HB.out M
      replace X := bh X
      replace Y := bh Y
      refine fe (n := 10) (S := fun w' => Qa3 (aG.add ((x5_1).toNat * 3)) (.int .i64 ((ar l0 x5_1).f0)) (.int .i64 ((ar l0 x5_1).f1)) (.string ((ar l0 x5_1).f2)) (qa3 (aI.add ((x5_1).toNat * 3)) (.int .i64 ((ar l1 x5_1).f0)) (.int .i64 ((ar l1 x5_1).f1)) (.string ((ar l1 x5_1).f2)) w') w') (ds := []) #[false, false, false, false, false, false, false, false, false, false] (Z16) rfl rfl ⟨(cB HB.out aB :), ⟨(cB HB.out aA :), ⟨(cB HB.out Z :), ⟨(cB HB.out aE :), ⟨(cB HB.out aD :), (cB HB.out aC :)⟩⟩⟩⟩⟩ (fun hHeld => ?_); refine df cv.tab6 cv.bits6 (fun HT_ HW_ => ?_)
      generalize wr.drew = w9 at HB s y D I J M hHeld ⊢
      refine pA 0 17 ?_
      refine pA 1 18 ?_
      refine pA 2 19 ?_
      refine pA 4 21 ?_
      refine pA 5 22 ?_
      refine pA 6 23 ?_
      refine tA 3 20 ?_
      refine tA 7 24 ?_
      refine oA 8 25 (fun K hK => ?_)
      refine fl func130 (Z16) rfl #[.agg #[.int .i64 ((ar l0 x5_1).f0), .int .i64 ((ar l0 x5_1).f1), .string ((ar l0 x5_1).f2)], .agg #[.int .i64 ((ar l1 x5_1).f0), .int .i64 ((ar l1 x5_1).f1), .string ((ar l1 x5_1).f2)]] (Z96) rfl rfl (Z2) ?_
      with_reducible refine (laws_eqStored.calls ((ar l0 x5_1).f0) ((ar l0 x5_1).f1) ((ar l0 x5_1).f2) ((ar l1 x5_1).f0) ((ar l1 x5_1).f1) ((ar l1 x5_1).f2) true _ A7.out).mono ?_
      rintro e a3 ⟨rfl, hb⟩
      refine ⟨_, rfl, ?_⟩
      replace HB := aM (ae (Z0) hb)
      (try clear hb)
      refine hK.out _ _ ⟨(cB HB.out aB :), ⟨(cB HB.out aA :), ⟨(cB HB.out Z :), ⟨(cB HB.out aE :), ⟨(cB HB.out aD :), (cB HB.out aC :)⟩⟩⟩⟩⟩ (fun hHeld => ?_)
      clear hK K
      refine nB 25 ?_
      refine pA 9 26 ?_
      refine gh (ei HT_.out (Z16)) ?_
      try go_wp2
      go_roundg k1
      case measure => have := HK1.out; omega
      case rel => exact ⟨(wrap64 (x5_1 + 1)), (Z3), H', ⟨Z85⟩, ⟨Z0⟩⟩
     replace c8 := be c8
     subst c8
     replace H := ifF H
     obtain rfl := oI H
     try go_wp2
     replace HB := aM (ac HB.out)
     have O : 0 <= (x5_1 : Int) := dT (Z4)
     have U : x5_1 < (l0.length : Int) := dT (Z4)
     obtain ⟨aG, aH, s, y, D⟩ := ed hr0.out x5_1 O U
     have Z := D
     have aA := y
     have aB := s
     cases aH
     replace s := cB HB.out s
     replace y := cB HB.out y
     replace D := cB HB.out D
     replace O := bh O
     replace U := bh U
     have X : 0 <= (x5_1 : Int) := dT (Z4)
     have Y : x5_1 < (l1.length : Int) := dT (Z4)
     obtain ⟨aI, aJ, I, J, M⟩ := ed aF.out x5_1 X Y
     have aC := M
     have aD := J
     have aE := I
     cases aJ
     replace I := cB HB.out I
     replace J := cB HB.out J
     replace M := cB HB.out M
     replace X := bh X
     replace Y := bh Y
     refine fe (n := 10) (S := fun w' => Qa3 (aG.add ((x5_1).toNat * 3)) (.int .i64 ((ar l0 x5_1).f0)) (.int .i64 ((ar l0 x5_1).f1)) (.string ((ar l0 x5_1).f2)) (qa3 (aI.add ((x5_1).toNat * 3)) (.int .i64 ((ar l1 x5_1).f0)) (.int .i64 ((ar l1 x5_1).f1)) (.string ((ar l1 x5_1).f2)) w') w') (ds := []) #[false, false, false, false, false, false, false, false, false, false] (Z16) rfl rfl ⟨(cB HB.out aB :), ⟨(cB HB.out aA :), ⟨(cB HB.out Z :), ⟨(cB HB.out aE :), ⟨(cB HB.out aD :), (cB HB.out aC :)⟩⟩⟩⟩⟩ (fun hHeld => ?_); refine df cv.tab6 cv.bits6 (fun HT_ HW_ => ?_)
     generalize wr.drew = a5 at HB s y D I J M hHeld ⊢
     refine pA 0 17 ?_
     refine pA 1 18 ?_
     refine pA 2 19 ?_
     refine pA 4 21 ?_
     refine pA 5 22 ?_
     refine pA 6 23 ?_
     refine tA 3 20 ?_
     refine tA 7 24 ?_
     refine oA 8 25 (fun K hK => ?_)
     refine fl func130 (Z16) rfl #[.agg #[.int .i64 ((ar l0 x5_1).f0), .int .i64 ((ar l0 x5_1).f1), .string ((ar l0 x5_1).f2)], .agg #[.int .i64 ((ar l1 x5_1).f0), .int .i64 ((ar l1 x5_1).f1), .string ((ar l1 x5_1).f2)]] (Z96) rfl rfl (Z2) ?_
     with_reducible refine (laws_eqStored.calls ((ar l0 x5_1).f0) ((ar l0 x5_1).f1) ((ar l0 x5_1).f2) ((ar l1 x5_1).f0) ((ar l1 x5_1).f1) ((ar l1 x5_1).f2) false _ A7.out).mono ?_
     rintro e a6 ⟨rfl, hb⟩
     refine ⟨_, rfl, ?_⟩
     replace HB := aM (ae (Z0) hb)
     (try clear hb)
     refine hK.out _ _ ⟨(cB HB.out aB :), ⟨(cB HB.out aA :), ⟨(cB HB.out Z :), ⟨(cB HB.out aE :), ⟨(cB HB.out aD :), (cB HB.out aC :)⟩⟩⟩⟩⟩ (fun hHeld => ?_)
     clear hK K
     refine nB 25 ?_
     refine pA 9 26 ?_
     refine gh (ei HT_.out (Z16)) ?_
     try go_wp2
     go_ret
     exact ⟨Z1, Z0⟩
    rw [if_neg c4] at H
    have aV := ba c4
    clear c4
    obtain rfl := oI H
    go_wp2
    go_ret
    exact ⟨Z1, Z0⟩
 rw [if_neg c3] at H
 have aP := bb c3
 have aQ := bg c3
 have aR : (l0.length == l1.length) = false := by first | simpa using c3 | (simp at c3 ⊢; omega)
 obtain rfl := oI H
 go_enter func106, ntmps106
 go_wp2
 go_ret
 exact ⟨Z1, Z0⟩
def ec.l0 : Nat -> List ByteArray -> List ByteArray -> Int -> Option (Bool)
 | 0, _, _, _ => none
 | k + 1, x0, x1, x5 => if x5 < (x0.length : Int) then (if 0 <= x5 then (if x5 < (x1.length : Int) then (if (gb ByteArray.empty x0 x5).toList = (gb ByteArray.empty x1 x5).toList then (ec.l0 k x0 x1 (wrap64 (x5 + 1))) else (some false)) else (none)) else (none)) else (some true)
def ec.f (k : Nat) (l0 : List ByteArray) (l1 : List ByteArray) : Option (Bool) := if (l0.length : Int) = (l1.length : Int) then (ec.l0 k l0 l1 0) else (some false)
theorem ec.calls (k : Nat) (U : Option Addr) (c0 : Nat) (l0 : List ByteArray) (X : Option Addr) (c1 : Nat) (l1 : List ByteArray) (r : Bool) (w : World) (hr0 : Kd.C Kd.string w U l0.length l0) (Y : l0.length <= c0) (J : Kd.C Kd.string w X l1.length l1) (Z : l1.length <= c1) (h : ec.f k l0 l1 = some r) :
  Calls prog 107 #[.slice U l0.length c0, .slice X l1.length c1] w fun e w' => e = .returned (.bool r) /\ ew w w' := by
 replace hr0 := aM hr0
 replace Y := aM Y
 replace J := aM J
 replace Z := aM Z
 have H := h
 clear h
 unfold ec.f at H
 by_cases c3 : (l0.length : Int) = (l1.length : Int)
 ·rw [if_pos c3] at H
  have aA := bf c3
  have aB := bc c3
  have aC : (l0.length == l1.length) = true := by first | simpa using c3 | (simp at c3 ⊢; omega)
  clear c3
  have H' := aM H
  clear H
  go_enter func107, ntmps107
  go_wp2
  repeat (go_quiet (fail); try go_wp2)
  go_loopg [5] k (fun kq v5 w' => ∃ (x5_1 : Int), v5 = .int .i64 x5_1 /\ ap (ec.l0 kq l0 l1 x5_1 = some r) /\ ap (kq <= k) /\ ew w w')
  case atStart => exact ⟨(0), (Z3), H', ⟨bj _⟩, Z12⟩
  case round =>
   clear H'
   (try clear c1); (try clear c3); (try clear aA); (try clear aB); (try clear aC)
   obtain ⟨x5_1, rfl, HA, HK1, ⟨m1, rfl⟩⟩ := hrel
   cases gk with
   | zero => exact absurd HA.out (by simp [ec.l0])
   | succ k1 =>
    have H := HA.out
    clear HA
    simp only [ec.l0] at H
    by_cases c4 : x5_1 < (l0.length : Int)
    ·rw [if_pos c4] at H
     have aF := az c4
     clear c4
     obtain ⟨c5, H⟩ := ifS H
     have aN := az c5
     clear c5
     obtain ⟨c6, H⟩ := ifS H
     have aO := az c6
     clear c6
     by_cases c7 : (gb ByteArray.empty l0 x5_1).toList = (gb ByteArray.empty l1 x5_1).toList
     ·rw [if_pos c7] at H
      have aG := bf c7
      have aH := bc c7
      clear c7
      have H' := aM H
      clear H
      have s : 0 <= (x5_1 : Int) := dT (Z4)
      have y : x5_1 < (l0.length : Int) := dT (Z4)
      obtain ⟨aI, M, aJ⟩ := Kd.at_string hr0.out x5_1 s y
      cases M
      replace s := bh s
      replace y := bh y
      have D : 0 <= (x5_1 : Int) := dT (Z4)
      have I : x5_1 < (l1.length : Int) := dT (Z4)
      obtain ⟨aK, O, aL⟩ := Kd.at_string J.out x5_1 D I
      cases O
      replace D := bh D
      replace I := bh I
      go_wp2
      repeat (go_quiet (fail); try go_wp2)
      go_roundg k1
      case measure => have := HK1.out; omega
      case rel => exact ⟨(wrap64 (x5_1 + 1)), (Z3), H', ⟨Z85⟩, Z12⟩
     rw [if_neg c7] at H
     have aG := bb c7
     have aH := bg c7
     obtain rfl := oI H
     have s : 0 <= (x5_1 : Int) := dT (Z4)
     have y : x5_1 < (l0.length : Int) := dT (Z4)
     obtain ⟨aI, M, aJ⟩ := Kd.at_string hr0.out x5_1 s y
     cases M
     replace s := bh s
     replace y := bh y
     have D : 0 <= (x5_1 : Int) := dT (Z4)
     have I : x5_1 < (l1.length : Int) := dT (Z4)
     obtain ⟨aK, O, aL⟩ := Kd.at_string J.out x5_1 D I
     cases O
     replace D := bh D
     replace I := bh I
     go_wp2
     repeat (go_quiet (fail); try go_wp2)
     go_ret
     exact ⟨Z3, Z12⟩
    rw [if_neg c4] at H
    have aF := ba c4
    clear c4
    obtain rfl := oI H
    go_wp2
    repeat (go_quiet (fail); try go_wp2)
    go_ret
    exact ⟨Z3, Z12⟩
 rw [if_neg c3] at H
 have aA := bb c3
 have aB := bg c3
 have aC : (l0.length == l1.length) = false := by first | simpa using c3 | (simp at c3 ⊢; omega)
 obtain rfl := oI H
 go_enter func107, ntmps107
 go_wp2
 repeat (go_quiet (fail); try go_wp2)
 go_ret
 exact ⟨Z3, Z12⟩
def laws_eqBox.f (k : Nat) (s : ByteArray) (y : Int) (D : Int) (l0_3 : List (S113)) (I : List ByteArray) (J : ByteArray) (M : Int) (O : Int) (U : List (S113)) (X : List ByteArray) : Option (Bool) := if s.toList = J.toList then (if y = M then (if D = O then ((cv.f k l0_3 U).bind fun Y => (if Y = true then ((ec.f k I X).bind fun Z => (if Z = true then (some true) else (some false))) else (some false))) else (some false)) else (some false)) else (some false)
theorem laws_eqBox.calls (k : Nat) (aC : ByteArray) (aD : Int) (aE : Int) (I : Option Addr) (J : Nat) (l0_3 : List (S113)) (Y : Option Addr) (Z : Nat) (y : List ByteArray) (aF : ByteArray) (aG : Int) (aH : Int) (M : Option Addr) (O : Nat) (s : List (S113)) (aA : Option Addr) (aB : Nat) (D : List ByteArray) (r : Bool) (w : World) (aI : Kd.C k113 w I l0_3.length l0_3) (aJ : l0_3.length <= J) (aR : Kd.C Kd.string w Y y.length y) (aS : y.length <= Z) (aK : Kd.C k113 w M s.length s) (aL : s.length <= O) (aT : Kd.C Kd.string w aA D.length D) (aU : D.length <= aB) (h : laws_eqBox.f k aC aD aE l0_3 y aF aG aH s D = some r) :
  Calls prog 60 #[.agg #[.string aC, .int .i64 aD, .int .i64 aE, .slice I l0_3.length J, .slice Y y.length Z], .agg #[.string aF, .int .i64 aG, .int .i64 aH, .slice M s.length O, .slice aA D.length aB]] w fun e w' => e = .returned (.bool r) /\ Below w.heap.size w w' := by
 have a8 := underlying82
 replace aI := aM aI
 replace aJ := aM aJ
 replace aR := aM aR
 replace aS := aM aS
 replace aK := aM aK
 replace aL := aM aL
 replace aT := aM aT
 replace aU := aM aU
 have HB := aM (bi w.heap.size w)
 have H := h
 clear h
 unfold laws_eqBox.f at H
 by_cases c3 : aC.toList = aF.toList
 ·rw [if_pos c3] at H
  have aX := bf c3
  have aY := bc c3
  clear c3
  by_cases c4 : aD = aG
  ·rw [if_pos c4] at H
   have aZ := bf c4
   have a2 := bc c4
   clear c4
   by_cases c5 : aE = aH
   ·rw [if_pos c5] at H
    have a3 := bf c5
    have a5 := bc c5
    clear c5
    obtain ⟨a6, A6, H⟩ := cz H
    try dsimp only at H
    by_cases c7 : a6 = true
    ·subst c7
     replace H := ifT H
     obtain ⟨a7, A8, H⟩ := cz H
     try dsimp only at H
     by_cases c9 : a7 = true
     ·subst c9
      replace H := ifT H
      obtain rfl := oI H
      go_enter func60, ntmps60
      go_wp2_with (first | ((with_reducible refine gD 2 ?_); refine bxF w 2 #[.string aC, .int .i64 aD, .int .i64 aE, .slice I l0_3.length J, .slice Y y.length Z] 82 (Z0) ?_; intro aN hg a9 BK459 aO GE459 HB hb; clear hb hg) | ((with_reducible refine gD 3 ?_); refine bxF w 3 #[.string aF, .int .i64 aG, .int .i64 aH, .slice M s.length O, .slice aA D.length aB] 82 (Z29) ?_; intro aP hg bA BK460 aQ GE460 HB hb; have U := aM ((nL BK459 hg (Z36))); have X := aM ((nG BK459 hg (Z36))); replace BK459 := aM (kB BK459 (Z36) hb); clear hb hg; have bB := U.out; have bC := X.out; refine bD5 BK459 ?_; intros; refine bD5 BK460 ?_; intros) | ((with_reducible refine gC 106 ?_); refine gL 24 func106 #[.slice I l0_3.length J, .slice M s.length O] ?_; (with_reducible refine (cv.calls k _ _ l0_3 _ _ s true _ ?Y1 ?Y2 ?Y3 ?Y4 A6.out).mono ?_); (case Y1 => have h_ := Kd.C_below aI.out HB.out; exact tC); (case Y2 => exact aJ.out); (case Y3 => have h_ := Kd.C_below aK.out HB.out; exact tC); (case Y4 => exact aL.out); rintro e bD ⟨rfl, hb⟩; refine ⟨_, rfl, ?_⟩; replace BK459 := aM (kB BK459 (Z36) hb); replace BK460 := aM (kB BK460 (Z183) hb); replace HB := aM (ae (Z49) hb); (try clear hb); refine bD5 BK459 ?_; intros; refine bD5 BK460 ?_; intros) | ((with_reducible refine gC 107 ?_); refine gL 30 func107 #[.slice Y y.length Z, .slice aA D.length aB] ?_; (with_reducible refine (ec.calls k _ _ y _ _ D true _ ?Y1 ?Y2 ?Y3 ?Y4 A8.out).mono ?_); (case Y1 => have h_ := Kd.C_below aR.out HB.out; exact tC); (case Y2 => exact aS.out); (case Y3 => have h_ := Kd.C_below aT.out HB.out; exact tC); (case Y4 => exact aU.out); rintro e w' ⟨rfl, ⟨nd, rfl⟩⟩; refine ⟨_, rfl, ?_⟩))
      go_ret
      exact ⟨Z1, Z49⟩
     replace c9 := be c9
     subst c9
     replace H := ifF H
     obtain rfl := oI H
     go_enter func60, ntmps60
     go_wp2_with (first | ((with_reducible refine gD 2 ?_); refine bxF w 2 #[.string aC, .int .i64 aD, .int .i64 aE, .slice I l0_3.length J, .slice Y y.length Z] 82 (Z0) ?_; intro aN hg bE BK459 aO GE459 HB hb; clear hb hg) | ((with_reducible refine gD 3 ?_); refine bxF w 3 #[.string aF, .int .i64 aG, .int .i64 aH, .slice M s.length O, .slice aA D.length aB] 82 (Z29) ?_; intro aP hg bF BK460 aQ GE460 HB hb; have U := aM ((nL BK459 hg (Z36))); have X := aM ((nG BK459 hg (Z36))); replace BK459 := aM (kB BK459 (Z36) hb); clear hb hg; have bG := U.out; have bH := X.out; refine bD5 BK459 ?_; intros; refine bD5 BK460 ?_; intros) | ((with_reducible refine gC 106 ?_); refine gL 24 func106 #[.slice I l0_3.length J, .slice M s.length O] ?_; (with_reducible refine (cv.calls k _ _ l0_3 _ _ s true _ ?Y1 ?Y2 ?Y3 ?Y4 A6.out).mono ?_); (case Y1 => have h_ := Kd.C_below aI.out HB.out; exact tC); (case Y2 => exact aJ.out); (case Y3 => have h_ := Kd.C_below aK.out HB.out; exact tC); (case Y4 => exact aL.out); rintro e bI ⟨rfl, hb⟩; refine ⟨_, rfl, ?_⟩; replace BK459 := aM (kB BK459 (Z36) hb); replace BK460 := aM (kB BK460 (Z183) hb); replace HB := aM (ae (Z49) hb); (try clear hb); refine bD5 BK459 ?_; intros; refine bD5 BK460 ?_; intros) | ((with_reducible refine gC 107 ?_); refine gL 30 func107 #[.slice Y y.length Z, .slice aA D.length aB] ?_; (with_reducible refine (ec.calls k _ _ y _ _ D false _ ?Y1 ?Y2 ?Y3 ?Y4 A8.out).mono ?_); (case Y1 => have h_ := Kd.C_below aR.out HB.out; exact tC); (case Y2 => exact aS.out); (case Y3 => have h_ := Kd.C_below aT.out HB.out; exact tC); (case Y4 => exact aU.out); rintro e w' ⟨rfl, ⟨nd, rfl⟩⟩; refine ⟨_, rfl, ?_⟩))
     go_ret
     exact ⟨Z1, Z49⟩
    replace c7 := be c7
    subst c7
    replace H := ifF H
    obtain rfl := oI H
    go_enter func60, ntmps60
    go_wp2_with (first | ((with_reducible refine gD 2 ?_); refine bxF w 2 #[.string aC, .int .i64 aD, .int .i64 aE, .slice I l0_3.length J, .slice Y y.length Z] 82 (Z0) ?_; intro aN hg bJ BK459 aO GE459 HB hb; clear hb hg) | ((with_reducible refine gD 3 ?_); refine bxF w 3 #[.string aF, .int .i64 aG, .int .i64 aH, .slice M s.length O, .slice aA D.length aB] 82 (Z29) ?_; intro aP hg bK BK460 aQ GE460 HB hb; have U := aM ((nL BK459 hg (Z36))); have X := aM ((nG BK459 hg (Z36))); replace BK459 := aM (kB BK459 (Z36) hb); clear hb hg; have bL := U.out; have bM := X.out; refine bD5 BK459 ?_; intros; refine bD5 BK460 ?_; intros) | ((with_reducible refine gC 106 ?_); refine gL 24 func106 #[.slice I l0_3.length J, .slice M s.length O] ?_; (with_reducible refine (cv.calls k _ _ l0_3 _ _ s false _ ?Y1 ?Y2 ?Y3 ?Y4 A6.out).mono ?_); (case Y1 => have h_ := Kd.C_below aI.out HB.out; exact tC); (case Y2 => exact aJ.out); (case Y3 => have h_ := Kd.C_below aK.out HB.out; exact tC); (case Y4 => exact aL.out); rintro e bN ⟨rfl, hb⟩; refine ⟨_, rfl, ?_⟩; replace BK459 := aM (kB BK459 (Z36) hb); replace BK460 := aM (kB BK460 (Z183) hb); replace HB := aM (ae (Z49) hb); (try clear hb)))
    go_ret
    exact ⟨Z1, Z49⟩
   rw [if_neg c5] at H
   have a3 := bb c5
   have a5 := bg c5
   obtain rfl := oI H
   go_enter func60, ntmps60
   go_wp2_with (first | ((with_reducible refine gD 2 ?_); refine bxF w 2 #[.string aC, .int .i64 aD, .int .i64 aE, .slice I l0_3.length J, .slice Y y.length Z] 82 (Z0) ?_; intro aN hg bO BK459 aO GE459 HB hb; clear hb hg) | ((with_reducible refine gD 3 ?_); refine bxF w 3 #[.string aF, .int .i64 aG, .int .i64 aH, .slice M s.length O, .slice aA D.length aB] 82 (Z29) ?_; intro aP hg bP BK460 aQ GE460 HB hb; have U := aM ((nL BK459 hg (Z36))); have X := aM ((nG BK459 hg (Z36))); replace BK459 := aM (kB BK459 (Z36) hb); clear hb hg; have bQ := U.out; have bR := X.out; refine bD5 BK459 ?_; intros; refine bD5 BK460 ?_; intros))
   go_ret
   exact ⟨Z1, Z49⟩
  rw [if_neg c4] at H
  have aZ := bb c4
  have a2 := bg c4
  obtain rfl := oI H
  go_enter func60, ntmps60
  go_wp2_with (first | ((with_reducible refine gD 2 ?_); refine bxF w 2 #[.string aC, .int .i64 aD, .int .i64 aE, .slice I l0_3.length J, .slice Y y.length Z] 82 (Z0) ?_; intro aN hg bS BK459 aO GE459 HB hb; clear hb hg) | ((with_reducible refine gD 3 ?_); refine bxF w 3 #[.string aF, .int .i64 aG, .int .i64 aH, .slice M s.length O, .slice aA D.length aB] 82 (Z29) ?_; intro aP hg bT BK460 aQ GE460 HB hb; have U := aM ((nL BK459 hg (Z36))); have X := aM ((nG BK459 hg (Z36))); replace BK459 := aM (kB BK459 (Z36) hb); clear hb hg; have bU := U.out; have bV := X.out; refine bD5 BK459 ?_; intros; refine bD5 BK460 ?_; intros))
  go_ret
  exact ⟨Z1, Z49⟩
 rw [if_neg c3] at H
 have aX := bb c3
 have aY := bg c3
 obtain rfl := oI H
 go_enter func60, ntmps60
 go_wp2_with (first | ((with_reducible refine gD 2 ?_); refine bxF w 2 #[.string aC, .int .i64 aD, .int .i64 aE, .slice I l0_3.length J, .slice Y y.length Z] 82 (Z0) ?_; intro aN hg bW BK459 aO GE459 HB hb; clear hb hg) | ((with_reducible refine gD 3 ?_); refine bxF w 3 #[.string aF, .int .i64 aG, .int .i64 aH, .slice M s.length O, .slice aA D.length aB] 82 (Z29) ?_; intro aP hg bX BK460 aQ GE460 HB hb; have U := aM ((nL BK459 hg (Z36))); have X := aM ((nG BK459 hg (Z36))); replace BK459 := aM (kB BK459 (Z36) hb); clear hb hg; have bY := U.out; have bZ := X.out; refine bD5 BK459 ?_; intros; refine bD5 BK460 ?_; intros))
 go_ret
 exact ⟨Z1, Z49⟩
def dp.l0 : Nat -> List (S82) -> List (S82) -> Int -> Option (Bool)
 | 0, _, _, _ => none
 | k + 1, x0, x1, x5 => if x5 < (x0.length : Int) then (if 0 <= x5 then (if x5 < (x1.length : Int) then ((laws_eqBox.f k ((ax x0 x5).f0) ((ax x0 x5).f1) ((ax x0 x5).f2) ((ax x0 x5).f3) ((ax x0 x5).f4) ((ax x1 x5).f0) ((ax x1 x5).f1) ((ax x1 x5).f2) ((ax x1 x5).f3) ((ax x1 x5).f4)).bind fun s => (if s = true then (dp.l0 k x0 x1 (wrap64 (x5 + 1))) else (some false))) else (none)) else (none)) else (some true)
def dp.f (k : Nat) (l0 : List (S82)) (l1 : List (S82)) : Option (Bool) := if (l0.length : Int) = (l1.length : Int) then (dp.l0 k l0 l1 0) else (some false)
def dp.T6 : Bool × List (List Nat × List Nat) := (true, [([], []), ([], []), ([0, 1], [0, 1]), ([2], [2]), ([], []), ([], []), ([4, 5], [4, 5]), ([6], [6]), ([3, 7], [3, 7]), ([8], [8])])
def dp.B6 : List Nat := [0, 0, 3, 7, 0, 0, 48, 112, 255, 511]
theorem dp.tab6 : rtab .any (opsOf Tryz.f29 6) = dp.T6 := by kernel_rfl
theorem dp.bits6 : waitsOk dp.T6.2 dp.B6 = true := by kernel_rfl
theorem dp.calls (k : Nat) (A0 : Option Addr) (c0 : Nat) (l0 : List (S82)) (A1 : Option Addr) (c1 : Nat) (l1 : List (S82)) (r : Bool) (w : World) (hr0 : Kd.C k82 w A0 l0.length l0) (bN : l0.length <= c0) (bB : Kd.C k82 w A1 l1.length l1) (bO : l1.length <= c1) (h : dp.f k l0 l1 = some r) :
  Calls prog 29 #[.slice A0 l0.length c0, .slice A1 l1.length c1] w fun e w' => e = .returned (.bool r) /\ Below w.heap.size w w' := by
 have bW := underlying82
 replace hr0 := aM hr0
 replace bN := aM bN
 replace bB := aM bB
 replace bO := aM bO
 have HB := aM (bi w.heap.size w)
 have H := h
 clear h
 unfold dp.f at H
 by_cases c3 : (l0.length : Int) = (l1.length : Int)
 ·rw [if_pos c3] at H
  have bP := bf c3
  have bQ := bc c3
  have bR : (l0.length == l1.length) = true := by first | simpa using c3 | (simp at c3 ⊢; omega)
  clear c3
  have H' := aM H
  clear H
  go_enter func29, ntmps29
  go_wp2
  go_loopg [5] k (fun kq v5 w' => ∃ (x5_1 : Int), v5 = .int .i64 x5_1 /\ ap (dp.l0 kq l0 l1 x5_1 = some r) /\ ap (kq <= k) /\ ap (Below w.heap.size w w'))
  case atStart => exact ⟨(0), (Z3), H', ⟨bj _⟩, ⟨Z0⟩⟩
  case round =>
   clear H'
   (try clear c1); (try clear c3); (try clear bP); (try clear bQ); (try clear bR)
   obtain ⟨x5_1, rfl, HA, HK1, HB⟩ := hrel
   cases gk with
   | zero => exact absurd HA.out (by simp [dp.l0])
   | succ k1 =>
    have H := HA.out
    clear HA
    simp only [dp.l0] at H
    by_cases c4 : x5_1 < (l0.length : Int)
    ·rw [if_pos c4] at H
     have bU := az c4
     clear c4
     obtain ⟨c5, H⟩ := ifS H
     have bX := az c5
     clear c5
     obtain ⟨c6, H⟩ := ifS H
     have bY := az c6
     clear c6
     obtain ⟨bV, A7, H⟩ := cz H
     try dsimp only at H
     by_cases c8 : bV = true
     ·subst c8
      replace H := ifT H
      have H' := aM H
      clear H
      try go_wp2
      replace HB := aM (ac HB.out)
      have Z : 0 <= (x5_1 : Int) := dT (Z4)
      have aA : x5_1 < (l0.length : Int) := dT (Z4)
      obtain ⟨bD, aD, aE, aF, aG, bE, s, y, D, I, J, aH, aI, aJ, aK⟩ := em hr0.out x5_1 Z aA
      have aL := J
      have aN := I
      have aO := D
      have aP := y
      have aQ := s
      cases bE
      replace s := cB HB.out s
      replace y := cB HB.out y
      replace D := cB HB.out D
      replace I := cB HB.out I
      replace J := cB HB.out J
      have aR := aM aI
      have bF := aM aH
      clear aI aH
      have aS := aM aK
      have bG := aM aJ
      clear aK aJ
      replace Z := bh Z
      replace aA := bh aA
      have aB : 0 <= (x5_1 : Int) := dT (Z4)
      have aC : x5_1 < (l1.length : Int) := dT (Z4)
      obtain ⟨bH, aT, aU, aV, aW, bI, M, O, U, X, Y, aX, aY, aZ, a2⟩ := em bB.out x5_1 aB aC
      have a3 := Y
      have a5 := X
      have a6 := U
      have a7 := O
      have a8 := M
      cases bI
      replace M := cB HB.out M
      replace O := cB HB.out O
      replace U := cB HB.out U
      replace X := cB HB.out X
      replace Y := cB HB.out Y
      have a9 := aM aY
      have bJ := aM aX
      clear aY aX
      have bA := aM a2
      have bK := aM aZ
      clear a2 aZ
      replace aB := bh aB
      replace aC := bh aC
      refine fe (n := 10) (S := fun w' => Qa5 (bD.add ((x5_1).toNat * 5)) (.string ((ax l0 x5_1).f0)) (.int .i64 ((ax l0 x5_1).f1)) (.int .i64 ((ax l0 x5_1).f2)) (.slice aD ((ax l0 x5_1).f3).length aE) (.slice aF ((ax l0 x5_1).f4).length aG) (qa5 (bH.add ((x5_1).toNat * 5)) (.string ((ax l1 x5_1).f0)) (.int .i64 ((ax l1 x5_1).f1)) (.int .i64 ((ax l1 x5_1).f2)) (.slice aT ((ax l1 x5_1).f3).length aU) (.slice aV ((ax l1 x5_1).f4).length aW) w') w') (ds := []) #[false, false, false, false, false, false, false, false, false, false] (Z16) rfl rfl ⟨(cB HB.out aQ :), ⟨(cB HB.out aP :), ⟨(cB HB.out aO :), ⟨(cB HB.out aN :), ⟨(cB HB.out aL :), ⟨(cB HB.out a8 :), ⟨(cB HB.out a7 :), ⟨(cB HB.out a6 :), ⟨(cB HB.out a5 :), (cB HB.out a3 :)⟩⟩⟩⟩⟩⟩⟩⟩⟩ (fun hHeld => ?_); refine df dp.tab6 dp.bits6 (fun HT_ HW_ => ?_)
      generalize wr.drew = w9 at HB aR aS a9 bA s y D I J M O U X Y hHeld ⊢
      refine pA 0 17 ?_
      refine pA 1 18 ?_
      refine pA 2 19 ?_
      refine pA 4 21 ?_
      refine pA 5 22 ?_
      refine pA 6 23 ?_
      refine tA 3 20 ?_
      refine tA 7 24 ?_
      refine oA 8 25 (fun K hK => ?_)
      refine fl func60 (Z16) rfl #[.agg #[.string ((ax l0 x5_1).f0), .int .i64 ((ax l0 x5_1).f1), .int .i64 ((ax l0 x5_1).f2), .slice aD ((ax l0 x5_1).f3).length aE, .slice aF ((ax l0 x5_1).f4).length aG], .agg #[.string ((ax l1 x5_1).f0), .int .i64 ((ax l1 x5_1).f1), .int .i64 ((ax l1 x5_1).f2), .slice aT ((ax l1 x5_1).f3).length aU, .slice aV ((ax l1 x5_1).f4).length aW]] (Z96) rfl rfl (Z2) ?_
      with_reducible refine (laws_eqBox.calls k1 ((ax l0 x5_1).f0) ((ax l0 x5_1).f1) ((ax l0 x5_1).f2) _ _ ((ax l0 x5_1).f3) _ _ ((ax l0 x5_1).f4) ((ax l1 x5_1).f0) ((ax l1 x5_1).f1) ((ax l1 x5_1).f2) _ _ ((ax l1 x5_1).f3) _ _ ((ax l1 x5_1).f4) true _ ?Y1 ?Y2 ?Y3 ?Y4 ?Y5 ?Y6 ?Y7 ?Y8 A7.out).mono ?_
      (case Y1 => have h_ := Kd.C_below aR.out HB.out; exact tC)
      (case Y2 => exact bF.out)
      (case Y3 => have h_ := Kd.C_below aS.out HB.out; exact tC)
      (case Y4 => exact bG.out)
      (case Y5 => have h_ := Kd.C_below a9.out HB.out; exact tC)
      (case Y6 => exact bJ.out)
      (case Y7 => have h_ := Kd.C_below bA.out HB.out; exact tC)
      (case Y8 => exact bK.out)
      rintro e b0 ⟨rfl, hb⟩
      refine ⟨_, rfl, ?_⟩
      replace HB := aM (ae (Z0) hb)
      (try clear hb)
      refine hK.out _ _ ⟨(cB HB.out aQ :), ⟨(cB HB.out aP :), ⟨(cB HB.out aO :), ⟨(cB HB.out aN :), ⟨(cB HB.out aL :), ⟨(cB HB.out a8 :), ⟨(cB HB.out a7 :), ⟨(cB HB.out a6 :), ⟨(cB HB.out a5 :), (cB HB.out a3 :)⟩⟩⟩⟩⟩⟩⟩⟩⟩ (fun hHeld => ?_)
      clear hK K
      refine nB 25 ?_
      refine pA 9 26 ?_
      refine gh (ei HT_.out (Z16)) ?_
      try go_wp2
      go_roundg k1
      case measure => have := HK1.out; omega
      case rel => exact ⟨(wrap64 (x5_1 + 1)), (Z3), H', ⟨Z85⟩, ⟨Z0⟩⟩
     replace c8 := be c8
     subst c8
     replace H := ifF H
     obtain rfl := oI H
     try go_wp2
     replace HB := aM (ac HB.out)
     have Z : 0 <= (x5_1 : Int) := dT (Z4)
     have aA : x5_1 < (l0.length : Int) := dT (Z4)
     obtain ⟨bD, aD, aE, aF, aG, bE, s, y, D, I, J, aH, aI, aJ, aK⟩ := em hr0.out x5_1 Z aA
     have aL := J
     have aN := I
     have aO := D
     have aP := y
     have aQ := s
     cases bE
     replace s := cB HB.out s
     replace y := cB HB.out y
     replace D := cB HB.out D
     replace I := cB HB.out I
     replace J := cB HB.out J
     have aR := aM aI
     have bF := aM aH
     clear aI aH
     have aS := aM aK
     have bG := aM aJ
     clear aK aJ
     replace Z := bh Z
     replace aA := bh aA
     have aB : 0 <= (x5_1 : Int) := dT (Z4)
     have aC : x5_1 < (l1.length : Int) := dT (Z4)
     obtain ⟨bH, aT, aU, aV, aW, bI, M, O, U, X, Y, aX, aY, aZ, a2⟩ := em bB.out x5_1 aB aC
     have a3 := Y
     have a5 := X
     have a6 := U
     have a7 := O
     have a8 := M
     cases bI
     replace M := cB HB.out M
     replace O := cB HB.out O
     replace U := cB HB.out U
     replace X := cB HB.out X
     replace Y := cB HB.out Y
     have a9 := aM aY
     have bJ := aM aX
     clear aY aX
     have bA := aM a2
     have bK := aM aZ
     clear a2 aZ
     replace aB := bh aB
     replace aC := bh aC
     refine fe (n := 10) (S := fun w' => Qa5 (bD.add ((x5_1).toNat * 5)) (.string ((ax l0 x5_1).f0)) (.int .i64 ((ax l0 x5_1).f1)) (.int .i64 ((ax l0 x5_1).f2)) (.slice aD ((ax l0 x5_1).f3).length aE) (.slice aF ((ax l0 x5_1).f4).length aG) (qa5 (bH.add ((x5_1).toNat * 5)) (.string ((ax l1 x5_1).f0)) (.int .i64 ((ax l1 x5_1).f1)) (.int .i64 ((ax l1 x5_1).f2)) (.slice aT ((ax l1 x5_1).f3).length aU) (.slice aV ((ax l1 x5_1).f4).length aW) w') w') (ds := []) #[false, false, false, false, false, false, false, false, false, false] (Z16) rfl rfl ⟨(cB HB.out aQ :), ⟨(cB HB.out aP :), ⟨(cB HB.out aO :), ⟨(cB HB.out aN :), ⟨(cB HB.out aL :), ⟨(cB HB.out a8 :), ⟨(cB HB.out a7 :), ⟨(cB HB.out a6 :), ⟨(cB HB.out a5 :), (cB HB.out a3 :)⟩⟩⟩⟩⟩⟩⟩⟩⟩ (fun hHeld => ?_); refine df dp.tab6 dp.bits6 (fun HT_ HW_ => ?_)
     generalize wr.drew = b1 at HB aR aS a9 bA s y D I J M O U X Y hHeld ⊢
     refine pA 0 17 ?_
     refine pA 1 18 ?_
     refine pA 2 19 ?_
     refine pA 4 21 ?_
     refine pA 5 22 ?_
     refine pA 6 23 ?_
     refine tA 3 20 ?_
     refine tA 7 24 ?_
     refine oA 8 25 (fun K hK => ?_)
     refine fl func60 (Z16) rfl #[.agg #[.string ((ax l0 x5_1).f0), .int .i64 ((ax l0 x5_1).f1), .int .i64 ((ax l0 x5_1).f2), .slice aD ((ax l0 x5_1).f3).length aE, .slice aF ((ax l0 x5_1).f4).length aG], .agg #[.string ((ax l1 x5_1).f0), .int .i64 ((ax l1 x5_1).f1), .int .i64 ((ax l1 x5_1).f2), .slice aT ((ax l1 x5_1).f3).length aU, .slice aV ((ax l1 x5_1).f4).length aW]] (Z96) rfl rfl (Z2) ?_
     with_reducible refine (laws_eqBox.calls k1 ((ax l0 x5_1).f0) ((ax l0 x5_1).f1) ((ax l0 x5_1).f2) _ _ ((ax l0 x5_1).f3) _ _ ((ax l0 x5_1).f4) ((ax l1 x5_1).f0) ((ax l1 x5_1).f1) ((ax l1 x5_1).f2) _ _ ((ax l1 x5_1).f3) _ _ ((ax l1 x5_1).f4) false _ ?Y1 ?Y2 ?Y3 ?Y4 ?Y5 ?Y6 ?Y7 ?Y8 A7.out).mono ?_
     (case Y1 => have h_ := Kd.C_below aR.out HB.out; exact tC)
     (case Y2 => exact bF.out)
     (case Y3 => have h_ := Kd.C_below aS.out HB.out; exact tC)
     (case Y4 => exact bG.out)
     (case Y5 => have h_ := Kd.C_below a9.out HB.out; exact tC)
     (case Y6 => exact bJ.out)
     (case Y7 => have h_ := Kd.C_below bA.out HB.out; exact tC)
     (case Y8 => exact bK.out)
     rintro e b2 ⟨rfl, hb⟩
     refine ⟨_, rfl, ?_⟩
     replace HB := aM (ae (Z0) hb)
     (try clear hb)
     refine hK.out _ _ ⟨(cB HB.out aQ :), ⟨(cB HB.out aP :), ⟨(cB HB.out aO :), ⟨(cB HB.out aN :), ⟨(cB HB.out aL :), ⟨(cB HB.out a8 :), ⟨(cB HB.out a7 :), ⟨(cB HB.out a6 :), ⟨(cB HB.out a5 :), (cB HB.out a3 :)⟩⟩⟩⟩⟩⟩⟩⟩⟩ (fun hHeld => ?_)
     clear hK K
     refine nB 25 ?_
     refine pA 9 26 ?_
     refine gh (ei HT_.out (Z16)) ?_
     try go_wp2
     go_ret
     exact ⟨Z1, Z0⟩
    rw [if_neg c4] at H
    have bU := ba c4
    clear c4
    obtain rfl := oI H
    go_wp2
    go_ret
    exact ⟨Z1, Z0⟩
 rw [if_neg c3] at H
 have bP := bb c3
 have bQ := bg c3
 have bR : (l0.length == l1.length) = false := by first | simpa using c3 | (simp at c3 ⊢; omega)
 obtain rfl := oI H
 go_enter func29, ntmps29
 go_wp2
 go_ret
 exact ⟨Z1, Z0⟩
def ga.f (k : Nat) (s : Int) (y : ByteArray) (D : Int) (l0_3 : List (S82)) (I : Int) (J : ByteArray) (M : Int) (O : List (S82)) : Option (Bool) := (laws_eqLog.f s y D I J M).bind fun U => (if U = true then ((dp.f k l0_3 O).bind fun X => (if X = true then (some true) else (some false))) else (some false))
theorem ga.calls (k : Nat) (y : Int) (D : ByteArray) (I : Int) (U : Option Addr) (X : Nat) (l0_3 : List (S82)) (J : Int) (M : ByteArray) (O : Int) (Y : Option Addr) (Z : Nat) (s : List (S82)) (r : Bool) (w : World) (aC : Kd.C k82 w U l0_3.length l0_3) (aD : l0_3.length <= X) (aE : Kd.C k82 w Y s.length s) (aF : s.length <= Z) (h : ga.f k y D I l0_3 J M O s = some r) :
  Calls prog 10 #[.agg #[.int .i64 y, .string D, .int .i64 I, .slice U l0_3.length X], .agg #[.int .i64 J, .string M, .int .i64 O, .slice Y s.length Z]] w fun e w' => e = .returned (.bool r) /\ Below w.heap.size w w' := by
 have aP := underlying35
 have aQ := underlying32
 replace aC := aM aC
 replace aD := aM aD
 replace aE := aM aE
 replace aF := aM aF
 have HB := aM (bi w.heap.size w)
 have H := h
 clear h
 unfold ga.f at H
 obtain ⟨aN, A3, H⟩ := cz H
 try dsimp only at H
 by_cases c4 : aN = true
 ·subst c4
  replace H := ifT H
  obtain ⟨aO, A5, H⟩ := cz H
  try dsimp only at H
  by_cases c6 : aO = true
  ·subst c6
   replace H := ifT H
   obtain rfl := oI H
   go_enter func10, ntmps10
   go_wp2_with (first | ((with_reducible refine gD 2 ?_); refine bxF w 2 #[.int .i64 y, .string D, .int .i64 I, .slice U l0_3.length X] 35 (Z0) ?_; intro aI hg w7 BK466 aJ GE466 HB hb; clear hb hg) | ((with_reducible refine gD 3 ?_); refine bxF w 3 #[.int .i64 J, .string M, .int .i64 O, .slice Y s.length Z] 35 (Z62) ?_; intro aK hg w8 BK467 aL GE467 HB hb; have aA := aM ((nL BK466 hg (Z52))); have aB := aM ((nG BK466 hg (Z52))); replace BK466 := aM (kB BK466 (Z52) hb); clear hb hg; have aS := aA.out; have aT := aB.out; refine bD4 BK466 ?_; intros; refine bD4 BK467 ?_; intros) | ((with_reducible refine gC 28 ?_); refine gL 9 func28 #[.agg #[.int .i64 y, .string D, .int .i64 I], .agg #[.int .i64 J, .string M, .int .i64 O]] ?_; (with_reducible refine (laws_eqLog.calls y D I J M O true _ A3.out).mono ?_); rintro e aU ⟨rfl, hb⟩; refine ⟨_, rfl, ?_⟩; replace BK466 := aM (kB BK466 (Z52) hb); replace BK467 := aM (kB BK467 (Z115) hb); replace HB := aM (ae (Z55) hb); (try clear hb); refine bD4 BK466 ?_; intros; refine bD4 BK467 ?_; intros) | ((with_reducible refine gC 29 ?_); refine gL 15 func29 #[.slice U l0_3.length X, .slice Y s.length Z] ?_; (with_reducible refine (dp.calls k _ _ l0_3 _ _ s true _ ?Y1 ?Y2 ?Y3 ?Y4 A5.out).mono ?_); (case Y1 => have h_ := Kd.C_below aC.out HB.out; exact tC); (case Y2 => exact aD.out); (case Y3 => have h_ := Kd.C_below aE.out HB.out; exact tC); (case Y4 => exact aF.out); rintro e aV ⟨rfl, hb⟩; refine ⟨_, rfl, ?_⟩; replace BK466 := aM (kB BK466 (Z52) hb); replace BK467 := aM (kB BK467 (Z115) hb); replace HB := aM (ae (Z55) hb); (try clear hb)))
   go_ret
   exact ⟨Z1, Z55⟩
  replace c6 := be c6
  subst c6
  replace H := ifF H
  obtain rfl := oI H
  go_enter func10, ntmps10
  go_wp2_with (first | ((with_reducible refine gD 2 ?_); refine bxF w 2 #[.int .i64 y, .string D, .int .i64 I, .slice U l0_3.length X] 35 (Z0) ?_; intro aI hg aW BK466 aJ GE466 HB hb; clear hb hg) | ((with_reducible refine gD 3 ?_); refine bxF w 3 #[.int .i64 J, .string M, .int .i64 O, .slice Y s.length Z] 35 (Z62) ?_; intro aK hg aX BK467 aL GE467 HB hb; have aA := aM ((nL BK466 hg (Z52))); have aB := aM ((nG BK466 hg (Z52))); replace BK466 := aM (kB BK466 (Z52) hb); clear hb hg; have aY := aA.out; have aZ := aB.out; refine bD4 BK466 ?_; intros; refine bD4 BK467 ?_; intros) | ((with_reducible refine gC 28 ?_); refine gL 9 func28 #[.agg #[.int .i64 y, .string D, .int .i64 I], .agg #[.int .i64 J, .string M, .int .i64 O]] ?_; (with_reducible refine (laws_eqLog.calls y D I J M O true _ A3.out).mono ?_); rintro e a2 ⟨rfl, hb⟩; refine ⟨_, rfl, ?_⟩; replace BK466 := aM (kB BK466 (Z52) hb); replace BK467 := aM (kB BK467 (Z115) hb); replace HB := aM (ae (Z55) hb); (try clear hb); refine bD4 BK466 ?_; intros; refine bD4 BK467 ?_; intros) | ((with_reducible refine gC 29 ?_); refine gL 15 func29 #[.slice U l0_3.length X, .slice Y s.length Z] ?_; (with_reducible refine (dp.calls k _ _ l0_3 _ _ s false _ ?Y1 ?Y2 ?Y3 ?Y4 A5.out).mono ?_); (case Y1 => have h_ := Kd.C_below aC.out HB.out; exact tC); (case Y2 => exact aD.out); (case Y3 => have h_ := Kd.C_below aE.out HB.out; exact tC); (case Y4 => exact aF.out); rintro e a3 ⟨rfl, hb⟩; refine ⟨_, rfl, ?_⟩; replace BK466 := aM (kB BK466 (Z52) hb); replace BK467 := aM (kB BK467 (Z115) hb); replace HB := aM (ae (Z55) hb); (try clear hb)))
  go_ret
  exact ⟨Z1, Z55⟩
 replace c4 := be c4
 subst c4
 replace H := ifF H
 obtain rfl := oI H
 go_enter func10, ntmps10
 go_wp2_with (first | ((with_reducible refine gD 2 ?_); refine bxF w 2 #[.int .i64 y, .string D, .int .i64 I, .slice U l0_3.length X] 35 (Z0) ?_; intro aI hg a5 BK466 aJ GE466 HB hb; clear hb hg) | ((with_reducible refine gD 3 ?_); refine bxF w 3 #[.int .i64 J, .string M, .int .i64 O, .slice Y s.length Z] 35 (Z62) ?_; intro aK hg a6 BK467 aL GE467 HB hb; have aA := aM ((nL BK466 hg (Z52))); have aB := aM ((nG BK466 hg (Z52))); replace BK466 := aM (kB BK466 (Z52) hb); clear hb hg; have a7 := aA.out; have a8 := aB.out; refine bD4 BK466 ?_; intros; refine bD4 BK467 ?_; intros) | ((with_reducible refine gC 28 ?_); refine gL 9 func28 #[.agg #[.int .i64 y, .string D, .int .i64 I], .agg #[.int .i64 J, .string M, .int .i64 O]] ?_; (with_reducible refine (laws_eqLog.calls y D I J M O false _ A3.out).mono ?_); rintro e a9 ⟨rfl, hb⟩; refine ⟨_, rfl, ?_⟩; replace BK466 := aM (kB BK466 (Z52) hb); replace BK467 := aM (kB BK467 (Z115) hb); replace HB := aM (ae (Z55) hb); (try clear hb)))
 go_ret
 exact ⟨Z1, Z55⟩
def laws_eqItem.f (s : ByteArray) (y : ByteArray) (D : ByteArray) (I : ByteArray) : Option (Bool) := if s.toList = D.toList then (if y.toList = I.toList then (some true) else (some false)) else (some false)
theorem laws_eqItem.calls (s : ByteArray) (y : ByteArray) (D : ByteArray) (I : ByteArray) (r : Bool) (w : World) (h : laws_eqItem.f s y D I = some r) :
  Calls prog 61 #[.agg #[.string s, .string y], .agg #[.string D, .string I]] w fun e w' => e = .returned (.bool r) /\ Below w.heap.size w w' := by
 have aE := underlying84
 have HB := aM (bi w.heap.size w)
 have H := h
 clear h
 unfold laws_eqItem.f at H
 by_cases c3 : s.toList = D.toList
 ·rw [if_pos c3] at H
  have aA := bf c3
  have aB := bc c3
  clear c3
  by_cases c4 : y.toList = I.toList
  ·rw [if_pos c4] at H
   have aC := bf c4
   have aD := bc c4
   clear c4
   obtain rfl := oI H
   go_enter func61, ntmps61
   go_wp2_with (first | ((with_reducible refine gD 2 ?_); refine bxF w 2 #[.string s, .string y] 84 (Z0) ?_; intro U hg w5 BK470 X GE470 HB hb; clear hb hg) | ((with_reducible refine gD 3 ?_); refine bxF w 3 #[.string D, .string I] 84 (Z63) ?_; intro Y hg w6 J Z GE471 HB hb; have M := aM ((nL BK470 hg (Z74))); have O := aM ((nG BK470 hg (Z74))); replace BK470 := aM (kB BK470 (Z74) hb); clear hb hg; have aF := M.out; have aG := O.out; refine bD2 BK470 ?_; intros; refine bD2 J ?_; intros))
   go_ret
   exact ⟨Z1, Z124⟩
  rw [if_neg c4] at H
  have aC := bb c4
  have aD := bg c4
  obtain rfl := oI H
  go_enter func61, ntmps61
  go_wp2_with (first | ((with_reducible refine gD 2 ?_); refine bxF w 2 #[.string s, .string y] 84 (Z0) ?_; intro U hg aH BK470 X GE470 HB hb; clear hb hg) | ((with_reducible refine gD 3 ?_); refine bxF w 3 #[.string D, .string I] 84 (Z63) ?_; intro Y hg aI J Z GE471 HB hb; have M := aM ((nL BK470 hg (Z74))); have O := aM ((nG BK470 hg (Z74))); replace BK470 := aM (kB BK470 (Z74) hb); clear hb hg; have aJ := M.out; have aK := O.out; refine bD2 BK470 ?_; intros; refine bD2 J ?_; intros))
  go_ret
  exact ⟨Z1, Z124⟩
 rw [if_neg c3] at H
 have aA := bb c3
 have aB := bg c3
 obtain rfl := oI H
 go_enter func61, ntmps61
 go_wp2_with (first | ((with_reducible refine gD 2 ?_); refine bxF w 2 #[.string s, .string y] 84 (Z0) ?_; intro U hg aL BK470 X GE470 HB hb; clear hb hg) | ((with_reducible refine gD 3 ?_); refine bxF w 3 #[.string D, .string I] 84 (Z63) ?_; intro Y hg aN J Z GE471 HB hb; have M := aM ((nL BK470 hg (Z74))); have O := aM ((nG BK470 hg (Z74))); replace BK470 := aM (kB BK470 (Z74) hb); clear hb hg; have aO := M.out; have aP := O.out; refine bD2 BK470 ?_; intros; refine bD2 J ?_; intros))
 go_ret
 exact ⟨Z1, Z124⟩
def de.l0 : Nat -> List (S84) -> List (S84) -> Int -> Option (Bool)
 | 0, _, _, _ => none
 | k + 1, x0, x1, x5 => if x5 < (x0.length : Int) then (if 0 <= x5 then (if x5 < (x1.length : Int) then ((laws_eqItem.f ((ay x0 x5).f0) ((ay x0 x5).f1) ((ay x1 x5).f0) ((ay x1 x5).f1)).bind fun s => (if s = true then (de.l0 k x0 x1 (wrap64 (x5 + 1))) else (some false))) else (none)) else (none)) else (some true)
def de.f (k : Nat) (l0 : List (S84)) (l1 : List (S84)) : Option (Bool) := if (l0.length : Int) = (l1.length : Int) then (de.l0 k l0 l1 0) else (some false)
def de.T6 : Bool × List (List Nat × List Nat) := (true, [([], []), ([], []), ([0, 1], [0, 1]), ([2], [2]), ([], []), ([], []), ([4, 5], [4, 5]), ([6], [6]), ([3, 7], [3, 7]), ([8], [8])])
def de.B6 : List Nat := [0, 0, 3, 7, 0, 0, 48, 112, 255, 511]
theorem de.tab6 : rtab .any (opsOf Tryz.f30 6) = de.T6 := by kernel_rfl
theorem de.bits6 : waitsOk de.T6.2 de.B6 = true := by kernel_rfl
theorem de.calls (k : Nat) (A0 : Option Addr) (c0 : Nat) (l0 : List (S84)) (A1 : Option Addr) (c1 : Nat) (l1 : List (S84)) (r : Bool) (w : World) (hr0 : Kd.C k84 w A0 l0.length l0) (aI : l0.length <= c0) (aB : Kd.C k84 w A1 l1.length l1) (aJ : l1.length <= c1) (h : de.f k l0 l1 = some r) :
  Calls prog 30 #[.slice A0 l0.length c0, .slice A1 l1.length c1] w fun e w' => e = .returned (.bool r) /\ Below w.heap.size w w' := by
 have aT := underlying84
 replace hr0 := aM hr0
 replace aI := aM aI
 replace aB := aM aB
 replace aJ := aM aJ
 have HB := aM (bi w.heap.size w)
 have H := h
 clear h
 unfold de.f at H
 by_cases c3 : (l0.length : Int) = (l1.length : Int)
 ·rw [if_pos c3] at H
  have aK := bf c3
  have aL := bc c3
  have aN : (l0.length == l1.length) = true := by first | simpa using c3 | (simp at c3 ⊢; omega)
  clear c3
  have H' := aM H
  clear H
  go_enter func30, ntmps30
  go_wp2
  go_loopg [5] k (fun kq v5 w' => ∃ (x5_1 : Int), v5 = .int .i64 x5_1 /\ ap (de.l0 kq l0 l1 x5_1 = some r) /\ ap (kq <= k) /\ ap (Below w.heap.size w w'))
  case atStart => exact ⟨(0), (Z3), H', ⟨bj _⟩, ⟨Z0⟩⟩
  case round =>
   clear H'
   (try clear c1); (try clear c3); (try clear aK); (try clear aL); (try clear aN)
   obtain ⟨x5_1, rfl, HA, HK1, HB⟩ := hrel
   cases gk with
   | zero => exact absurd HA.out (by simp [de.l0])
   | succ k1 =>
    have H := HA.out
    clear HA
    simp only [de.l0] at H
    by_cases c4 : x5_1 < (l0.length : Int)
    ·rw [if_pos c4] at H
     have aR := az c4
     clear c4
     obtain ⟨c5, H⟩ := ifS H
     have aU := az c5
     clear c5
     obtain ⟨c6, H⟩ := ifS H
     have aV := az c6
     clear c6
     obtain ⟨aS, A7, H⟩ := cz H
     try dsimp only at H
     by_cases c8 : aS = true
     ·subst c8
      replace H := ifT H
      have H' := aM H
      clear H
      try go_wp2
      replace HB := aM (ac HB.out)
      have J : 0 <= (x5_1 : Int) := dT (Z4)
      have M : x5_1 < (l0.length : Int) := dT (Z4)
      obtain ⟨aC, aD, s, y⟩ := at_T84 hr0.out x5_1 J M
      have X := y
      have Y := s
      cases aD
      replace s := cB HB.out s
      replace y := cB HB.out y
      replace J := bh J
      replace M := bh M
      have O : 0 <= (x5_1 : Int) := dT (Z4)
      have U : x5_1 < (l1.length : Int) := dT (Z4)
      obtain ⟨aE, aF, D, I⟩ := at_T84 aB.out x5_1 O U
      have Z := I
      have aA := D
      cases aF
      replace D := cB HB.out D
      replace I := cB HB.out I
      replace O := bh O
      replace U := bh U
      refine fe (n := 10) (S := fun w' => Qa2 (aC.add ((x5_1).toNat * 2)) (.string ((ay l0 x5_1).f0)) (.string ((ay l0 x5_1).f1)) (qa2 (aE.add ((x5_1).toNat * 2)) (.string ((ay l1 x5_1).f0)) (.string ((ay l1 x5_1).f1)) w') w') (ds := []) #[false, false, false, false, false, false, false, false, false, false] (Z16) rfl rfl ⟨(cB HB.out Y :), ⟨(cB HB.out X :), ⟨(cB HB.out aA :), (cB HB.out Z :)⟩⟩⟩ (fun hHeld => ?_); refine df de.tab6 de.bits6 (fun HT_ HW_ => ?_)
      generalize wr.drew = w9 at HB s y D I hHeld ⊢
      refine pA 0 17 ?_
      refine pA 1 18 ?_
      refine pA 2 19 ?_
      refine pA 4 21 ?_
      refine pA 5 22 ?_
      refine pA 6 23 ?_
      refine tA 3 20 ?_
      refine tA 7 24 ?_
      refine oA 8 25 (fun K hK => ?_)
      refine fl func61 (Z16) rfl #[.agg #[.string ((ay l0 x5_1).f0), .string ((ay l0 x5_1).f1)], .agg #[.string ((ay l1 x5_1).f0), .string ((ay l1 x5_1).f1)]] (Z96) rfl rfl (Z2) ?_
      with_reducible refine (laws_eqItem.calls ((ay l0 x5_1).f0) ((ay l0 x5_1).f1) ((ay l1 x5_1).f0) ((ay l1 x5_1).f1) true _ A7.out).mono ?_
      rintro e aX ⟨rfl, hb⟩
      refine ⟨_, rfl, ?_⟩
      replace HB := aM (ae (Z0) hb)
      (try clear hb)
      refine hK.out _ _ ⟨(cB HB.out Y :), ⟨(cB HB.out X :), ⟨(cB HB.out aA :), (cB HB.out Z :)⟩⟩⟩ (fun hHeld => ?_)
      clear hK K
      refine nB 25 ?_
      refine pA 9 26 ?_
      refine gh (ei HT_.out (Z16)) ?_
      try go_wp2
      go_roundg k1
      case measure => have := HK1.out; omega
      case rel => exact ⟨(wrap64 (x5_1 + 1)), (Z3), H', ⟨Z85⟩, ⟨Z0⟩⟩
     replace c8 := be c8
     subst c8
     replace H := ifF H
     obtain rfl := oI H
     try go_wp2
     replace HB := aM (ac HB.out)
     have J : 0 <= (x5_1 : Int) := dT (Z4)
     have M : x5_1 < (l0.length : Int) := dT (Z4)
     obtain ⟨aC, aD, s, y⟩ := at_T84 hr0.out x5_1 J M
     have X := y
     have Y := s
     cases aD
     replace s := cB HB.out s
     replace y := cB HB.out y
     replace J := bh J
     replace M := bh M
     have O : 0 <= (x5_1 : Int) := dT (Z4)
     have U : x5_1 < (l1.length : Int) := dT (Z4)
     obtain ⟨aE, aF, D, I⟩ := at_T84 aB.out x5_1 O U
     have Z := I
     have aA := D
     cases aF
     replace D := cB HB.out D
     replace I := cB HB.out I
     replace O := bh O
     replace U := bh U
     refine fe (n := 10) (S := fun w' => Qa2 (aC.add ((x5_1).toNat * 2)) (.string ((ay l0 x5_1).f0)) (.string ((ay l0 x5_1).f1)) (qa2 (aE.add ((x5_1).toNat * 2)) (.string ((ay l1 x5_1).f0)) (.string ((ay l1 x5_1).f1)) w') w') (ds := []) #[false, false, false, false, false, false, false, false, false, false] (Z16) rfl rfl ⟨(cB HB.out Y :), ⟨(cB HB.out X :), ⟨(cB HB.out aA :), (cB HB.out Z :)⟩⟩⟩ (fun hHeld => ?_); refine df de.tab6 de.bits6 (fun HT_ HW_ => ?_)
     generalize wr.drew = aY at HB s y D I hHeld ⊢
     refine pA 0 17 ?_
     refine pA 1 18 ?_
     refine pA 2 19 ?_
     refine pA 4 21 ?_
     refine pA 5 22 ?_
     refine pA 6 23 ?_
     refine tA 3 20 ?_
     refine tA 7 24 ?_
     refine oA 8 25 (fun K hK => ?_)
     refine fl func61 (Z16) rfl #[.agg #[.string ((ay l0 x5_1).f0), .string ((ay l0 x5_1).f1)], .agg #[.string ((ay l1 x5_1).f0), .string ((ay l1 x5_1).f1)]] (Z96) rfl rfl (Z2) ?_
     with_reducible refine (laws_eqItem.calls ((ay l0 x5_1).f0) ((ay l0 x5_1).f1) ((ay l1 x5_1).f0) ((ay l1 x5_1).f1) false _ A7.out).mono ?_
     rintro e aZ ⟨rfl, hb⟩
     refine ⟨_, rfl, ?_⟩
     replace HB := aM (ae (Z0) hb)
     (try clear hb)
     refine hK.out _ _ ⟨(cB HB.out Y :), ⟨(cB HB.out X :), ⟨(cB HB.out aA :), (cB HB.out Z :)⟩⟩⟩ (fun hHeld => ?_)
     clear hK K
     refine nB 25 ?_
     refine pA 9 26 ?_
     refine gh (ei HT_.out (Z16)) ?_
     try go_wp2
     go_ret
     exact ⟨Z1, Z0⟩
    rw [if_neg c4] at H
    have aR := ba c4
    clear c4
    obtain rfl := oI H
    go_wp2
    go_ret
    exact ⟨Z1, Z0⟩
 rw [if_neg c3] at H
 have aK := bb c3
 have aL := bg c3
 have aN : (l0.length == l1.length) = false := by first | simpa using c3 | (simp at c3 ⊢; omega)
 obtain rfl := oI H
 go_enter func30, ntmps30
 go_wp2
 go_ret
 exact ⟨Z1, Z0⟩
def laws_eqMutation.f (k : Nat) (s : Int) (y : Int) (D : Int) (I : Int) (J : ByteArray) (M : List (S84)) (O : Int) (U : Int) (X : Int) (Y : Int) (Z : ByteArray) (aA : List (S84)) : Option (Bool) := if s = O then (if y = U then (if D = X then (if I = Y then (if J.toList = Z.toList then ((de.f k M aA).bind fun aB => (if aB = true then (some true) else (some false))) else (some false)) else (some false)) else (some false)) else (some false)) else (some false)
theorem laws_eqMutation.calls (k : Nat) (Y : Int) (Z : Int) (aA : Int) (aB : Int) (aC : ByteArray) (M : Option Addr) (O : Nat) (y : List (S84)) (aD : Int) (aE : Int) (aF : Int) (aG : Int) (aH : ByteArray) (U : Option Addr) (X : Nat) (D : List (S84)) (r : Bool) (w : World) (aN : Kd.C k84 w M y.length y) (aO : y.length <= O) (aP : Kd.C k84 w U D.length D) (aQ : D.length <= X) (h : laws_eqMutation.f k Y Z aA aB aC y aD aE aF aG aH D = some r) :
  Calls prog 11 #[.agg #[.int .i64 Y, .int .i64 Z, .int .i64 aA, .int .i64 aB, .string aC, .slice M y.length O], .agg #[.int .i64 aD, .int .i64 aE, .int .i64 aF, .int .i64 aG, .string aH, .slice U D.length X]] w fun e w' => e = .returned (.bool r) /\ Below w.heap.size w w' := by
 have a6 := underlying41
 replace aN := aM aN
 replace aO := aM aO
 replace aP := aM aP
 replace aQ := aM aQ
 have HB := aM (bi w.heap.size w)
 have H := h
 clear h
 unfold laws_eqMutation.f at H
 by_cases c3 : Y = aD
 ·rw [if_pos c3] at H
  have aS := bf c3
  have aT := bc c3
  clear c3
  by_cases c4 : Z = aE
  ·rw [if_pos c4] at H
   have aU := bf c4
   have aV := bc c4
   clear c4
   by_cases c5 : aA = aF
   ·rw [if_pos c5] at H
    have aW := bf c5
    have aX := bc c5
    clear c5
    by_cases c6 : aB = aG
    ·rw [if_pos c6] at H
     have aY := bf c6
     have aZ := bc c6
     clear c6
     by_cases c7 : aC.toList = aH.toList
     ·rw [if_pos c7] at H
      have a2 := bf c7
      have a3 := bc c7
      clear c7
      obtain ⟨a5, A8, H⟩ := cz H
      try dsimp only at H
      by_cases c9 : a5 = true
      ·subst c9
       replace H := ifT H
       obtain rfl := oI H
       go_enter func11, ntmps11
       go_wp2_with (first | ((with_reducible refine gD 2 ?_); refine bxF w 2 #[.int .i64 Y, .int .i64 Z, .int .i64 aA, .int .i64 aB, .string aC, .slice M y.length O] 41 (Z0) ?_; intro aI hg a7 BK475 aJ GE475 HB hb; clear hb hg) | ((with_reducible refine gD 3 ?_); refine bxF w 3 #[.int .i64 aD, .int .i64 aE, .int .i64 aF, .int .i64 aG, .string aH, .slice U D.length X] 41 (Z24) ?_; intro aK hg a8 s aL GE476 HB hb; have I := aM ((nL BK475 hg (Z30))); have J := aM ((nG BK475 hg (Z30))); replace BK475 := aM (kB BK475 (Z30) hb); clear hb hg; have a9 := I.out; have bA := J.out; refine bD6 BK475 ?_; intros; refine bD6 s ?_; intros) | ((with_reducible refine gC 30 ?_); refine gL 34 func30 #[.slice M y.length O, .slice U D.length X] ?_; (with_reducible refine (de.calls k _ _ y _ _ D true _ ?Y1 ?Y2 ?Y3 ?Y4 A8.out).mono ?_); (case Y1 => have h_ := Kd.C_below aN.out HB.out; exact tC); (case Y2 => exact aO.out); (case Y3 => have h_ := Kd.C_below aP.out HB.out; exact tC); (case Y4 => exact aQ.out); rintro e bB ⟨rfl, hb⟩; refine ⟨_, rfl, ?_⟩; replace BK475 := aM (kB BK475 (Z30) hb); replace s := aM (kB s zB hb); replace HB := aM (ae (Z50) hb); (try clear hb)))
       go_ret
       exact ⟨Z1, Z50⟩
      replace c9 := be c9
      subst c9
      replace H := ifF H
      obtain rfl := oI H
      go_enter func11, ntmps11
      go_wp2_with (first | ((with_reducible refine gD 2 ?_); refine bxF w 2 #[.int .i64 Y, .int .i64 Z, .int .i64 aA, .int .i64 aB, .string aC, .slice M y.length O] 41 (Z0) ?_; intro aI hg bC BK475 aJ GE475 HB hb; clear hb hg) | ((with_reducible refine gD 3 ?_); refine bxF w 3 #[.int .i64 aD, .int .i64 aE, .int .i64 aF, .int .i64 aG, .string aH, .slice U D.length X] 41 (Z24) ?_; intro aK hg bD s aL GE476 HB hb; have I := aM ((nL BK475 hg (Z30))); have J := aM ((nG BK475 hg (Z30))); replace BK475 := aM (kB BK475 (Z30) hb); clear hb hg; have bE := I.out; have bF := J.out; refine bD6 BK475 ?_; intros; refine bD6 s ?_; intros) | ((with_reducible refine gC 30 ?_); refine gL 34 func30 #[.slice M y.length O, .slice U D.length X] ?_; (with_reducible refine (de.calls k _ _ y _ _ D false _ ?Y1 ?Y2 ?Y3 ?Y4 A8.out).mono ?_); (case Y1 => have h_ := Kd.C_below aN.out HB.out; exact tC); (case Y2 => exact aO.out); (case Y3 => have h_ := Kd.C_below aP.out HB.out; exact tC); (case Y4 => exact aQ.out); rintro e bG ⟨rfl, hb⟩; refine ⟨_, rfl, ?_⟩; replace BK475 := aM (kB BK475 (Z30) hb); replace s := aM (kB s zB hb); replace HB := aM (ae (Z50) hb); (try clear hb)))
      go_ret
      exact ⟨Z1, Z50⟩
     rw [if_neg c7] at H
     have a2 := bb c7
     have a3 := bg c7
     obtain rfl := oI H
     go_enter func11, ntmps11
     go_wp2_with (first | ((with_reducible refine gD 2 ?_); refine bxF w 2 #[.int .i64 Y, .int .i64 Z, .int .i64 aA, .int .i64 aB, .string aC, .slice M y.length O] 41 (Z0) ?_; intro aI hg bH BK475 aJ GE475 HB hb; clear hb hg) | ((with_reducible refine gD 3 ?_); refine bxF w 3 #[.int .i64 aD, .int .i64 aE, .int .i64 aF, .int .i64 aG, .string aH, .slice U D.length X] 41 (Z24) ?_; intro aK hg bI s aL GE476 HB hb; have I := aM ((nL BK475 hg (Z30))); have J := aM ((nG BK475 hg (Z30))); replace BK475 := aM (kB BK475 (Z30) hb); clear hb hg; have bJ := I.out; have bK := J.out; refine bD6 BK475 ?_; intros; refine bD6 s ?_; intros))
     go_ret
     exact ⟨Z1, Z50⟩
    rw [if_neg c6] at H
    have aY := bb c6
    have aZ := bg c6
    obtain rfl := oI H
    go_enter func11, ntmps11
    go_wp2_with (first | ((with_reducible refine gD 2 ?_); refine bxF w 2 #[.int .i64 Y, .int .i64 Z, .int .i64 aA, .int .i64 aB, .string aC, .slice M y.length O] 41 (Z0) ?_; intro aI hg bL BK475 aJ GE475 HB hb; clear hb hg) | ((with_reducible refine gD 3 ?_); refine bxF w 3 #[.int .i64 aD, .int .i64 aE, .int .i64 aF, .int .i64 aG, .string aH, .slice U D.length X] 41 (Z24) ?_; intro aK hg bM s aL GE476 HB hb; have I := aM ((nL BK475 hg (Z30))); have J := aM ((nG BK475 hg (Z30))); replace BK475 := aM (kB BK475 (Z30) hb); clear hb hg; have bN := I.out; have bO := J.out; refine bD6 BK475 ?_; intros; refine bD6 s ?_; intros))
    go_ret
    exact ⟨Z1, Z50⟩
   rw [if_neg c5] at H
   have aW := bb c5
   have aX := bg c5
   obtain rfl := oI H
   go_enter func11, ntmps11
   go_wp2_with (first | ((with_reducible refine gD 2 ?_); refine bxF w 2 #[.int .i64 Y, .int .i64 Z, .int .i64 aA, .int .i64 aB, .string aC, .slice M y.length O] 41 (Z0) ?_; intro aI hg bP BK475 aJ GE475 HB hb; clear hb hg) | ((with_reducible refine gD 3 ?_); refine bxF w 3 #[.int .i64 aD, .int .i64 aE, .int .i64 aF, .int .i64 aG, .string aH, .slice U D.length X] 41 (Z24) ?_; intro aK hg bQ s aL GE476 HB hb; have I := aM ((nL BK475 hg (Z30))); have J := aM ((nG BK475 hg (Z30))); replace BK475 := aM (kB BK475 (Z30) hb); clear hb hg; have bR := I.out; have bS := J.out; refine bD6 BK475 ?_; intros; refine bD6 s ?_; intros))
   go_ret
   exact ⟨Z1, Z50⟩
  rw [if_neg c4] at H
  have aU := bb c4
  have aV := bg c4
  obtain rfl := oI H
  go_enter func11, ntmps11
  go_wp2_with (first | ((with_reducible refine gD 2 ?_); refine bxF w 2 #[.int .i64 Y, .int .i64 Z, .int .i64 aA, .int .i64 aB, .string aC, .slice M y.length O] 41 (Z0) ?_; intro aI hg bT BK475 aJ GE475 HB hb; clear hb hg) | ((with_reducible refine gD 3 ?_); refine bxF w 3 #[.int .i64 aD, .int .i64 aE, .int .i64 aF, .int .i64 aG, .string aH, .slice U D.length X] 41 (Z24) ?_; intro aK hg bU s aL GE476 HB hb; have I := aM ((nL BK475 hg (Z30))); have J := aM ((nG BK475 hg (Z30))); replace BK475 := aM (kB BK475 (Z30) hb); clear hb hg; have bV := I.out; have bW := J.out; refine bD6 BK475 ?_; intros; refine bD6 s ?_; intros))
  go_ret
  exact ⟨Z1, Z50⟩
 rw [if_neg c3] at H
 have aS := bb c3
 have aT := bg c3
 obtain rfl := oI H
 go_enter func11, ntmps11
 go_wp2_with (first | ((with_reducible refine gD 2 ?_); refine bxF w 2 #[.int .i64 Y, .int .i64 Z, .int .i64 aA, .int .i64 aB, .string aC, .slice M y.length O] 41 (Z0) ?_; intro aI hg bX BK475 aJ GE475 HB hb; clear hb hg) | ((with_reducible refine gD 3 ?_); refine bxF w 3 #[.int .i64 aD, .int .i64 aE, .int .i64 aF, .int .i64 aG, .string aH, .slice U D.length X] 41 (Z24) ?_; intro aK hg bY s aL GE476 HB hb; have I := aM ((nL BK475 hg (Z30))); have J := aM ((nG BK475 hg (Z30))); replace BK475 := aM (kB BK475 (Z30) hb); clear hb hg; have bZ := I.out; have b0 := J.out; refine bD6 BK475 ?_; intros; refine bD6 s ?_; intros))
 go_ret
 exact ⟨Z1, Z50⟩
def cb.l0 : Nat -> Int -> ByteArray -> Option (ByteArray)
 | 0, _, _ => none
 | k + 1, x0, x3 => if x0 > 0 then ((some (([(wrap64 (48 + (Int.tmod x0 10))) % 256] : List Int) : List Int)).bind fun s => (if (strOfNums s).size + x3.size <= 9223372036854775807 then (cb.l0 k (wrap64 (Int.tdiv x0 10)) ((strOfNums s) ++ x3)) else (none))) else (if 1 + x3.size <= 9223372036854775807 then (some ((⟨#[109]⟩ : ByteArray) ++ x3)) else (none))
def cb.f (k : Nat) (a0 : Int) : Option (ByteArray) := if a0 <= 0 then (some (⟨#[109, 48]⟩ : ByteArray)) else (cb.l0 k a0 (⟨#[]⟩ : ByteArray))
theorem cb.calls (k : Nat) (a0 : Int) (r : ByteArray) (w : World) (h : cb.f k a0 = some r) :
  Calls prog 62 #[.int .i64 a0] w fun e w' => e = .returned (.string r) /\ Below w.heap.size w w' := by
 have HB := aM (bi w.heap.size w)
 have H := h
 clear h
 unfold cb.f at H
 by_cases c2 : a0 <= 0
 ·rw [if_pos c2] at H
  have O := az c2
  clear c2
  obtain rfl := oI H
  go_enter func62, ntmps62
  go_wp2
  go_ret
  exact ⟨Z1, Z0⟩
 rw [if_neg c2] at H
 have O := ba c2
 clear c2
 have H' := aM H
 clear H
 go_enter func62, ntmps62
 go_wp2
 go_loopg [0, 3] k (fun kq Y Z w' => ∃ (s : Int) (y : ByteArray), Y = .int .i64 s /\ Z = .string y /\ ap (cb.l0 kq s y = some r) /\ ap (kq <= k) /\ ap (Below w.heap.size w w'))
 case atStart => exact ⟨(a0), ((⟨#[]⟩ : ByteArray)), (Z3), (Z3), H', ⟨bj _⟩, ⟨Z0⟩⟩
 case round =>
  clear H'
  (try clear c2); (try clear O)
  obtain ⟨s, y, rfl, rfl, HA, HK1, HB⟩ := hrel
  cases gk with
  | zero => exact absurd HA.out (by simp [cb.l0])
  | succ U =>
   have H := HA.out
   clear HA
   simp only [cb.l0] at H
   by_cases c3 : s > 0
   ·rw [if_pos c3] at H
    have aA : decide (0 < s) = true := az c3
    clear c3
    obtain ⟨D, I⟩ : ∃ y_ : List Int, y_ = (([(wrap64 (48 + (Int.tmod s 10))) % 256] : List Int)) := ⟨_, rfl⟩
    replace H : (if (strOfNums D).size + y.size <= 9223372036854775807 then (cb.l0 U (wrap64 (Int.tdiv s 10)) ((strOfNums D) ++ y)) else (none)) = some r := by first | (rw [I]; with_reducible exact H) | (have H2_ := (Option.bind_some _ _).symm.trans H; rw [I]; with_reducible exact H2_) | (have H2_ := (Option.bind_some _ _).symm.trans H; with_reducible exact H2_) | with_reducible exact H | (rw [I]; exact H) | exact H
    have X := aM I
    clear I
    obtain ⟨c4, H⟩ := ifS H
    have aC := bh c4
    have aD : decide ((strOfNums D).size + y.size <= 9223372036854775807) = true := az c4
    try have aE : (9223372036854775807 < (strOfNums D).size + y.size) = False := eq_false (Nat.not_lt.2 c4)
    have H' := aM H
    clear H
    go_wp2_with (first | ((with_reducible refine gD 12 ?_); refine Kd.R_lit (Kd.int .u8) _ 5 ?hg (N := 12) ?hd (xs := ([(wrap64 (48 + (Int.tmod s 10))) % 256] : List Int)) (inner := [.int .u8 ((wrap64 (48 + (Int.tmod s 10))) % 256)]) (ok := fun _ => True) (okp := fun _ => True) ?hr ?hp (fun _ hk => hk) trivial (bi _ _) (bj _) (fg) ?_; (case hd => rfl); (case hg => rfl); (case hr => first | (go_simp; done) | (go_simp; rfl)); (case hp => exact (fc.one (show Kd.M (Kd.int .u8) _ _ _ ((wrap64 (48 + (Int.tmod s 10))) % 256) [.int .u8 ((wrap64 (48 + (Int.tmod s 10))) % 256)] from rfl) (fc.none _ _))); intro aF w5 J hb hg_ hnew_; clear hg_ hnew_; (first | rw [← X.out] at J | (simp only [Int.reduceToNat] at J; rw [← X.out] at J)); have aB := aM (Kd.R_lower J (ct (Z0))); replace HB := aM (ae (Z0) hb); clear hb J; have aG := own_string (P := prog) underlying74 underlying5 underlying9 (Kd.own_of_R aB.out)))
    go_roundg U
    case measure => have := HK1.out; omega
    case rel => exact ⟨(wrap64 (Int.tdiv s 10)), ((strOfNums D) ++ y), (Z3), (Z3), H', ⟨Z85⟩, ⟨Z0⟩⟩
   rw [if_neg c3] at H
   have aA : decide (0 < s) = false := ba c3
   clear c3
   obtain ⟨c8, H⟩ := ifS H
   have aH := bh c8
   have aI : decide (1 + y.size <= 9223372036854775807) = true := az c8
   try have aJ : (9223372036854775807 < 1 + y.size) = False := eq_false (Nat.not_lt.2 c8)
   obtain rfl := oI H
   go_wp2
   go_ret
   exact ⟨Z1, Z0⟩
def dx.l0 : Nat -> List (S84) -> Int -> Int -> Option (Int × (List (S84)))
 | 0, _, _, _ => none
 | k + 1, x0, x1, x5 => if x5 < (x0.length : Int) then ((cb.f k x1).bind fun y => (if 0 <= x5 then ((some (x0.set (x5 : Int).toNat (⟨y, (ay x0 x5).f1⟩ : S84) : List (S84))).bind fun s => ((cb.f k (wrap64 (x1 + 1))).bind fun D => (dx.l0 k (s.set (x5 : Int).toNat (⟨(ay s x5).f0, D⟩ : S84)) (wrap64 ((wrap64 (x1 + 1)) + 1)) (wrap64 (x5 + 1))))) else (none))) else (some (x1, x0))
def dx.f (k : Nat) (l0 : List (S84)) (a1 : Int) : Option (Int × (List (S84))) := dx.l0 k l0 a1 0
theorem dx.calls (k : Nat) (P0_ : Nat -> Prop) (u9000_ : Value) (l0 : List (S84)) (a1 : Int) (Y : Int) (Z : List (S84)) (w0 w : World) (hB : Below w0.heap.size w0 w) (a8 : Kd.R k84 84 w w0.heap.size P0_ u9000_ l0) (h : dx.f k l0 a1 = some (Y, Z)) :
  Calls prog 32 #[u9000_, .int .i64 a1] w fun e w' => e = .returned (.int .i64 Y) /\ Kd.R k84 84 w' w0.heap.size (fun k_ => (P0_ k_ ∨ w.heap.size <= k_)) u9000_ Z /\ Below w0.heap.size w0 w' /\ Kept w w' (fun k_ => P0_ k_) := by
 have HO0 := aM (show Kd.R k84 84 w w0.heap.size (fun k_ => (P0_ k_ ∨ w.heap.size <= k_)) u9000_ l0 from Kd.R_mono a8 (fun k_ hk => (.inl hk)))
 have HK := aM (Kept.refl w (fun k_ => P0_ k_))
 have bP := aM hB.size
 have HB := aM hB
 clear hB
 have H := h
 clear h
 unfold dx.f at H
 have H' := aM H
 clear H
 go_enter func32, ntmps32
 go_wp2
 go_loopg [1, 5] k (fun kq v1 v5 w' => ∃ (s : List (S84)) (D : Int) (x5_1 : Int), v1 = .int .i64 D /\ v5 = .int .i64 x5_1 /\ ap (dx.l0 kq s D x5_1 = some (Y, Z)) /\ ap (kq <= k) /\ ap (Kd.R k84 84 w' w0.heap.size (fun k_ => (P0_ k_ ∨ w.heap.size <= k_)) u9000_ s) /\ ap (Kept w w' (fun k_ => P0_ k_)) /\ ap (Below w0.heap.size w0 w'))
 case atStart => exact ⟨(l0), (a1), (0), (Z3), (Z3), H', ⟨bj _⟩, ⟨Z191⟩, ⟨Z34⟩, ⟨Z0⟩⟩
 case round =>
  clear H'
  obtain ⟨s, D, x5_1, rfl, rfl, HA, HK1, HO_0, HK, HB⟩ := hrel
  cases gk with
  | zero => exact absurd HA.out (by simp [dx.l0])
  | succ U =>
   have H := HA.out
   clear HA
   simp only [dx.l0] at H
   by_cases c3 : x5_1 < (s.length : Int)
   ·rw [if_pos c3] at H
    have bB := az c3
    clear c3
    obtain ⟨X, A4, H⟩ := cz H
    try dsimp only at H
    obtain ⟨c5, H⟩ := ifS H
    have bQ := az c5
    clear c5
    obtain ⟨I, aA⟩ : ∃ y_ : List (S84), y_ = (s.set (x5_1 : Int).toNat (⟨X, (ay s x5_1).f1⟩ : S84)) := ⟨_, rfl⟩
    replace H : ((cb.f U (wrap64 (D + 1))).bind fun J => (dx.l0 U (I.set (x5_1 : Int).toNat (⟨(ay I x5_1).f0, J⟩ : S84)) (wrap64 ((wrap64 (D + 1)) + 1)) (wrap64 (x5_1 + 1)))) = some (Y, Z) := by first | (rw [aA]; with_reducible exact H) | (have H2_ := (Option.bind_some _ _).symm.trans H; rw [aA]; with_reducible exact H2_) | (have H2_ := (Option.bind_some _ _).symm.trans H; with_reducible exact H2_) | with_reducible exact H | (rw [aA]; exact H) | exact H
    have bD := aM aA
    clear aA
    obtain ⟨J, A7, H⟩ := cz H
    try dsimp only at H
    obtain ⟨aD, aB⟩ : ∃ y_ : List (S84), y_ = (I.set (x5_1 : Int).toNat (⟨(ay I x5_1).f0, J⟩ : S84)) := ⟨_, rfl⟩
    replace H : (dx.l0 U aD (wrap64 ((wrap64 (D + 1)) + 1)) (wrap64 (x5_1 + 1))) = some (Y, Z) := by first | (rw [aB]; with_reducible exact H) | (have H2_ := (Option.bind_some _ _).symm.trans H; rw [aB]; with_reducible exact H2_) | (have H2_ := (Option.bind_some _ _).symm.trans H; with_reducible exact H2_) | with_reducible exact H | (rw [aB]; exact H) | exact H
    have bF := aM aB
    clear aB
    have H' := aM H
    clear H
    obtain ⟨bR, aC, bG⟩ := Kd.R_slice HO_0.out
    subst bG
    go_wp2_with (first | ((with_reducible refine gC 62 ?_); refine gL 15 func62 #[.int .i64 D] ?_; (with_reducible refine (cb.calls U D X _ A4.out).mono ?_); rintro e M ⟨rfl, hb⟩; refine ⟨_, rfl, ?_⟩; replace HO_0 := aM (Kd.R_below (Z56) hb); replace HK := aM (Kept.below (S := (fun k_ => P0_ k_)) (Z34) hb); replace HB := aM (ae (Z0) hb); (try clear hb); have p6 : 0 <= (x5_1 : Int) := dT (Z4); have q6 : (x5_1 : Int) < ((s.length : Int) : Int) := dT (Z4); obtain ⟨y, bS, aR, aS, bH, bT, aT⟩ := Kd.R_form HO_0.out (Z31); (first | cases aR | (injection aR with ea_ en_ ec_; (first | subst ea_ | (injection ea_ with ea_; subst ea_)); subst ec_; clear en_)); have aU := aM aS; have bU := aM aT; clear aS bH aT; have bV := aM (show (P0_ y ∨ w.heap.size <= y) from (HO_0.out.1 _ rfl)); obtain ⟨bW, bI, aV, aF, aG⟩ := Kd.R_elem HO_0.out z84 (x5_1 : Int) p6 q6; obtain rfl := k84_openM aV; have bX : M.cell? ⟨y, (x5_1 : Int).toNat * 2, none⟩ = some (.string ((ay s x5_1).f0)) := aF 0 _ rfl; have bY : M.cell? ⟨y, (x5_1 : Int).toNat * 2 + 1, none⟩ = some (.string ((ay s x5_1).f1)) := aF 1 _ rfl; have bZ : M.frozen? ⟨y, (x5_1 : Int).toNat * 2, none⟩ = false := aG 0; have b0 : M.frozen? ⟨y, (x5_1 : Int).toNat * 2 + 1, none⟩ = false := aG 1; clear bI aF aG aV; replace p6 := bh p6; replace q6 := bh q6; have aW := aM (show Kd.R k84 84 M w0.heap.size (fun k_ => (P0_ k_ ∨ w.heap.size <= k_)) (.slice (some ⟨y, 0, none⟩) s.length aC) s from (Z56)); obtain ⟨b1, aX, aY, aH, aZ⟩ := Kd.R_elem aW.out z84 (x5_1 : Int) (dT (Z4)) (by have h_ : (x5_1 : Int) < ((s.length : Int) : Int) := dT (Z4); first | exact h_ | (have e_ := (Kd.R_reads' HO_0.out).1; omega) | simpa using h_); obtain rfl := k84_openM aY; have aI := Kd.R_seg aW.out (x5_1 : Int) (dT (Z4)) (by have h_ : (x5_1 : Int) < ((s.length : Int) : Int) := dT (Z4); first | exact h_ | (have e_ := (Kd.R_reads' HO_0.out).1; omega) | simpa using h_) (seg := [.string X]) (j := 0) aX aH (show 1 <= 2 from by decide) (x' := (⟨X, (ay s x5_1).f1⟩ : S84)) (k84_mkM _ _ _ (⟨X, (ay s x5_1).f1⟩ : S84) ) (fun _ hk => hk); have bJ := aH 0 _ rfl; (try simp only [show (k84).sz = 2 from rfl, Nat.mul_one, Nat.add_zero] at bJ); have bK := aZ 0; (try simp only [show (k84).sz = 2 from rfl, Nat.mul_one, Nat.add_zero] at bK); clear aX aH aZ aY) | ((with_reducible refine gate_store (t := 9) (p := 17) rfl ?_); refine store_event (t := 9) (p := 17) (v := ?vo_w12) (w1 := (M.setCell ⟨y, (x5_1 : Int).toNat * 2, none⟩ (.string X))) ?hg ?ho ?hn ?hr ?_; (case ho => rfl); (case hg => rfl); (case hn => rfl); (case hr => first | (go_simp; done) | (go_simp; rfl)); intro aJ hw; have hg : M.grownBy aJ (some y) := (by rw [hw]; exact aI.2); have hp_ : Kd.R k84 84 aJ w0.heap.size (fun k_ => (P0_ k_ ∨ w.heap.size <= k_)) (.slice (some ⟨y, 0, none⟩) s.length aC) I := (by rw [hw, bD.out]; exact aI.1); clear aI; replace HB := aM ((by rw [hw]; exact aa (HB.out) aU.out : Below w0.heap.size w0 aJ)); replace HK := aM (Kept.of_grown (S := (fun k_ => P0_ k_)) hg (Z34) (fun k_ e_ => (HO_0.out.1 k_ e_))); replace HO_0 := aM (hp_); clear hg hw hp_) | ((with_reducible refine gC 62 ?_); refine gL 23 func62 #[.int .i64 (wrap64 (D + 1))] ?_; (with_reducible refine (cb.calls U (wrap64 (D + 1)) J _ A7.out).mono ?_); rintro e O ⟨rfl, hb⟩; refine ⟨_, rfl, ?_⟩; replace HO_0 := aM (Kd.R_below (Z56) hb); replace HK := aM (Kept.below (S := (fun k_ => P0_ k_)) (Z34) hb); replace HB := aM (ae (Z0) hb); (try clear hb); have p8 : 0 <= (x5_1 : Int) := dT (Z4); have q8 : (x5_1 : Int) < ((s.length : Int) : Int) := dT (Z4); obtain ⟨b2, bL, a2, aL, aN⟩ := Kd.R_elem HO_0.out z84 (x5_1 : Int) p8 q8; obtain rfl := k84_openM a2; have b6 : O.cell? ⟨y, (x5_1 : Int).toNat * 2, none⟩ = some (.string ((ay I x5_1).f0)) := aL 0 _ rfl; have b7 : O.cell? ⟨y, (x5_1 : Int).toNat * 2 + 1, none⟩ = some (.string ((ay I x5_1).f1)) := aL 1 _ rfl; have b8 : O.frozen? ⟨y, (x5_1 : Int).toNat * 2, none⟩ = false := aN 0; have b9 : O.frozen? ⟨y, (x5_1 : Int).toNat * 2 + 1, none⟩ = false := aN 1; clear bL aL aN a2; replace p8 := bh p8; replace q8 := bh q8; have a3 := aM (show Kd.R k84 84 O w0.heap.size (fun k_ => (P0_ k_ ∨ w.heap.size <= k_)) (.slice (some ⟨y, 0, none⟩) s.length aC) I from (Z56)); obtain ⟨cA, a5, a6, aO, a7⟩ := Kd.R_elem a3.out z84 (x5_1 : Int) (dT (Z4)) (by have h_ : (x5_1 : Int) < ((s.length : Int) : Int) := dT (Z4); first | exact h_ | (have e_ := (Kd.R_reads' HO_0.out).1; omega) | simpa using h_); obtain rfl := k84_openM a6; have aP := Kd.R_seg a3.out (x5_1 : Int) (dT (Z4)) (by have h_ : (x5_1 : Int) < ((s.length : Int) : Int) := dT (Z4); first | exact h_ | (have e_ := (Kd.R_reads' HO_0.out).1; omega) | simpa using h_) (seg := [.string J]) (j := 1) a5 aO (show 2 <= 2 from by decide) (x' := (⟨(ay I x5_1).f0, J⟩ : S84)) (k84_mkM _ _ _ (⟨(ay I x5_1).f0, J⟩ : S84) ) (fun _ hk => hk); have bM := aO 1 _ rfl; (try simp only [show (k84).sz = 2 from rfl, Nat.mul_one, Nat.add_zero] at bM); have bN := a7 1; (try simp only [show (k84).sz = 2 from rfl, Nat.mul_one, Nat.add_zero] at bN); clear a5 aO a7 a6) | ((with_reducible refine gate_store (t := 9) (p := 25) rfl ?_); refine store_event (t := 9) (p := 25) (v := ?vo_w15) (w1 := (O.setCell ⟨y, (x5_1 : Int).toNat * 2 + 1, none⟩ (.string J))) ?hg ?ho ?hn ?hr ?_; (case ho => rfl); (case hg => rfl); (case hn => rfl); (case hr => first | (go_simp; done) | (go_simp; rfl)); intro aQ hw; have hg : O.grownBy aQ (some y) := (by rw [hw]; exact aP.2); have hp_ : Kd.R k84 84 aQ w0.heap.size (fun k_ => (P0_ k_ ∨ w.heap.size <= k_)) (.slice (some ⟨y, 0, none⟩) s.length aC) aD := (by rw [hw, bF.out]; exact aP.1); clear aP; replace HB := aM ((by rw [hw]; exact aa (HB.out) aU.out : Below w0.heap.size w0 aQ)); replace HK := aM (Kept.of_grown (S := (fun k_ => P0_ k_)) hg (Z34) (fun k_ e_ => (HO_0.out.1 k_ e_))); replace HO_0 := aM (hp_); clear hg hw hp_))
    go_roundg U
    case measure => have := HK1.out; omega
    case rel => exact ⟨(aD), (wrap64 ((wrap64 (D + 1)) + 1)), (wrap64 (x5_1 + 1)), (Z3), (Z3), H', ⟨Z85⟩, ⟨Z56⟩, ⟨Z34⟩, ⟨Z0⟩⟩
   rw [if_neg c3] at H
   have bB := ba c3
   clear c3
   simp only [Option.some.injEq, Prod.mk.injEq] at H
   obtain ⟨rfl, rfl⟩ := H
   obtain ⟨cC, cD, bO⟩ := Kd.R_slice HO_0.out
   subst bO
   go_wp2
   go_ret
   exact ⟨Z1, Z56, Z0, Z34⟩
def gu.f (k : Nat) (D : Int) (I : Int) (J : Int) (M : Int) (O : ByteArray) (y : List (S84)) (a1 : Int) : Option (Int × (List (S84))) := (dx.f k y a1).bind fun s => (some (s.1, s.2))
theorem gu.calls (k : Nat) (J : Int) (M : Int) (O : Int) (U : Int) (X : ByteArray) (P0_5_ : Nat -> Prop) (u9000_ : Value) (y : List (S84)) (a1 : Int) (Z : Int) (r2 : List (S84)) (w0 w : World) (hB : Below w0.heap.size w0 w) (aE : Kd.R k84 84 w w0.heap.size P0_5_ u9000_ y) (h : gu.f k J M O U X y a1 = some (Z, r2)) :
  Calls prog 13 #[.agg #[.int .i64 J, .int .i64 M, .int .i64 O, .int .i64 U, .string X, u9000_], .int .i64 a1] w fun e w' => e = .returned (.int .i64 Z) /\ Kd.R k84 84 w' w0.heap.size (fun k_ => (P0_5_ k_ ∨ w.heap.size <= k_)) u9000_ r2 /\ Below w0.heap.size w0 w' /\ Kept w w' (fun k_ => P0_5_ k_) := by
 have aJ := underlying41
 have s := aM (show Kd.R k84 84 w w0.heap.size (fun k_ => (P0_5_ k_ ∨ w.heap.size <= k_)) u9000_ y from Kd.R_mono aE (fun k_ hk => (.inl hk)))
 have HK := aM (Kept.refl w (fun k_ => P0_5_ k_))
 have aK := aM hB.size
 have HB := aM hB
 clear hB
 have H := h
 clear h
 unfold gu.f at H
 obtain ⟨⟨aF, aG⟩, A3, H⟩ := cz H
 try dsimp only at H
 simp only [Option.some.injEq, Prod.mk.injEq] at H
 obtain ⟨rfl, rfl⟩ := H
 obtain ⟨D, I, aI⟩ := Kd.R_slice s.out
 subst aI
 go_enter func13, ntmps13
 go_wp2_with (first | ((with_reducible refine gD 2 ?_); refine bxE 2 #[.int .i64 J, .int .i64 M, .int .i64 O, .int .i64 U, .string X, .slice D y.length I] 41 ?_; intro aB hg w5 hbox hb; replace s := aM (Kd.R_below (by (with_reducible repeat (first | apply Kd.R_alloc | apply Kd.R_drewN | apply Kd.R_drew)); exact s.out) hb); have Y := aM (hbox); have GW485 := aM ((by rw [hg]; exact (by first | exact HK.out.1 | exact (show Kept w _ (fun k_ => P0_5_ k_) from by repeat (first | (with_reducible first | exact HK.out | apply Kept.alloc | apply Kept.drewN | apply Kept.drew) | exact HK.out)).1) : w.heap.size <= aB)); replace HK := aM (Kept.below (S := (fun k_ => P0_5_ k_)) (Z34) hb); have aC := aM ((by rw [hg]; exact (ct (Z0)) : w0.heap.size <= aB)); replace HB := aM (ae (Z0) hb); clear hb hbox hg; refine bD6 Y ?_; intros) | ((with_reducible refine gC 32 ?_); refine gL 8 func32 #[.slice D y.length I, .int .i64 a1] ?_; (with_reducible refine (dx.calls k (fun k_ => some k_ = (.slice D y.length I : Value).ownBlock) (.slice D y.length I) y a1 aF aG w0 _ ?Y1 ?Y2 A3.out).mono ?_); (case Y1 => repeat (first | (with_reducible first | exact HB.out | apply ab | apply af | apply ac | refine aa ?_ aC.out) | exact HB.out)); (case Y2 => exact Kd.R_tight rfl s.out); rintro e w7 ⟨rfl, aD, hb, hkp⟩; refine ⟨_, rfl, ?_⟩; replace Y := aM (blk_kept Y.out hkp (fun hs_ => (fun e_ => (Kd.R_ne s.out Y.out (Z68)) e_) hs_)); replace HK := aM (Kept.then_ (S := (fun k_ => P0_5_ k_)) (Z184) hkp (fun k_ hs_ => (fun e_ => (s.out.1 k_ e_.symm)) hs_)); replace s := aM (Kd.R_reok rfl aD (fun k_ e_ => s.out.1 k_ e_)); replace HB := aM (hb); (try clear hb); (try clear hkp); (try clear aD)))
 go_ret
 exact ⟨Z1, by (with_reducible repeat (first | apply Kd.R_alloc | apply Kd.R_drewN | apply Kd.R_drew)); exact s.out, by repeat (first | (with_reducible first | exact HB.out | apply ab | apply af | apply ac | refine aa ?_ aC.out) | exact HB.out), Z184⟩
def cm.l0 : Nat -> List (S113) -> Int -> Int -> Option (Int)
 | 0, _, _, _ => none
 | k + 1, x0, x1, x5 => if x5 < (x0.length : Int) then (if 0 <= x5 then (if ((ar x0 x5).f0) = x1 then (if ((ar x0 x5).f1) = (wrap64 (x1 + 1)) then ((cb.f k (wrap64 ((wrap64 (x1 + 1)) + 1))).bind fun s => (if ((ar x0 x5).f2).toList = s.toList then (cm.l0 k x0 (wrap64 ((wrap64 ((wrap64 (x1 + 1)) + 1)) + 1)) (wrap64 (x5 + 1))) else (some (-1)))) else (some (-1))) else (some (-1))) else (none)) else (some x1)
def cm.f (k : Nat) (l0 : List (S113)) (a1 : Int) : Option (Int) := cm.l0 k l0 a1 0
def cm.T10 : Bool × List (List Nat × List Nat) := (true, [([], []), ([], []), ([0, 1], [0, 1]), ([2], [2]), ([3], [3]), ([], []), ([5], [5]), ([4, 6], [4, 6])])
def cm.B10 : List Nat := [0, 0, 3, 7, 15, 0, 32, 127]
theorem cm.tab10 : rtab .any (opsOf Tryz.f65 10) = cm.T10 := by kernel_rfl
theorem cm.bits10 : waitsOk cm.T10.2 cm.B10 = true := by kernel_rfl
theorem cm.calls (k : Nat) (A0 : Option Addr) (c0 : Nat) (l0 : List (S113)) (a1 : Int) (r : Int) (w : World) (hr0 : Kd.C k113 w A0 l0.length l0) (aS : l0.length <= c0) (h : cm.f k l0 a1 = some r) :
  Calls prog 65 #[.slice A0 l0.length c0, .int .i64 a1] w fun e w' => e = .returned (.int .i64 r) /\ Below w.heap.size w w' := by
 replace hr0 := aM hr0
 replace aS := aM aS
 have HB := aM (bi w.heap.size w)
 have H := h
 clear h
 unfold cm.f at H
 have H' := aM H
 clear H
 go_enter func65, ntmps65
 go_wp2
 go_loopg [1, 5] k (fun kq v1 v5 w' => ∃ (U : Int) (x5_1 : Int), v1 = .int .i64 U /\ v5 = .int .i64 x5_1 /\ ap (cm.l0 kq l0 U x5_1 = some r) /\ ap (kq <= k) /\ ap (Below w.heap.size w w'))
 case atStart => exact ⟨(a1), (0), (Z3), (Z3), H', ⟨bj _⟩, ⟨Z0⟩⟩
 case round =>
  clear H'
  obtain ⟨U, x5_1, rfl, rfl, HA, HK1, HB⟩ := hrel
  cases gk with
  | zero => exact absurd HA.out (by simp [cm.l0])
  | succ k1 =>
   have H := HA.out
   clear HA
   simp only [cm.l0] at H
   by_cases c3 : x5_1 < (l0.length : Int)
   ·rw [if_pos c3] at H
    have aW := az c3
    clear c3
    obtain ⟨c4, H⟩ := ifS H
    have a6 := az c4
    clear c4
    by_cases c5 : ((ar l0 x5_1).f0) = U
    ·rw [if_pos c5] at H
     have aX := bf c5
     have aY := bc c5
     clear c5
     by_cases c6 : ((ar l0 x5_1).f1) = (wrap64 (U + 1))
     ·rw [if_pos c6] at H
      have aZ := bf c6
      have a2 := bc c6
      clear c6
      obtain ⟨aO, A7, H⟩ := cz H
      try dsimp only at H
      by_cases c8 : ((ar l0 x5_1).f2).toList = aO.toList
      ·rw [if_pos c8] at H
       have a3 := bf c8
       have a5 := bc c8
       clear c8
       have H' := aM H
       clear H
       have s : 0 <= (x5_1 : Int) := dT (Z4)
       have y : x5_1 < (l0.length : Int) := dT (Z4)
       obtain ⟨X, aE, D, I, J⟩ := ed hr0.out x5_1 s y
       cases aE
       replace D := cB HB.out D
       replace I := cB HB.out I
       replace J := cB HB.out J
       replace s := bh s
       replace y := bh y
       have M : 0 <= (x5_1 : Int) := dT (Z4)
       have O : x5_1 < (l0.length : Int) := dT (Z4)
       obtain ⟨aH, aI, aB, aC, aD⟩ := ed hr0.out x5_1 M O
       obtain rfl : X = aH := (by injection aI)
       replace aB := cB HB.out aB
       replace aC := cB HB.out aC
       replace aD := cB HB.out aD
       replace M := bh M
       replace O := bh O
       try go_wp2
       replace HB := aM (ac HB.out)
       have aF : 0 <= (x5_1 : Int) := dT (Z4)
       have aG : x5_1 < (l0.length : Int) := dT (Z4)
       obtain ⟨aP, aQ, Y, Z, aA⟩ := ed hr0.out x5_1 aF aG
       have aJ := aA
       have aK := Z
       have aL := Y
       obtain rfl : X = aP := (by injection aQ)
       replace Y := cB HB.out Y
       replace Z := cB HB.out Z
       replace aA := cB HB.out aA
       replace aF := bh aF
       replace aG := bh aG
       refine fe (n := 8) (S := fun w' => qa3 (X.add ((x5_1).toNat * 3)) (.int .i64 ((ar l0 x5_1).f0)) (.int .i64 ((ar l0 x5_1).f1)) (.string ((ar l0 x5_1).f2)) w') (ds := []) #[false, false, false, false, false, false, false, false] (Z16) rfl rfl ⟨(cB HB.out aL :), ⟨(cB HB.out aK :), (cB HB.out aJ :)⟩⟩ (fun hHeld => ?_); refine df cm.tab10 cm.bits10 (fun HT_ HW_ => ?_)
       generalize wr.drew = w9 at HB Y Z aA hHeld ⊢
       refine pA 0 30 ?_
       refine pA 1 31 ?_
       refine pA 2 32 ?_
       refine pA 3 33 ?_
       refine pA 5 35 ?_
       refine tA 4 34 ?_
       refine oA 6 36 (fun K hK => ?_)
       refine fl func62 (Z16) rfl #[.int .i64 (wrap64 ((wrap64 (U + 1)) + 1))] (Z96) rfl rfl (Z2) ?_
       with_reducible refine (cb.calls k1 (wrap64 ((wrap64 (U + 1)) + 1)) aO _ A7.out).mono ?_
       rintro e a8 ⟨rfl, hb⟩
       refine ⟨_, rfl, ?_⟩
       replace HB := aM (ae (Z0) hb)
       (try clear hb)
       refine hK.out _ _ ⟨(cB HB.out aL :), ⟨(cB HB.out aK :), (cB HB.out aJ :)⟩⟩ (fun hHeld => ?_)
       clear hK K
       refine nB 36 ?_
       refine pA 7 37 ?_
       refine gh (ei HT_.out (Z16)) ?_
       try go_wp2
       go_roundg k1
       case measure => have := HK1.out; omega
       case rel => exact ⟨(wrap64 ((wrap64 ((wrap64 (U + 1)) + 1)) + 1)), (wrap64 (x5_1 + 1)), (Z3), (Z3), H', ⟨Z85⟩, ⟨Z0⟩⟩
      rw [if_neg c8] at H
      have a3 := bb c8
      have a5 := bg c8
      obtain rfl := oI H
      have s : 0 <= (x5_1 : Int) := dT (Z4)
      have y : x5_1 < (l0.length : Int) := dT (Z4)
      obtain ⟨X, aE, D, I, J⟩ := ed hr0.out x5_1 s y
      cases aE
      replace D := cB HB.out D
      replace I := cB HB.out I
      replace J := cB HB.out J
      replace s := bh s
      replace y := bh y
      have M : 0 <= (x5_1 : Int) := dT (Z4)
      have O : x5_1 < (l0.length : Int) := dT (Z4)
      obtain ⟨aH, aI, aB, aC, aD⟩ := ed hr0.out x5_1 M O
      obtain rfl : X = aH := (by injection aI)
      replace aB := cB HB.out aB
      replace aC := cB HB.out aC
      replace aD := cB HB.out aD
      replace M := bh M
      replace O := bh O
      try go_wp2
      replace HB := aM (ac HB.out)
      have aF : 0 <= (x5_1 : Int) := dT (Z4)
      have aG : x5_1 < (l0.length : Int) := dT (Z4)
      obtain ⟨aP, aQ, Y, Z, aA⟩ := ed hr0.out x5_1 aF aG
      have aJ := aA
      have aK := Z
      have aL := Y
      obtain rfl : X = aP := (by injection aQ)
      replace Y := cB HB.out Y
      replace Z := cB HB.out Z
      replace aA := cB HB.out aA
      replace aF := bh aF
      replace aG := bh aG
      refine fe (n := 8) (S := fun w' => qa3 (X.add ((x5_1).toNat * 3)) (.int .i64 ((ar l0 x5_1).f0)) (.int .i64 ((ar l0 x5_1).f1)) (.string ((ar l0 x5_1).f2)) w') (ds := []) #[false, false, false, false, false, false, false, false] (Z16) rfl rfl ⟨(cB HB.out aL :), ⟨(cB HB.out aK :), (cB HB.out aJ :)⟩⟩ (fun hHeld => ?_); refine df cm.tab10 cm.bits10 (fun HT_ HW_ => ?_)
      generalize wr.drew = a9 at HB Y Z aA hHeld ⊢
      refine pA 0 30 ?_
      refine pA 1 31 ?_
      refine pA 2 32 ?_
      refine pA 3 33 ?_
      refine pA 5 35 ?_
      refine tA 4 34 ?_
      refine oA 6 36 (fun K hK => ?_)
      refine fl func62 (Z16) rfl #[.int .i64 (wrap64 ((wrap64 (U + 1)) + 1))] (Z96) rfl rfl (Z2) ?_
      with_reducible refine (cb.calls k1 (wrap64 ((wrap64 (U + 1)) + 1)) aO _ A7.out).mono ?_
      rintro e bA ⟨rfl, hb⟩
      refine ⟨_, rfl, ?_⟩
      replace HB := aM (ae (Z0) hb)
      (try clear hb)
      refine hK.out _ _ ⟨(cB HB.out aL :), ⟨(cB HB.out aK :), (cB HB.out aJ :)⟩⟩ (fun hHeld => ?_)
      clear hK K
      refine nB 36 ?_
      refine pA 7 37 ?_
      refine gh (ei HT_.out (Z16)) ?_
      try go_wp2
      go_ret
      exact ⟨Z1, Z0⟩
     rw [if_neg c6] at H
     have aZ := bb c6
     have a2 := bg c6
     obtain rfl := oI H
     have s : 0 <= (x5_1 : Int) := dT (Z4)
     have y : x5_1 < (l0.length : Int) := dT (Z4)
     obtain ⟨X, aE, D, I, J⟩ := ed hr0.out x5_1 s y
     cases aE
     replace D := cB HB.out D
     replace I := cB HB.out I
     replace J := cB HB.out J
     replace s := bh s
     replace y := bh y
     have M : 0 <= (x5_1 : Int) := dT (Z4)
     have O : x5_1 < (l0.length : Int) := dT (Z4)
     obtain ⟨aH, aI, aB, aC, aD⟩ := ed hr0.out x5_1 M O
     obtain rfl : X = aH := (by injection aI)
     replace aB := cB HB.out aB
     replace aC := cB HB.out aC
     replace aD := cB HB.out aD
     replace M := bh M
     replace O := bh O
     go_wp2
     go_ret
     exact ⟨Z1, Z0⟩
    rw [if_neg c5] at H
    have aX := bb c5
    have aY := bg c5
    obtain rfl := oI H
    have s : 0 <= (x5_1 : Int) := dT (Z4)
    have y : x5_1 < (l0.length : Int) := dT (Z4)
    obtain ⟨X, aE, D, I, J⟩ := ed hr0.out x5_1 s y
    cases aE
    replace D := cB HB.out D
    replace I := cB HB.out I
    replace J := cB HB.out J
    replace s := bh s
    replace y := bh y
    go_wp2
    go_ret
    exact ⟨Z1, Z0⟩
   rw [if_neg c3] at H
   have aW := ba c3
   clear c3
   obtain rfl := oI H
   go_wp2
   go_ret
   exact ⟨Z1, Z0⟩
def dk.l0 : Nat -> List ByteArray -> Int -> Int -> Option (Int)
 | 0, _, _, _ => none
 | k + 1, x0, x1, x5 => if x5 < (x0.length : Int) then (if 0 <= x5 then ((cb.f k x1).bind fun s => (if (gb ByteArray.empty x0 x5).toList = s.toList then (dk.l0 k x0 (wrap64 (x1 + 1)) (wrap64 (x5 + 1))) else (some (-1)))) else (none)) else (some x1)
def dk.f (k : Nat) (l0 : List ByteArray) (a1 : Int) : Option (Int) := dk.l0 k l0 a1 0
theorem dk.calls (k : Nat) (Y : Option Addr) (c0 : Nat) (l0 : List ByteArray) (a1 : Int) (r : Int) (w : World) (hr0 : Kd.C Kd.string w Y l0.length l0) (Z : l0.length <= c0) (h : dk.f k l0 a1 = some r) :
  Calls prog 66 #[.slice Y l0.length c0, .int .i64 a1] w fun e w' => e = .returned (.int .i64 r) /\ Below w.heap.size w w' := by
 replace hr0 := aM hr0
 replace Z := aM Z
 have HB := aM (bi w.heap.size w)
 have H := h
 clear h
 unfold dk.f at H
 have H' := aM H
 clear H
 go_enter func66, ntmps66
 go_wp2
 go_loopg [1, 5] k (fun kq v1 v5 w' => ∃ (y : Int) (x5_1 : Int), v1 = .int .i64 y /\ v5 = .int .i64 x5_1 /\ ap (dk.l0 kq l0 y x5_1 = some r) /\ ap (kq <= k) /\ ap (Below w.heap.size w w'))
 case atStart => exact ⟨(a1), (0), (Z3), (Z3), H', ⟨bj _⟩, ⟨Z0⟩⟩
 case round =>
  clear H'
  obtain ⟨y, x5_1, rfl, rfl, HA, HK1, HB⟩ := hrel
  cases gk with
  | zero => exact absurd HA.out (by simp [dk.l0])
  | succ M =>
   have H := HA.out
   clear HA
   simp only [dk.l0] at H
   by_cases c3 : x5_1 < (l0.length : Int)
   ·rw [if_pos c3] at H
    have aD := az c3
    clear c3
    obtain ⟨c4, H⟩ := ifS H
    have aH := az c4
    clear c4
    obtain ⟨O, A5, H⟩ := cz H
    try dsimp only at H
    by_cases c6 : (gb ByteArray.empty l0 x5_1).toList = O.toList
    ·rw [if_pos c6] at H
     have aE := bf c6
     have aF := bc c6
     clear c6
     have H' := aM H
     clear H
     try go_wp2
     replace HB := aM (ac HB.out)
     have D : 0 <= (x5_1 : Int) := dT (Z4)
     have I : x5_1 < (l0.length : Int) := dT (Z4)
     obtain ⟨U, X, s⟩ := Kd.at_string hr0.out x5_1 D I
     have J := s
     cases X
     replace s := cB HB.out s
     replace D := bh D
     replace I := bh I
     refine fe (n := 7) (S := fun w' => w'.cell? (U.add (x5_1).toNat) = some (.string (gb ByteArray.empty l0 x5_1))) (ds := []) #[false, false, false, false, false, false, false] (Z16) rfl rfl ((cB HB.out J :)) (fun hHeld => ?_)
     generalize wr.drew = w7 at HB s hHeld ⊢
     refine pA 0 12 ?_
     refine pA 1 13 ?_
     refine pA 2 14 ?_
     refine pA 4 16 ?_
     refine take_ (i := 3) (N := some 15) (v := ?_) (a' := ?_) #[true, true, true, true, true, false, false] rfl rfl (Z16) (fun _ _ _ h => h) (Or.inl ⟨Z96, ?_⟩) hHeld ?_ ?_
     rotate_left
     ·intro w' s0
      go_simp
      with_reducible rfl
     rotate_left
     ·simp only [Act.put, List.setIfInBounds_toArray, List.set_cons_zero, List.set_cons_succ, i64_w, i32_w]
      rfl
     refine oA 5 17 (fun K hK => ?_)
     refine fl func62 (Z16) rfl #[.int .i64 y] (Z96) rfl rfl (Z2) ?_
     with_reducible refine (cb.calls M y O _ A5.out).mono ?_
     rintro e w8 ⟨rfl, hb⟩
     refine ⟨_, rfl, ?_⟩
     replace HB := aM (ae (Z0) hb)
     (try clear hb)
     refine hK.out _ _ ((cB HB.out J :)) (fun hHeld => ?_)
     clear hK K
     refine nB 17 ?_
     refine pA 6 18 ?_
     refine gh (Z16) ?_
     try go_wp2
     go_roundg M
     case measure => have := HK1.out; omega
     case rel => exact ⟨(wrap64 (y + 1)), (wrap64 (x5_1 + 1)), (Z3), (Z3), H', ⟨Z85⟩, ⟨Z0⟩⟩
    rw [if_neg c6] at H
    have aE := bb c6
    have aF := bg c6
    obtain rfl := oI H
    try go_wp2
    replace HB := aM (ac HB.out)
    have D : 0 <= (x5_1 : Int) := dT (Z4)
    have I : x5_1 < (l0.length : Int) := dT (Z4)
    obtain ⟨U, X, s⟩ := Kd.at_string hr0.out x5_1 D I
    have J := s
    cases X
    replace s := cB HB.out s
    replace D := bh D
    replace I := bh I
    refine fe (n := 7) (S := fun w' => w'.cell? (U.add (x5_1).toNat) = some (.string (gb ByteArray.empty l0 x5_1))) (ds := []) #[false, false, false, false, false, false, false] (Z16) rfl rfl ((cB HB.out J :)) (fun hHeld => ?_)
    generalize wr.drew = w9 at HB s hHeld ⊢
    refine pA 0 12 ?_
    refine pA 1 13 ?_
    refine pA 2 14 ?_
    refine pA 4 16 ?_
    refine take_ (i := 3) (N := some 15) (v := ?_) (a' := ?_) #[true, true, true, true, true, false, false] rfl rfl (Z16) (fun _ _ _ h => h) (Or.inl ⟨Z96, ?_⟩) hHeld ?_ ?_
    rotate_left
    ·intro w' s0
     go_simp
     with_reducible rfl
    rotate_left
    ·simp only [Act.put, List.setIfInBounds_toArray, List.set_cons_zero, List.set_cons_succ, i64_w, i32_w]
     rfl
    refine oA 5 17 (fun K hK => ?_)
    refine fl func62 (Z16) rfl #[.int .i64 y] (Z96) rfl rfl (Z2) ?_
    with_reducible refine (cb.calls M y O _ A5.out).mono ?_
    rintro e aK ⟨rfl, hb⟩
    refine ⟨_, rfl, ?_⟩
    replace HB := aM (ae (Z0) hb)
    (try clear hb)
    refine hK.out _ _ ((cB HB.out J :)) (fun hHeld => ?_)
    clear hK K
    refine nB 17 ?_
    refine pA 6 18 ?_
    refine gh (Z16) ?_
    try go_wp2
    go_ret
    exact ⟨Z1, Z0⟩
   rw [if_neg c3] at H
   have aD := ba c3
   clear c3
   obtain rfl := oI H
   go_wp2
   go_ret
   exact ⟨Z1, Z0⟩
def cq.l0 : Nat -> List (S82) -> Int -> Int -> Option (Int)
 | 0, _, _, _ => none
 | k + 1, x0, x1, x5 => if x5 < (x0.length : Int) then (if 0 <= x5 then ((cb.f k x1).bind fun D => (if ((ax x0 x5).f0).toList = D.toList then (if ((ax x0 x5).f1) = (wrap64 (x1 + 1)) then (if ((ax x0 x5).f2) = (wrap64 ((wrap64 (x1 + 1)) + 1)) then ((cm.f k ((ax x0 x5).f3) (wrap64 ((wrap64 ((wrap64 (x1 + 1)) + 1)) + 1))).bind fun s => (if s < 0 then (some (-1)) else ((dk.f k ((ax x0 x5).f4) s).bind fun y => (if y < 0 then (some (-1)) else (cq.l0 k x0 y (wrap64 (x5 + 1))))))) else (some (-1))) else (some (-1))) else (some (-1)))) else (none)) else (some x1)
def cq.f (k : Nat) (l0 : List (S82)) (a1 : Int) : Option (Int) := cq.l0 k l0 a1 0
def cq.T4 : Bool × List (List Nat × List Nat) := (true, [([], []), ([], []), ([0, 1], [0, 1]), ([2], [2]), ([3], [3]), ([], []), ([5], [5]), ([4, 6], [4, 6])])
def cq.B4 : List Nat := [0, 0, 3, 7, 15, 0, 32, 127]
theorem cq.tab4 : rtab .any (opsOf Tryz.f33 4) = cq.T4 := by kernel_rfl
theorem cq.bits4 : waitsOk cq.T4.2 cq.B4 = true := by kernel_rfl
theorem cq.calls (k : Nat) (A0 : Option Addr) (c0 : Nat) (l0 : List (S82)) (a1 : Int) (r : Int) (w : World) (hr0 : Kd.C k82 w A0 l0.length l0) (dM : l0.length <= c0) (h : cq.f k l0 a1 = some r) :
  Calls prog 33 #[.slice A0 l0.length c0, .int .i64 a1] w fun e w' => e = .returned (.int .i64 r) /\ Below w.heap.size w w' := by
 replace hr0 := aM hr0
 replace dM := aM dM
 have HB := aM (bi w.heap.size w)
 have H := h
 clear h
 unfold cq.f at H
 have H' := aM H
 clear H
 go_enter func33, ntmps33
 go_wp2
 go_loopg [1, 5] k (fun kq v1 v5 w' => ∃ (X : Int) (x5_1 : Int), v1 = .int .i64 X /\ v5 = .int .i64 x5_1 /\ ap (cq.l0 kq l0 X x5_1 = some r) /\ ap (kq <= k) /\ ap (Below w.heap.size w w'))
 case atStart => exact ⟨(a1), (0), (Z3), (Z3), H', ⟨bj _⟩, ⟨Z0⟩⟩
 case round =>
  clear H'
  obtain ⟨X, x5_1, rfl, rfl, HA, HK1, HB⟩ := hrel
  cases gk with
  | zero => exact absurd HA.out (by simp [cq.l0])
  | succ k1 =>
   have H := HA.out
   clear HA
   simp only [cq.l0] at H
   by_cases c3 : x5_1 < (l0.length : Int)
   ·rw [if_pos c3] at H
    have dW := az c3
    clear c3
    obtain ⟨c4, H⟩ := ifS H
    have eC := az c4
    clear c4
    obtain ⟨bT, A5, H⟩ := cz H
    try dsimp only at H
    by_cases c6 : ((ax l0 x5_1).f0).toList = bT.toList
    ·rw [if_pos c6] at H
     have dX := bf c6
     have dY := bc c6
     clear c6
     by_cases c7 : ((ax l0 x5_1).f1) = (wrap64 (X + 1))
     ·rw [if_pos c7] at H
      have dZ := bf c7
      have d0 := bc c7
      clear c7
      by_cases c8 : ((ax l0 x5_1).f2) = (wrap64 ((wrap64 (X + 1)) + 1))
      ·rw [if_pos c8] at H
       have d1 := bf c8
       have d2 := bc c8
       clear c8
       obtain ⟨bL, A9, H⟩ := cz H
       try dsimp only at H
       by_cases c10 : bL < 0
       ·rw [if_pos c10] at H
        have d3 := az c10
        clear c10
        obtain rfl := oI H
        try go_wp2
        replace HB := aM (ac HB.out)
        have Y : 0 <= (x5_1 : Int) := dT (Z4)
        have Z : x5_1 < (l0.length : Int) := dT (Z4)
        obtain ⟨U, aY, aZ, a2, a3, a5, s, y, D, I, J, aE, aF, aG, aH⟩ := em hr0.out x5_1 Y Z
        have aA := J
        have aB := I
        have aI := D
        have aJ := y
        have aK := s
        cases a5
        replace s := cB HB.out s
        replace y := cB HB.out y
        replace D := cB HB.out D
        replace I := cB HB.out I
        replace J := cB HB.out J
        have a6 := aM aF
        have b2 := aM aE
        clear aF aE
        have a7 := aM aH
        have b6 := aM aG
        clear aH aG
        replace Y := bh Y
        replace Z := bh Z
        refine fe (n := 8) (S := fun w' => qa5 (U.add ((x5_1).toNat * 5)) (.string ((ax l0 x5_1).f0)) (.int .i64 ((ax l0 x5_1).f1)) (.int .i64 ((ax l0 x5_1).f2)) (.slice aY ((ax l0 x5_1).f3).length aZ) (.slice a2 ((ax l0 x5_1).f4).length a3) w') (ds := []) #[false, false, false, false, false, false, false, false] (Z16) rfl rfl ⟨(cB HB.out aK :), ⟨(cB HB.out aJ :), ⟨(cB HB.out aI :), ⟨(cB HB.out aB :), (cB HB.out aA :)⟩⟩⟩⟩ (fun hHeld => ?_); refine df cq.tab4 cq.bits4 (fun HT_ HW_ => ?_)
        generalize wr.drew = eD at HB a6 a7 s y D I J hHeld ⊢
        refine pA 0 12 ?_
        refine pA 1 13 ?_
        refine pA 2 14 ?_
        refine pA 3 15 ?_
        refine pA 5 17 ?_
        refine tA 4 16 ?_
        refine oA 6 18 (fun K hK => ?_)
        refine fl func62 (Z16) rfl #[.int .i64 X] (Z96) rfl rfl (Z2) ?_
        with_reducible refine (cb.calls k1 X bT _ A5.out).mono ?_
        rintro e eE ⟨rfl, hb⟩
        refine ⟨_, rfl, ?_⟩
        replace HB := aM (ae (Z0) hb)
        (try clear hb)
        refine hK.out _ _ ⟨(cB HB.out aK :), ⟨(cB HB.out aJ :), ⟨(cB HB.out aI :), ⟨(cB HB.out aB :), (cB HB.out aA :)⟩⟩⟩⟩ (fun hHeld => ?_)
        clear hK K
        refine nB 18 ?_
        refine pA 7 19 ?_
        refine gh (ei HT_.out (Z16)) ?_
        have aC : 0 <= (x5_1 : Int) := dT (Z4)
        have aD : x5_1 < (l0.length : Int) := dT (Z4)
        obtain ⟨bJ, bU, bV, cN, cO, bK, aQ, aR, aS, M, O, aT, aU, aV, aW⟩ := em hr0.out x5_1 aC aD
        obtain rfl : U = bJ := (by injection bK)
        (try (have ea_ := Option.some.inj (M.symm.trans aB); injection ea_ with ea_ en_ ec_; subst ea_; subst ec_; clear en_))
        (try (have ea_ := Option.some.inj (O.symm.trans aA); injection ea_ with ea_ en_ ec_; subst ea_; subst ec_; clear en_))
        replace aQ := cB HB.out aQ
        replace aR := cB HB.out aR
        replace aS := cB HB.out aS
        replace M := cB HB.out M
        replace O := cB HB.out O
        have cP := aM aU
        have cQ := aM aT
        clear aU aT
        have cR := aM aW
        have cS := aM aV
        clear aW aV
        replace aC := bh aC
        replace aD := bh aD
        have aL : 0 <= (x5_1 : Int) := dT (Z4)
        have aN : x5_1 < (l0.length : Int) := dT (Z4)
        obtain ⟨bW, cX, cY, cZ, dA, bX, a8, a9, bA, aO, aP, bB, bC, bD, bE⟩ := em hr0.out x5_1 aL aN
        obtain rfl : U = bW := (by injection bX)
        replace a8 := cB HB.out a8
        replace a9 := cB HB.out a9
        replace bA := cB HB.out bA
        replace aO := cB HB.out aO
        replace aP := cB HB.out aP
        have dB := aM bC
        have dC := aM bB
        clear bC bB
        have dD := aM bE
        have dE := aM bD
        clear bE bD
        replace aL := bh aL
        replace aN := bh aN
        have ea_ := Option.some.inj (M.symm.trans aO)
        injection ea_ with ea_ en_ ec_
        subst ea_
        subst ec_
        clear en_
        have ea_ := Option.some.inj (O.symm.trans aP)
        injection ea_ with ea_ en_ ec_
        subst ea_
        subst ec_
        clear en_
        have bF : 0 <= (x5_1 : Int) := dT (Z4)
        have bG : x5_1 < (l0.length : Int) := dT (Z4)
        obtain ⟨b7, dN, dO, dP, dQ, b8, bM, bN, bO, bH, bI, bP, bQ, bR, bS⟩ := em hr0.out x5_1 bF bG
        obtain rfl : U = b7 := (by injection b8)
        replace bM := cB HB.out bM
        replace bN := cB HB.out bN
        replace bO := cB HB.out bO
        replace bH := cB HB.out bH
        replace bI := cB HB.out bI
        have b9 := aM bQ
        have cA := aM bP
        clear bQ bP
        have dR := aM bS
        have dS := aM bR
        clear bS bR
        replace bF := bh bF
        replace bG := bh bG
        have ea_ := Option.some.inj (M.symm.trans bH)
        injection ea_ with ea_ en_ ec_
        subst ea_
        subst ec_
        clear en_
        have ea_ := Option.some.inj (O.symm.trans bI)
        injection ea_ with ea_ en_ ec_
        subst ea_
        subst ec_
        clear en_
        try go_wp2_with (first | ((with_reducible refine gC 65 ?_); refine gL 46 func65 #[.slice bU ((ax l0 x5_1).f3).length bV, .int .i64 (wrap64 ((wrap64 ((wrap64 (X + 1)) + 1)) + 1))] ?_; (with_reducible refine (cm.calls k1 _ _ ((ax l0 x5_1).f3) (wrap64 ((wrap64 ((wrap64 (X + 1)) + 1)) + 1)) bL _ ?Y1 ?Y2 A9.out).mono ?_); (case Y1 => have h_ := Kd.C_below b9.out HB.out; exact tC); (case Y2 => exact cA.out); rintro e eF ⟨rfl, hb⟩; refine ⟨_, rfl, ?_⟩; replace HB := aM (ae (Z0) hb); (try clear hb); (try clear cT); (try clear hk); (try clear hi)))
        go_ret
        exact ⟨Z1, Z0⟩
       rw [if_neg c10] at H
       have d3 := ba c10
       clear c10
       obtain ⟨cU, zq, H⟩ := cz H
       try dsimp only at H
       by_cases b1 : cU < 0
       ·rw [if_pos b1] at H
        have d4 := az b1
        clear b1
        obtain rfl := oI H
        try go_wp2
        replace HB := aM (ac HB.out)
        have Y : 0 <= (x5_1 : Int) := dT (Z4)
        have Z : x5_1 < (l0.length : Int) := dT (Z4)
        obtain ⟨U, aY, aZ, a2, a3, a5, s, y, D, I, J, aE, aF, aG, aH⟩ := em hr0.out x5_1 Y Z
        have aA := J
        have aB := I
        have aI := D
        have aJ := y
        have aK := s
        cases a5
        replace s := cB HB.out s
        replace y := cB HB.out y
        replace D := cB HB.out D
        replace I := cB HB.out I
        replace J := cB HB.out J
        have a6 := aM aF
        have b2 := aM aE
        clear aF aE
        have a7 := aM aH
        have b6 := aM aG
        clear aH aG
        replace Y := bh Y
        replace Z := bh Z
        refine fe (n := 8) (S := fun w' => qa5 (U.add ((x5_1).toNat * 5)) (.string ((ax l0 x5_1).f0)) (.int .i64 ((ax l0 x5_1).f1)) (.int .i64 ((ax l0 x5_1).f2)) (.slice aY ((ax l0 x5_1).f3).length aZ) (.slice a2 ((ax l0 x5_1).f4).length a3) w') (ds := []) #[false, false, false, false, false, false, false, false] (Z16) rfl rfl ⟨(cB HB.out aK :), ⟨(cB HB.out aJ :), ⟨(cB HB.out aI :), ⟨(cB HB.out aB :), (cB HB.out aA :)⟩⟩⟩⟩ (fun hHeld => ?_); refine df cq.tab4 cq.bits4 (fun HT_ HW_ => ?_)
        generalize wr.drew = eG at HB a6 a7 s y D I J hHeld ⊢
        refine pA 0 12 ?_
        refine pA 1 13 ?_
        refine pA 2 14 ?_
        refine pA 3 15 ?_
        refine pA 5 17 ?_
        refine tA 4 16 ?_
        refine oA 6 18 (fun K hK => ?_)
        refine fl func62 (Z16) rfl #[.int .i64 X] (Z96) rfl rfl (Z2) ?_
        with_reducible refine (cb.calls k1 X bT _ A5.out).mono ?_
        rintro e eH ⟨rfl, hb⟩
        refine ⟨_, rfl, ?_⟩
        replace HB := aM (ae (Z0) hb)
        (try clear hb)
        refine hK.out _ _ ⟨(cB HB.out aK :), ⟨(cB HB.out aJ :), ⟨(cB HB.out aI :), ⟨(cB HB.out aB :), (cB HB.out aA :)⟩⟩⟩⟩ (fun hHeld => ?_)
        clear hK K
        refine nB 18 ?_
        refine pA 7 19 ?_
        refine gh (ei HT_.out (Z16)) ?_
        have aC : 0 <= (x5_1 : Int) := dT (Z4)
        have aD : x5_1 < (l0.length : Int) := dT (Z4)
        obtain ⟨bJ, bU, bV, cN, cO, bK, aQ, aR, aS, M, O, aT, aU, aV, aW⟩ := em hr0.out x5_1 aC aD
        obtain rfl : U = bJ := (by injection bK)
        (try (have ea_ := Option.some.inj (M.symm.trans aB); injection ea_ with ea_ en_ ec_; subst ea_; subst ec_; clear en_))
        (try (have ea_ := Option.some.inj (O.symm.trans aA); injection ea_ with ea_ en_ ec_; subst ea_; subst ec_; clear en_))
        replace aQ := cB HB.out aQ
        replace aR := cB HB.out aR
        replace aS := cB HB.out aS
        replace M := cB HB.out M
        replace O := cB HB.out O
        have cP := aM aU
        have cQ := aM aT
        clear aU aT
        have cR := aM aW
        have cS := aM aV
        clear aW aV
        replace aC := bh aC
        replace aD := bh aD
        have aL : 0 <= (x5_1 : Int) := dT (Z4)
        have aN : x5_1 < (l0.length : Int) := dT (Z4)
        obtain ⟨bW, cX, cY, cZ, dA, bX, a8, a9, bA, aO, aP, bB, bC, bD, bE⟩ := em hr0.out x5_1 aL aN
        obtain rfl : U = bW := (by injection bX)
        replace a8 := cB HB.out a8
        replace a9 := cB HB.out a9
        replace bA := cB HB.out bA
        replace aO := cB HB.out aO
        replace aP := cB HB.out aP
        have dB := aM bC
        have dC := aM bB
        clear bC bB
        have dD := aM bE
        have dE := aM bD
        clear bE bD
        replace aL := bh aL
        replace aN := bh aN
        have ea_ := Option.some.inj (M.symm.trans aO)
        injection ea_ with ea_ en_ ec_
        subst ea_
        subst ec_
        clear en_
        have ea_ := Option.some.inj (O.symm.trans aP)
        injection ea_ with ea_ en_ ec_
        subst ea_
        subst ec_
        clear en_
        have bF : 0 <= (x5_1 : Int) := dT (Z4)
        have bG : x5_1 < (l0.length : Int) := dT (Z4)
        obtain ⟨b7, dN, dO, dP, dQ, b8, bM, bN, bO, bH, bI, bP, bQ, bR, bS⟩ := em hr0.out x5_1 bF bG
        obtain rfl : U = b7 := (by injection b8)
        replace bM := cB HB.out bM
        replace bN := cB HB.out bN
        replace bO := cB HB.out bO
        replace bH := cB HB.out bH
        replace bI := cB HB.out bI
        have b9 := aM bQ
        have cA := aM bP
        clear bQ bP
        have dR := aM bS
        have dS := aM bR
        clear bS bR
        replace bF := bh bF
        replace bG := bh bG
        have ea_ := Option.some.inj (M.symm.trans bH)
        injection ea_ with ea_ en_ ec_
        subst ea_
        subst ec_
        clear en_
        have ea_ := Option.some.inj (O.symm.trans bI)
        injection ea_ with ea_ en_ ec_
        subst ea_
        subst ec_
        clear en_
        try go_wp2_with (first | ((with_reducible refine gC 65 ?_); refine gL 46 func65 #[.slice bU ((ax l0 x5_1).f3).length bV, .int .i64 (wrap64 ((wrap64 ((wrap64 (X + 1)) + 1)) + 1))] ?_; (with_reducible refine (cm.calls k1 _ _ ((ax l0 x5_1).f3) (wrap64 ((wrap64 ((wrap64 (X + 1)) + 1)) + 1)) bL _ ?Y1 ?Y2 A9.out).mono ?_); (case Y1 => have h_ := Kd.C_below b9.out HB.out; exact tC); (case Y2 => exact cA.out); rintro e eI ⟨rfl, hb⟩; refine ⟨_, rfl, ?_⟩; replace HB := aM (ae (Z0) hb); (try clear hb); (try clear cT); (try clear hk); (try clear hi); have bY : 0 <= (x5_1 : Int) := dT (Z4); have bZ : x5_1 < (l0.length : Int) := dT (Z4); obtain ⟨dF, d5, d6, dG, dH, dI, cC, cD, cG, cH, cI, cJ, cK, cL, cM⟩ := em hr0.out x5_1 bY bZ; obtain rfl : U = dF := (by injection dI); replace cC := cB HB.out cC; replace cD := cB HB.out cD; replace cG := cB HB.out cG; replace cH := cB HB.out cH; replace cI := cB HB.out cI; have eA := aM cK; have eB := aM cJ; clear cK cJ; have dJ := aM cM; have dK := aM cL; clear cM cL; replace bY := bh bY; replace bZ := bh bZ) | ((with_reducible refine gC 66 ?_); refine gL 55 func66 #[.slice dG ((ax l0 x5_1).f4).length dH, .int .i64 bL] ?_; (with_reducible refine (dk.calls k1 _ _ ((ax l0 x5_1).f4) bL cU _ ?Y1 ?Y2 zq.out).mono ?_); (case Y1 => have h_ := Kd.C_below dJ.out HB.out; exact tC); (case Y2 => exact dK.out); rintro e eJ ⟨rfl, hb⟩; refine ⟨_, rfl, ?_⟩; replace HB := aM (ae (Z0) hb); (try clear hb); (try clear cT); (try clear hk); (try clear hi)))
        go_ret
        exact ⟨Z1, Z0⟩
       rw [if_neg b1] at H
       have d4 := ba b1
       clear b1
       have H' := aM H
       clear H
       try go_wp2
       replace HB := aM (ac HB.out)
       have Y : 0 <= (x5_1 : Int) := dT (Z4)
       have Z : x5_1 < (l0.length : Int) := dT (Z4)
       obtain ⟨U, aY, aZ, a2, a3, a5, s, y, D, I, J, aE, aF, aG, aH⟩ := em hr0.out x5_1 Y Z
       have aA := J
       have aB := I
       have aI := D
       have aJ := y
       have aK := s
       cases a5
       replace s := cB HB.out s
       replace y := cB HB.out y
       replace D := cB HB.out D
       replace I := cB HB.out I
       replace J := cB HB.out J
       have a6 := aM aF
       have b2 := aM aE
       clear aF aE
       have a7 := aM aH
       have b6 := aM aG
       clear aH aG
       replace Y := bh Y
       replace Z := bh Z
       refine fe (n := 8) (S := fun w' => qa5 (U.add ((x5_1).toNat * 5)) (.string ((ax l0 x5_1).f0)) (.int .i64 ((ax l0 x5_1).f1)) (.int .i64 ((ax l0 x5_1).f2)) (.slice aY ((ax l0 x5_1).f3).length aZ) (.slice a2 ((ax l0 x5_1).f4).length a3) w') (ds := []) #[false, false, false, false, false, false, false, false] (Z16) rfl rfl ⟨(cB HB.out aK :), ⟨(cB HB.out aJ :), ⟨(cB HB.out aI :), ⟨(cB HB.out aB :), (cB HB.out aA :)⟩⟩⟩⟩ (fun hHeld => ?_); refine df cq.tab4 cq.bits4 (fun HT_ HW_ => ?_)
       generalize wr.drew = eK at HB a6 a7 s y D I J hHeld ⊢
       refine pA 0 12 ?_
       refine pA 1 13 ?_
       refine pA 2 14 ?_
       refine pA 3 15 ?_
       refine pA 5 17 ?_
       refine tA 4 16 ?_
       refine oA 6 18 (fun K hK => ?_)
       refine fl func62 (Z16) rfl #[.int .i64 X] (Z96) rfl rfl (Z2) ?_
       with_reducible refine (cb.calls k1 X bT _ A5.out).mono ?_
       rintro e eL ⟨rfl, hb⟩
       refine ⟨_, rfl, ?_⟩
       replace HB := aM (ae (Z0) hb)
       (try clear hb)
       refine hK.out _ _ ⟨(cB HB.out aK :), ⟨(cB HB.out aJ :), ⟨(cB HB.out aI :), ⟨(cB HB.out aB :), (cB HB.out aA :)⟩⟩⟩⟩ (fun hHeld => ?_)
       clear hK K
       refine nB 18 ?_
       refine pA 7 19 ?_
       refine gh (ei HT_.out (Z16)) ?_
       have aC : 0 <= (x5_1 : Int) := dT (Z4)
       have aD : x5_1 < (l0.length : Int) := dT (Z4)
       obtain ⟨bJ, bU, bV, cN, cO, bK, aQ, aR, aS, M, O, aT, aU, aV, aW⟩ := em hr0.out x5_1 aC aD
       obtain rfl : U = bJ := (by injection bK)
       (try (have ea_ := Option.some.inj (M.symm.trans aB); injection ea_ with ea_ en_ ec_; subst ea_; subst ec_; clear en_))
       (try (have ea_ := Option.some.inj (O.symm.trans aA); injection ea_ with ea_ en_ ec_; subst ea_; subst ec_; clear en_))
       replace aQ := cB HB.out aQ
       replace aR := cB HB.out aR
       replace aS := cB HB.out aS
       replace M := cB HB.out M
       replace O := cB HB.out O
       have cP := aM aU
       have cQ := aM aT
       clear aU aT
       have cR := aM aW
       have cS := aM aV
       clear aW aV
       replace aC := bh aC
       replace aD := bh aD
       have aL : 0 <= (x5_1 : Int) := dT (Z4)
       have aN : x5_1 < (l0.length : Int) := dT (Z4)
       obtain ⟨bW, cX, cY, cZ, dA, bX, a8, a9, bA, aO, aP, bB, bC, bD, bE⟩ := em hr0.out x5_1 aL aN
       obtain rfl : U = bW := (by injection bX)
       replace a8 := cB HB.out a8
       replace a9 := cB HB.out a9
       replace bA := cB HB.out bA
       replace aO := cB HB.out aO
       replace aP := cB HB.out aP
       have dB := aM bC
       have dC := aM bB
       clear bC bB
       have dD := aM bE
       have dE := aM bD
       clear bE bD
       replace aL := bh aL
       replace aN := bh aN
       have ea_ := Option.some.inj (M.symm.trans aO)
       injection ea_ with ea_ en_ ec_
       subst ea_
       subst ec_
       clear en_
       have ea_ := Option.some.inj (O.symm.trans aP)
       injection ea_ with ea_ en_ ec_
       subst ea_
       subst ec_
       clear en_
       have bF : 0 <= (x5_1 : Int) := dT (Z4)
       have bG : x5_1 < (l0.length : Int) := dT (Z4)
       obtain ⟨b7, dN, dO, dP, dQ, b8, bM, bN, bO, bH, bI, bP, bQ, bR, bS⟩ := em hr0.out x5_1 bF bG
       obtain rfl : U = b7 := (by injection b8)
       replace bM := cB HB.out bM
       replace bN := cB HB.out bN
       replace bO := cB HB.out bO
       replace bH := cB HB.out bH
       replace bI := cB HB.out bI
       have b9 := aM bQ
       have cA := aM bP
       clear bQ bP
       have dR := aM bS
       have dS := aM bR
       clear bS bR
       replace bF := bh bF
       replace bG := bh bG
       have ea_ := Option.some.inj (M.symm.trans bH)
       injection ea_ with ea_ en_ ec_
       subst ea_
       subst ec_
       clear en_
       have ea_ := Option.some.inj (O.symm.trans bI)
       injection ea_ with ea_ en_ ec_
       subst ea_
       subst ec_
       clear en_
       try go_wp2_with (first | ((with_reducible refine gC 65 ?_); refine gL 46 func65 #[.slice bU ((ax l0 x5_1).f3).length bV, .int .i64 (wrap64 ((wrap64 ((wrap64 (X + 1)) + 1)) + 1))] ?_; (with_reducible refine (cm.calls k1 _ _ ((ax l0 x5_1).f3) (wrap64 ((wrap64 ((wrap64 (X + 1)) + 1)) + 1)) bL _ ?Y1 ?Y2 A9.out).mono ?_); (case Y1 => have h_ := Kd.C_below b9.out HB.out; exact tC); (case Y2 => exact cA.out); rintro e eM ⟨rfl, hb⟩; refine ⟨_, rfl, ?_⟩; replace HB := aM (ae (Z0) hb); (try clear hb); (try clear cT); (try clear hk); (try clear hi); have bY : 0 <= (x5_1 : Int) := dT (Z4); have bZ : x5_1 < (l0.length : Int) := dT (Z4); obtain ⟨dF, d5, d6, dG, dH, dI, cC, cD, cG, cH, cI, cJ, cK, cL, cM⟩ := em hr0.out x5_1 bY bZ; obtain rfl : U = dF := (by injection dI); replace cC := cB HB.out cC; replace cD := cB HB.out cD; replace cG := cB HB.out cG; replace cH := cB HB.out cH; replace cI := cB HB.out cI; have eA := aM cK; have eB := aM cJ; clear cK cJ; have dJ := aM cM; have dK := aM cL; clear cM cL; replace bY := bh bY; replace bZ := bh bZ) | ((with_reducible refine gC 66 ?_); refine gL 55 func66 #[.slice dG ((ax l0 x5_1).f4).length dH, .int .i64 bL] ?_; (with_reducible refine (dk.calls k1 _ _ ((ax l0 x5_1).f4) bL cU _ ?Y1 ?Y2 zq.out).mono ?_); (case Y1 => have h_ := Kd.C_below dJ.out HB.out; exact tC); (case Y2 => exact dK.out); rintro e eN ⟨rfl, hb⟩; refine ⟨_, rfl, ?_⟩; replace HB := aM (ae (Z0) hb); (try clear hb); (try clear cT); (try clear hk); (try clear hi)))
       go_roundg k1
       case measure => have := HK1.out; omega
       case rel => exact ⟨(cU), (wrap64 (x5_1 + 1)), (Z3), (Z3), H', ⟨Z85⟩, ⟨Z0⟩⟩
      rw [if_neg c8] at H
      have d1 := bb c8
      have d2 := bg c8
      obtain rfl := oI H
      try go_wp2
      replace HB := aM (ac HB.out)
      have Y : 0 <= (x5_1 : Int) := dT (Z4)
      have Z : x5_1 < (l0.length : Int) := dT (Z4)
      obtain ⟨U, aY, aZ, a2, a3, a5, s, y, D, I, J, aE, aF, aG, aH⟩ := em hr0.out x5_1 Y Z
      have aA := J
      have aB := I
      have aI := D
      have aJ := y
      have aK := s
      cases a5
      replace s := cB HB.out s
      replace y := cB HB.out y
      replace D := cB HB.out D
      replace I := cB HB.out I
      replace J := cB HB.out J
      have a6 := aM aF
      have b2 := aM aE
      clear aF aE
      have a7 := aM aH
      have b6 := aM aG
      clear aH aG
      replace Y := bh Y
      replace Z := bh Z
      refine fe (n := 8) (S := fun w' => qa5 (U.add ((x5_1).toNat * 5)) (.string ((ax l0 x5_1).f0)) (.int .i64 ((ax l0 x5_1).f1)) (.int .i64 ((ax l0 x5_1).f2)) (.slice aY ((ax l0 x5_1).f3).length aZ) (.slice a2 ((ax l0 x5_1).f4).length a3) w') (ds := []) #[false, false, false, false, false, false, false, false] (Z16) rfl rfl ⟨(cB HB.out aK :), ⟨(cB HB.out aJ :), ⟨(cB HB.out aI :), ⟨(cB HB.out aB :), (cB HB.out aA :)⟩⟩⟩⟩ (fun hHeld => ?_); refine df cq.tab4 cq.bits4 (fun HT_ HW_ => ?_)
      generalize wr.drew = eO at HB a6 a7 s y D I J hHeld ⊢
      refine pA 0 12 ?_
      refine pA 1 13 ?_
      refine pA 2 14 ?_
      refine pA 3 15 ?_
      refine pA 5 17 ?_
      refine tA 4 16 ?_
      refine oA 6 18 (fun K hK => ?_)
      refine fl func62 (Z16) rfl #[.int .i64 X] (Z96) rfl rfl (Z2) ?_
      with_reducible refine (cb.calls k1 X bT _ A5.out).mono ?_
      rintro e eP ⟨rfl, hb⟩
      refine ⟨_, rfl, ?_⟩
      replace HB := aM (ae (Z0) hb)
      (try clear hb)
      refine hK.out _ _ ⟨(cB HB.out aK :), ⟨(cB HB.out aJ :), ⟨(cB HB.out aI :), ⟨(cB HB.out aB :), (cB HB.out aA :)⟩⟩⟩⟩ (fun hHeld => ?_)
      clear hK K
      refine nB 18 ?_
      refine pA 7 19 ?_
      refine gh (ei HT_.out (Z16)) ?_
      have aC : 0 <= (x5_1 : Int) := dT (Z4)
      have aD : x5_1 < (l0.length : Int) := dT (Z4)
      obtain ⟨bJ, bU, bV, cN, cO, bK, aQ, aR, aS, M, O, aT, aU, aV, aW⟩ := em hr0.out x5_1 aC aD
      obtain rfl : U = bJ := (by injection bK)
      (try (have ea_ := Option.some.inj (M.symm.trans aB); injection ea_ with ea_ en_ ec_; subst ea_; subst ec_; clear en_))
      (try (have ea_ := Option.some.inj (O.symm.trans aA); injection ea_ with ea_ en_ ec_; subst ea_; subst ec_; clear en_))
      replace aQ := cB HB.out aQ
      replace aR := cB HB.out aR
      replace aS := cB HB.out aS
      replace M := cB HB.out M
      replace O := cB HB.out O
      have cP := aM aU
      have cQ := aM aT
      clear aU aT
      have cR := aM aW
      have cS := aM aV
      clear aW aV
      replace aC := bh aC
      replace aD := bh aD
      have aL : 0 <= (x5_1 : Int) := dT (Z4)
      have aN : x5_1 < (l0.length : Int) := dT (Z4)
      obtain ⟨bW, cX, cY, cZ, dA, bX, a8, a9, bA, aO, aP, bB, bC, bD, bE⟩ := em hr0.out x5_1 aL aN
      obtain rfl : U = bW := (by injection bX)
      replace a8 := cB HB.out a8
      replace a9 := cB HB.out a9
      replace bA := cB HB.out bA
      replace aO := cB HB.out aO
      replace aP := cB HB.out aP
      have dB := aM bC
      have dC := aM bB
      clear bC bB
      have dD := aM bE
      have dE := aM bD
      clear bE bD
      replace aL := bh aL
      replace aN := bh aN
      have ea_ := Option.some.inj (M.symm.trans aO)
      injection ea_ with ea_ en_ ec_
      subst ea_
      subst ec_
      clear en_
      have ea_ := Option.some.inj (O.symm.trans aP)
      injection ea_ with ea_ en_ ec_
      subst ea_
      subst ec_
      clear en_
      try go_wp2
      go_ret
      exact ⟨Z1, Z0⟩
     rw [if_neg c7] at H
     have dZ := bb c7
     have d0 := bg c7
     obtain rfl := oI H
     try go_wp2
     replace HB := aM (ac HB.out)
     have Y : 0 <= (x5_1 : Int) := dT (Z4)
     have Z : x5_1 < (l0.length : Int) := dT (Z4)
     obtain ⟨U, aY, aZ, a2, a3, a5, s, y, D, I, J, aE, aF, aG, aH⟩ := em hr0.out x5_1 Y Z
     have aA := J
     have aB := I
     have aI := D
     have aJ := y
     have aK := s
     cases a5
     replace s := cB HB.out s
     replace y := cB HB.out y
     replace D := cB HB.out D
     replace I := cB HB.out I
     replace J := cB HB.out J
     have a6 := aM aF
     have b2 := aM aE
     clear aF aE
     have a7 := aM aH
     have b6 := aM aG
     clear aH aG
     replace Y := bh Y
     replace Z := bh Z
     refine fe (n := 8) (S := fun w' => qa5 (U.add ((x5_1).toNat * 5)) (.string ((ax l0 x5_1).f0)) (.int .i64 ((ax l0 x5_1).f1)) (.int .i64 ((ax l0 x5_1).f2)) (.slice aY ((ax l0 x5_1).f3).length aZ) (.slice a2 ((ax l0 x5_1).f4).length a3) w') (ds := []) #[false, false, false, false, false, false, false, false] (Z16) rfl rfl ⟨(cB HB.out aK :), ⟨(cB HB.out aJ :), ⟨(cB HB.out aI :), ⟨(cB HB.out aB :), (cB HB.out aA :)⟩⟩⟩⟩ (fun hHeld => ?_); refine df cq.tab4 cq.bits4 (fun HT_ HW_ => ?_)
     generalize wr.drew = eQ at HB a6 a7 s y D I J hHeld ⊢
     refine pA 0 12 ?_
     refine pA 1 13 ?_
     refine pA 2 14 ?_
     refine pA 3 15 ?_
     refine pA 5 17 ?_
     refine tA 4 16 ?_
     refine oA 6 18 (fun K hK => ?_)
     refine fl func62 (Z16) rfl #[.int .i64 X] (Z96) rfl rfl (Z2) ?_
     with_reducible refine (cb.calls k1 X bT _ A5.out).mono ?_
     rintro e eR ⟨rfl, hb⟩
     refine ⟨_, rfl, ?_⟩
     replace HB := aM (ae (Z0) hb)
     (try clear hb)
     refine hK.out _ _ ⟨(cB HB.out aK :), ⟨(cB HB.out aJ :), ⟨(cB HB.out aI :), ⟨(cB HB.out aB :), (cB HB.out aA :)⟩⟩⟩⟩ (fun hHeld => ?_)
     clear hK K
     refine nB 18 ?_
     refine pA 7 19 ?_
     refine gh (ei HT_.out (Z16)) ?_
     have aC : 0 <= (x5_1 : Int) := dT (Z4)
     have aD : x5_1 < (l0.length : Int) := dT (Z4)
     obtain ⟨bJ, bU, bV, cN, cO, bK, aQ, aR, aS, M, O, aT, aU, aV, aW⟩ := em hr0.out x5_1 aC aD
     obtain rfl : U = bJ := (by injection bK)
     (try (have ea_ := Option.some.inj (M.symm.trans aB); injection ea_ with ea_ en_ ec_; subst ea_; subst ec_; clear en_))
     (try (have ea_ := Option.some.inj (O.symm.trans aA); injection ea_ with ea_ en_ ec_; subst ea_; subst ec_; clear en_))
     replace aQ := cB HB.out aQ
     replace aR := cB HB.out aR
     replace aS := cB HB.out aS
     replace M := cB HB.out M
     replace O := cB HB.out O
     have cP := aM aU
     have cQ := aM aT
     clear aU aT
     have cR := aM aW
     have cS := aM aV
     clear aW aV
     replace aC := bh aC
     replace aD := bh aD
     try go_wp2
     go_ret
     exact ⟨Z1, Z0⟩
    rw [if_neg c6] at H
    have dX := bb c6
    have dY := bg c6
    obtain rfl := oI H
    try go_wp2
    replace HB := aM (ac HB.out)
    have Y : 0 <= (x5_1 : Int) := dT (Z4)
    have Z : x5_1 < (l0.length : Int) := dT (Z4)
    obtain ⟨U, aY, aZ, a2, a3, a5, s, y, D, I, J, aE, aF, aG, aH⟩ := em hr0.out x5_1 Y Z
    have aA := J
    have aB := I
    have aI := D
    have aJ := y
    have aK := s
    cases a5
    replace s := cB HB.out s
    replace y := cB HB.out y
    replace D := cB HB.out D
    replace I := cB HB.out I
    replace J := cB HB.out J
    have a6 := aM aF
    have b2 := aM aE
    clear aF aE
    have a7 := aM aH
    have b6 := aM aG
    clear aH aG
    replace Y := bh Y
    replace Z := bh Z
    refine fe (n := 8) (S := fun w' => qa5 (U.add ((x5_1).toNat * 5)) (.string ((ax l0 x5_1).f0)) (.int .i64 ((ax l0 x5_1).f1)) (.int .i64 ((ax l0 x5_1).f2)) (.slice aY ((ax l0 x5_1).f3).length aZ) (.slice a2 ((ax l0 x5_1).f4).length a3) w') (ds := []) #[false, false, false, false, false, false, false, false] (Z16) rfl rfl ⟨(cB HB.out aK :), ⟨(cB HB.out aJ :), ⟨(cB HB.out aI :), ⟨(cB HB.out aB :), (cB HB.out aA :)⟩⟩⟩⟩ (fun hHeld => ?_); refine df cq.tab4 cq.bits4 (fun HT_ HW_ => ?_)
    generalize wr.drew = eS at HB a6 a7 s y D I J hHeld ⊢
    refine pA 0 12 ?_
    refine pA 1 13 ?_
    refine pA 2 14 ?_
    refine pA 3 15 ?_
    refine pA 5 17 ?_
    refine tA 4 16 ?_
    refine oA 6 18 (fun K hK => ?_)
    refine fl func62 (Z16) rfl #[.int .i64 X] (Z96) rfl rfl (Z2) ?_
    with_reducible refine (cb.calls k1 X bT _ A5.out).mono ?_
    rintro e eT ⟨rfl, hb⟩
    refine ⟨_, rfl, ?_⟩
    replace HB := aM (ae (Z0) hb)
    (try clear hb)
    refine hK.out _ _ ⟨(cB HB.out aK :), ⟨(cB HB.out aJ :), ⟨(cB HB.out aI :), ⟨(cB HB.out aB :), (cB HB.out aA :)⟩⟩⟩⟩ (fun hHeld => ?_)
    clear hK K
    refine nB 18 ?_
    refine pA 7 19 ?_
    refine gh (ei HT_.out (Z16)) ?_
    try go_wp2
    go_ret
    exact ⟨Z1, Z0⟩
   rw [if_neg c3] at H
   have dW := ba c3
   clear c3
   obtain rfl := oI H
   go_wp2
   go_ret
   exact ⟨Z1, Z0⟩
def laws_heldEngine.f (k : Nat) (y : Int) (D : ByteArray) (I : Int) (l0_3 : List (S82)) (a1 : Int) : Option (Int) := (cq.f k l0_3 a1).bind fun s => (if s < 0 then (some (-1)) else (some s))
theorem laws_heldEngine.calls (k : Nat) (I : Int) (J : ByteArray) (M : Int) (y : Option Addr) (D : Nat) (l0_3 : List (S82)) (a1 : Int) (r : Int) (w : World) (O : Kd.C k82 w y l0_3.length l0_3) (U : l0_3.length <= D) (h : laws_heldEngine.f k I J M l0_3 a1 = some r) :
  Calls prog 14 #[.agg #[.int .i64 I, .string J, .int .i64 M, .slice y l0_3.length D], .int .i64 a1] w fun e w' => e = .returned (.int .i64 r) /\ Below w.heap.size w w' := by
 have aC := underlying35
 replace O := aM O
 replace U := aM U
 have HB := aM (bi w.heap.size w)
 have H := h
 clear h
 unfold laws_heldEngine.f at H
 obtain ⟨X, Y, H⟩ := cz H
 try dsimp only at H
 by_cases c4 : X < 0
 ·rw [if_pos c4] at H
  have Z := az c4
  clear c4
  obtain rfl := oI H
  go_enter func14, ntmps14
  go_wp2_with (first | ((with_reducible refine gD 2 ?_); refine bxF w 2 #[.int .i64 I, .string J, .int .i64 M, .slice y l0_3.length D] 35 (Z0) ?_; intro aA hg w5 s aB GE502 HB hb; clear hb hg; refine bD4 s ?_; intros) | ((with_reducible refine gC 33 ?_); refine gL 8 func33 #[.slice y l0_3.length D, .int .i64 a1] ?_; (with_reducible refine (cq.calls k _ _ l0_3 a1 X _ ?Y1 ?Y2 Y.out).mono ?_); (case Y1 => have h_ := Kd.C_below O.out HB.out; exact tC); (case Y2 => exact U.out); rintro e w7 ⟨rfl, hb⟩; refine ⟨_, rfl, ?_⟩; replace s := aM (kB s zB hb); replace HB := aM (ae (Z107) hb); (try clear hb)))
  go_ret
  exact ⟨Z1, Z107⟩
 rw [if_neg c4] at H
 have Z := ba c4
 clear c4
 obtain rfl := oI H
 go_enter func14, ntmps14
 go_wp2_with (first | ((with_reducible refine gD 2 ?_); refine bxF w 2 #[.int .i64 I, .string J, .int .i64 M, .slice y l0_3.length D] 35 (Z0) ?_; intro aA hg w8 s aB GE502 HB hb; clear hb hg; refine bD4 s ?_; intros) | ((with_reducible refine gC 33 ?_); refine gL 8 func33 #[.slice y l0_3.length D, .int .i64 a1] ?_; (with_reducible refine (cq.calls k _ _ l0_3 a1 X _ ?Y1 ?Y2 Y.out).mono ?_); (case Y1 => have h_ := Kd.C_below O.out HB.out; exact tC); (case Y2 => exact U.out); rintro e aE ⟨rfl, hb⟩; refine ⟨_, rfl, ?_⟩; replace s := aM (kB s zB hb); replace HB := aM (ae (Z107) hb); (try clear hb)))
 go_ret
 exact ⟨Z1, Z107⟩
def di.l0 : Nat -> List (S113) -> Int -> Int -> Option (Int × (List (S113)))
 | 0, _, _, _ => none
 | k + 1, x0, x1, x5 => if x5 < (x0.length : Int) then (if 0 <= x5 then ((some (x0.set (x5 : Int).toNat (⟨x1, (ar x0 x5).f1, (ar x0 x5).f2⟩ : S113) : List (S113))).bind fun s => ((some (s.set (x5 : Int).toNat (⟨(ar s x5).f0, wrap64 (x1 + 1), (ar s x5).f2⟩ : S113) : List (S113))).bind fun y => ((cb.f k (wrap64 ((wrap64 (x1 + 1)) + 1))).bind fun D => (di.l0 k (y.set (x5 : Int).toNat (⟨(ar y x5).f0, (ar y x5).f1, D⟩ : S113)) (wrap64 ((wrap64 ((wrap64 (x1 + 1)) + 1)) + 1)) (wrap64 (x5 + 1)))))) else (none)) else (some (x1, x0))
def di.f (k : Nat) (l0 : List (S113)) (a1 : Int) : Option (Int × (List (S113))) := di.l0 k l0 a1 0
theorem di.calls (k : Nat) (P0_ : Nat -> Prop) (u9000_ : Value) (l0 : List (S113)) (a1 : Int) (Y : Int) (Z : List (S113)) (w0 w : World) (hB : Below w0.heap.size w0 w) (bJ : Kd.R k113 113 w w0.heap.size P0_ u9000_ l0) (h : di.f k l0 a1 = some (Y, Z)) :
  Calls prog 63 #[u9000_, .int .i64 a1] w fun e w' => e = .returned (.int .i64 Y) /\ Kd.R k113 113 w' w0.heap.size (fun k_ => (P0_ k_ ∨ w.heap.size <= k_)) u9000_ Z /\ Below w0.heap.size w0 w' /\ Kept w w' (fun k_ => P0_ k_) := by
 have HO0 := aM (show Kd.R k113 113 w w0.heap.size (fun k_ => (P0_ k_ ∨ w.heap.size <= k_)) u9000_ l0 from Kd.R_mono bJ (fun k_ hk => (.inl hk)))
 have HK := aM (Kept.refl w (fun k_ => P0_ k_))
 have b6 := aM hB.size
 have HB := aM hB
 clear hB
 have H := h
 clear h
 unfold di.f at H
 have H' := aM H
 clear H
 go_enter func63, ntmps63
 go_wp2
 go_loopg [1, 5] k (fun kq v1 v5 w' => ∃ (y : List (S113)) (D : Int) (x5_1 : Int), v1 = .int .i64 D /\ v5 = .int .i64 x5_1 /\ ap (di.l0 kq y D x5_1 = some (Y, Z)) /\ ap (kq <= k) /\ ap (Kd.R k113 113 w' w0.heap.size (fun k_ => (P0_ k_ ∨ w.heap.size <= k_)) u9000_ y) /\ ap (Kept w w' (fun k_ => P0_ k_)) /\ ap (Below w0.heap.size w0 w'))
 case atStart => exact ⟨(l0), (a1), (0), (Z3), (Z3), H', ⟨bj _⟩, ⟨Z191⟩, ⟨Z34⟩, ⟨Z0⟩⟩
 case round =>
  clear H'
  obtain ⟨y, D, x5_1, rfl, rfl, HA, HK1, HO_0, HK, HB⟩ := hrel
  cases gk with
  | zero => exact absurd HA.out (by simp [di.l0])
  | succ X =>
   have H := HA.out
   clear HA
   simp only [di.l0] at H
   by_cases c3 : x5_1 < (y.length : Int)
   ·rw [if_pos c3] at H
    have bM := az c3
    clear c3
    obtain ⟨c4, H⟩ := ifS H
    have b7 := az c4
    clear c4
    obtain ⟨J, aB⟩ : ∃ y_ : List (S113), y_ = (y.set (x5_1 : Int).toNat (⟨D, (ar y x5_1).f1, (ar y x5_1).f2⟩ : S113)) := ⟨_, rfl⟩
    replace H : ((some (J.set (x5_1 : Int).toNat (⟨(ar J x5_1).f0, wrap64 (D + 1), (ar J x5_1).f2⟩ : S113) : List (S113))).bind fun I => ((cb.f X (wrap64 ((wrap64 (D + 1)) + 1))).bind fun O => (di.l0 X (I.set (x5_1 : Int).toNat (⟨(ar I x5_1).f0, (ar I x5_1).f1, O⟩ : S113)) (wrap64 ((wrap64 ((wrap64 (D + 1)) + 1)) + 1)) (wrap64 (x5_1 + 1))))) = some (Y, Z) := by first | (rw [aB]; with_reducible exact H) | (have H2_ := (Option.bind_some _ _).symm.trans H; rw [aB]; with_reducible exact H2_) | (have H2_ := (Option.bind_some _ _).symm.trans H; with_reducible exact H2_) | with_reducible exact H | (rw [aB]; exact H) | exact H
    have bN := aM aB
    clear aB
    obtain ⟨I, aC⟩ : ∃ y_ : List (S113), y_ = (J.set (x5_1 : Int).toNat (⟨(ar J x5_1).f0, wrap64 (D + 1), (ar J x5_1).f2⟩ : S113)) := ⟨_, rfl⟩
    replace H : ((cb.f X (wrap64 ((wrap64 (D + 1)) + 1))).bind fun O => (di.l0 X (I.set (x5_1 : Int).toNat (⟨(ar I x5_1).f0, (ar I x5_1).f1, O⟩ : S113)) (wrap64 ((wrap64 ((wrap64 (D + 1)) + 1)) + 1)) (wrap64 (x5_1 + 1)))) = some (Y, Z) := by first | (rw [aC]; with_reducible exact H) | (have H2_ := (Option.bind_some _ _).symm.trans H; rw [aC]; with_reducible exact H2_) | (have H2_ := (Option.bind_some _ _).symm.trans H; with_reducible exact H2_) | with_reducible exact H | (rw [aC]; exact H) | exact H
    have bO := aM aC
    clear aC
    obtain ⟨O, A7, H⟩ := cz H
    try dsimp only at H
    obtain ⟨aK, aD⟩ : ∃ y_ : List (S113), y_ = (I.set (x5_1 : Int).toNat (⟨(ar I x5_1).f0, (ar I x5_1).f1, O⟩ : S113)) := ⟨_, rfl⟩
    replace H : (di.l0 X aK (wrap64 ((wrap64 ((wrap64 (D + 1)) + 1)) + 1)) (wrap64 (x5_1 + 1))) = some (Y, Z) := by first | (rw [aD]; with_reducible exact H) | (have H2_ := (Option.bind_some _ _).symm.trans H; rw [aD]; with_reducible exact H2_) | (have H2_ := (Option.bind_some _ _).symm.trans H; with_reducible exact H2_) | with_reducible exact H | (rw [aD]; exact H) | exact H
    have bQ := aM aD
    clear aD
    have H' := aM H
    clear H
    obtain ⟨b8, aA, bR⟩ := Kd.R_slice HO_0.out
    subst bR
    have p5 : 0 <= (x5_1 : Int) := dT (Z4)
    have q5 : (x5_1 : Int) < ((y.length : Int) : Int) := dT (Z4)
    obtain ⟨s, b9, aY, aZ, bS, cA, a2⟩ := Kd.R_form HO_0.out (Z31)
    (first | cases aY | (injection aY with ea_ en_ ec_; (first | subst ea_ | (injection ea_ with ea_; subst ea_)); subst ec_; clear en_))
    have aN := aM aZ
    have cC := aM a2
    clear aZ bS a2
    have cD := aM (show (P0_ s ∨ w.heap.size <= s) from (HO_0.out.1 _ rfl))
    obtain ⟨cG, bT, a3, aE, aF⟩ := Kd.R_elem HO_0.out z113 (x5_1 : Int) p5 q5
    obtain rfl := k113_openM a3
    have cH : wr.cell? ⟨s, (x5_1 : Int).toNat * 3, none⟩ = some (.int .i64 ((ar y x5_1).f0)) := aE 0 _ rfl
    have cI : wr.cell? ⟨s, (x5_1 : Int).toNat * 3 + 1, none⟩ = some (.int .i64 ((ar y x5_1).f1)) := aE 1 _ rfl
    have cJ : wr.cell? ⟨s, (x5_1 : Int).toNat * 3 + 2, none⟩ = some (.string ((ar y x5_1).f2)) := aE 2 _ rfl
    have cK : wr.frozen? ⟨s, (x5_1 : Int).toNat * 3, none⟩ = false := aF 0
    have cL : wr.frozen? ⟨s, (x5_1 : Int).toNat * 3 + 1, none⟩ = false := aF 1
    have cM : wr.frozen? ⟨s, (x5_1 : Int).toNat * 3 + 2, none⟩ = false := aF 2
    clear bT aE aF a3
    replace p5 := bh p5
    replace q5 := bh q5
    have a5 := aM (show Kd.R k113 113 wr w0.heap.size (fun k_ => (P0_ k_ ∨ w.heap.size <= k_)) (.slice (some ⟨s, 0, none⟩) y.length aA) y from (Z56))
    obtain ⟨cN, a6, a7, aO, a8⟩ := Kd.R_elem a5.out z113 (x5_1 : Int) (dT (Z4)) (by have h_ : (x5_1 : Int) < ((y.length : Int) : Int) := dT (Z4); first | exact h_ | (have e_ := (Kd.R_reads' HO_0.out).1; omega) | simpa using h_)
    obtain rfl := k113_openM a7
    have aP := Kd.R_seg a5.out (x5_1 : Int) (dT (Z4)) (by have h_ : (x5_1 : Int) < ((y.length : Int) : Int) := dT (Z4); first | exact h_ | (have e_ := (Kd.R_reads' HO_0.out).1; omega) | simpa using h_) (seg := [.int .i64 D]) (j := 0) a6 aO (show 1 <= 3 from by decide) (x' := (⟨D, (ar y x5_1).f1, (ar y x5_1).f2⟩ : S113)) (k113_mkM _ _ _ (⟨D, (ar y x5_1).f1, (ar y x5_1).f2⟩ : S113) ) (fun _ hk => hk)
    have bU := aO 0 _ rfl
    (try simp only [show (k113).sz = 3 from rfl, Nat.mul_one, Nat.add_zero] at bU)
    have bV := a8 0
    (try simp only [show (k113).sz = 3 from rfl, Nat.mul_one, Nat.add_zero] at bV)
    clear a6 aO a8 a7
    go_wp2_with (first | ((with_reducible refine gate_store (t := 3) (p := 16) rfl ?_); refine store_event (t := 3) (p := 16) (v := ?vo_w11) (w1 := (wr.setCell ⟨s, (x5_1 : Int).toNat * 3, none⟩ (.int .i64 D))) ?hg ?ho ?hn ?hr ?_; (case ho => rfl); (case hg => rfl); (case hn => rfl); (case hr => first | (go_simp; done) | (go_simp; rfl)); intro M hw; have hg : wr.grownBy M (some s) := (by rw [hw]; exact aP.2); have hp_ : Kd.R k113 113 M w0.heap.size (fun k_ => (P0_ k_ ∨ w.heap.size <= k_)) (.slice (some ⟨s, 0, none⟩) y.length aA) J := (by rw [hw, bN.out]; exact aP.1); clear aP; replace HB := aM ((by rw [hw]; exact aa (HB.out) aN.out : Below w0.heap.size w0 M)); replace HK := aM (Kept.of_grown (S := (fun k_ => P0_ k_)) hg (Z34) (fun k_ e_ => (HO_0.out.1 k_ e_))); replace HO_0 := aM (hp_); clear hg hw hp_; have p6 : 0 <= (x5_1 : Int) := dT (Z4); have q6 : (x5_1 : Int) < ((y.length : Int) : Int) := dT (Z4); obtain ⟨cO, bW, a9, aG, aH⟩ := Kd.R_elem HO_0.out z113 (x5_1 : Int) p6 q6; obtain rfl := k113_openM a9; have cP : M.cell? ⟨s, (x5_1 : Int).toNat * 3, none⟩ = some (.int .i64 ((ar J x5_1).f0)) := aG 0 _ rfl; have cQ : M.cell? ⟨s, (x5_1 : Int).toNat * 3 + 1, none⟩ = some (.int .i64 ((ar J x5_1).f1)) := aG 1 _ rfl; have cR : M.cell? ⟨s, (x5_1 : Int).toNat * 3 + 2, none⟩ = some (.string ((ar J x5_1).f2)) := aG 2 _ rfl; have cS : M.frozen? ⟨s, (x5_1 : Int).toNat * 3, none⟩ = false := aH 0; have cT : M.frozen? ⟨s, (x5_1 : Int).toNat * 3 + 1, none⟩ = false := aH 1; have cU : M.frozen? ⟨s, (x5_1 : Int).toNat * 3 + 2, none⟩ = false := aH 2; clear bW aG aH a9; replace p6 := bh p6; replace q6 := bh q6; have bA := aM (show Kd.R k113 113 M w0.heap.size (fun k_ => (P0_ k_ ∨ w.heap.size <= k_)) (.slice (some ⟨s, 0, none⟩) y.length aA) J from (Z56)); obtain ⟨cV, bB, bC, aR, bD⟩ := Kd.R_elem bA.out z113 (x5_1 : Int) (dT (Z4)) (by have h_ : (x5_1 : Int) < ((y.length : Int) : Int) := dT (Z4); first | exact h_ | (have e_ := (Kd.R_reads' HO_0.out).1; omega) | simpa using h_); obtain rfl := k113_openM bC; have aS := Kd.R_seg bA.out (x5_1 : Int) (dT (Z4)) (by have h_ : (x5_1 : Int) < ((y.length : Int) : Int) := dT (Z4); first | exact h_ | (have e_ := (Kd.R_reads' HO_0.out).1; omega) | simpa using h_) (seg := [.int .i64 (wrap64 (D + 1))]) (j := 1) bB aR (show 2 <= 3 from by decide) (x' := (⟨(ar J x5_1).f0, wrap64 (D + 1), (ar J x5_1).f2⟩ : S113)) (k113_mkM _ _ _ (⟨(ar J x5_1).f0, wrap64 (D + 1), (ar J x5_1).f2⟩ : S113) ) (fun _ hk => hk); have bX := aR 1 _ rfl; (try simp only [show (k113).sz = 3 from rfl, Nat.mul_one, Nat.add_zero] at bX); have bY := bD 1; (try simp only [show (k113).sz = 3 from rfl, Nat.mul_one, Nat.add_zero] at bY); clear bB aR bD bC) | ((with_reducible refine gate_store (t := 3) (p := 23) rfl ?_); refine store_event (t := 3) (p := 23) (v := ?vo_w13) (w1 := (M.setCell ⟨s, (x5_1 : Int).toNat * 3 + 1, none⟩ (.int .i64 (wrap64 (D + 1))))) ?hg ?ho ?hn ?hr ?_; (case ho => rfl); (case hg => rfl); (case hn => rfl); (case hr => first | (go_simp; done) | (go_simp; rfl)); intro aT hw; have hg : M.grownBy aT (some s) := (by rw [hw]; exact aS.2); have hp_ : Kd.R k113 113 aT w0.heap.size (fun k_ => (P0_ k_ ∨ w.heap.size <= k_)) (.slice (some ⟨s, 0, none⟩) y.length aA) I := (by rw [hw, bO.out]; exact aS.1); clear aS; replace HB := aM ((by rw [hw]; exact aa (HB.out) aN.out : Below w0.heap.size w0 aT)); replace HK := aM (Kept.of_grown (S := (fun k_ => P0_ k_)) hg (Z34) (fun k_ e_ => (HO_0.out.1 k_ e_))); replace HO_0 := aM (hp_); clear hg hw hp_) | ((with_reducible refine gC 62 ?_); refine gL 29 func62 #[.int .i64 (wrap64 ((wrap64 (D + 1)) + 1))] ?_; (with_reducible refine (cb.calls X (wrap64 ((wrap64 (D + 1)) + 1)) O _ A7.out).mono ?_); rintro e U ⟨rfl, hb⟩; refine ⟨_, rfl, ?_⟩; replace HO_0 := aM (Kd.R_below (Z56) hb); replace HK := aM (Kept.below (S := (fun k_ => P0_ k_)) (Z34) hb); replace HB := aM (ae (Z0) hb); (try clear hb); have p8 : 0 <= (x5_1 : Int) := dT (Z4); have q8 : (x5_1 : Int) < ((y.length : Int) : Int) := dT (Z4); obtain ⟨cX, bZ, bE, aI, aJ⟩ := Kd.R_elem HO_0.out z113 (x5_1 : Int) p8 q8; obtain rfl := k113_openM bE; have cY : U.cell? ⟨s, (x5_1 : Int).toNat * 3, none⟩ = some (.int .i64 ((ar I x5_1).f0)) := aI 0 _ rfl; have cZ : U.cell? ⟨s, (x5_1 : Int).toNat * 3 + 1, none⟩ = some (.int .i64 ((ar I x5_1).f1)) := aI 1 _ rfl; have dA : U.cell? ⟨s, (x5_1 : Int).toNat * 3 + 2, none⟩ = some (.string ((ar I x5_1).f2)) := aI 2 _ rfl; have dB : U.frozen? ⟨s, (x5_1 : Int).toNat * 3, none⟩ = false := aJ 0; have dC : U.frozen? ⟨s, (x5_1 : Int).toNat * 3 + 1, none⟩ = false := aJ 1; have dD : U.frozen? ⟨s, (x5_1 : Int).toNat * 3 + 2, none⟩ = false := aJ 2; clear bZ aI aJ bE; replace p8 := bh p8; replace q8 := bh q8; have bF := aM (show Kd.R k113 113 U w0.heap.size (fun k_ => (P0_ k_ ∨ w.heap.size <= k_)) (.slice (some ⟨s, 0, none⟩) y.length aA) I from (Z56)); obtain ⟨dE, bG, bH, aV, bI⟩ := Kd.R_elem bF.out z113 (x5_1 : Int) (dT (Z4)) (by have h_ : (x5_1 : Int) < ((y.length : Int) : Int) := dT (Z4); first | exact h_ | (have e_ := (Kd.R_reads' HO_0.out).1; omega) | simpa using h_); obtain rfl := k113_openM bH; have aW := Kd.R_seg bF.out (x5_1 : Int) (dT (Z4)) (by have h_ : (x5_1 : Int) < ((y.length : Int) : Int) := dT (Z4); first | exact h_ | (have e_ := (Kd.R_reads' HO_0.out).1; omega) | simpa using h_) (seg := [.string O]) (j := 2) bG aV (show 3 <= 3 from by decide) (x' := (⟨(ar I x5_1).f0, (ar I x5_1).f1, O⟩ : S113)) (k113_mkM _ _ _ (⟨(ar I x5_1).f0, (ar I x5_1).f1, O⟩ : S113) ) (fun _ hk => hk); have b0 := aV 2 _ rfl; (try simp only [show (k113).sz = 3 from rfl, Nat.mul_one, Nat.add_zero] at b0); have b1 := bI 2; (try simp only [show (k113).sz = 3 from rfl, Nat.mul_one, Nat.add_zero] at b1); clear bG aV bI bH) | ((with_reducible refine gate_store (t := 9) (p := 31) rfl ?_); refine store_event (t := 9) (p := 31) (v := ?vo_w16) (w1 := (U.setCell ⟨s, (x5_1 : Int).toNat * 3 + 2, none⟩ (.string O))) ?hg ?ho ?hn ?hr ?_; (case ho => rfl); (case hg => rfl); (case hn => rfl); (case hr => first | (go_simp; done) | (go_simp; rfl)); intro aX hw; have hg : U.grownBy aX (some s) := (by rw [hw]; exact aW.2); have hp_ : Kd.R k113 113 aX w0.heap.size (fun k_ => (P0_ k_ ∨ w.heap.size <= k_)) (.slice (some ⟨s, 0, none⟩) y.length aA) aK := (by rw [hw, bQ.out]; exact aW.1); clear aW; replace HB := aM ((by rw [hw]; exact aa (HB.out) aN.out : Below w0.heap.size w0 aX)); replace HK := aM (Kept.of_grown (S := (fun k_ => P0_ k_)) hg (Z34) (fun k_ e_ => (HO_0.out.1 k_ e_))); replace HO_0 := aM (hp_); clear hg hw hp_))
    go_roundg X
    case measure => have := HK1.out; omega
    case rel => exact ⟨(aK), (wrap64 ((wrap64 ((wrap64 (D + 1)) + 1)) + 1)), (wrap64 (x5_1 + 1)), (Z3), (Z3), H', ⟨Z85⟩, ⟨Z56⟩, ⟨Z34⟩, ⟨Z0⟩⟩
   rw [if_neg c3] at H
   have bM := ba c3
   clear c3
   simp only [Option.some.injEq, Prod.mk.injEq] at H
   obtain ⟨rfl, rfl⟩ := H
   obtain ⟨dF, dG, b2⟩ := Kd.R_slice HO_0.out
   subst b2
   go_wp2
   go_ret
   exact ⟨Z1, Z56, Z0, Z34⟩
def dr.l0 : Nat -> List ByteArray -> Int -> Int -> Option (Int × List ByteArray)
 | 0, _, _, _ => none
 | k + 1, x0, x1, x5 => if x5 < (x0.length : Int) then ((cb.f k x1).bind fun s => (if 0 <= x5 then (dr.l0 k (x0.set (x5 : Int).toNat s) (wrap64 (x1 + 1)) (wrap64 (x5 + 1))) else (none))) else (some (x1, x0))
def dr.f (k : Nat) (l0 : List ByteArray) (a1 : Int) : Option (Int × List ByteArray) := dr.l0 k l0 a1 0
theorem dr.calls (k : Nat) (P0_ : Nat -> Prop) (u9000_ : Value) (l0 : List ByteArray) (a1 : Int) (J : Int) (M : List ByteArray) (w0 w : World) (hB : Below w0.heap.size w0 w) (aF : Kd.R Kd.string 9 w w0.heap.size P0_ u9000_ l0) (h : dr.f k l0 a1 = some (J, M)) :
  Calls prog 64 #[u9000_, .int .i64 a1] w fun e w' => e = .returned (.int .i64 J) /\ Kd.R Kd.string 9 w' w0.heap.size (fun k_ => (P0_ k_ ∨ w.heap.size <= k_)) u9000_ M /\ Below w0.heap.size w0 w' /\ Kept w w' (fun k_ => P0_ k_) := by
 have HO0 := aM (show Kd.R Kd.string 9 w w0.heap.size (fun k_ => (P0_ k_ ∨ w.heap.size <= k_)) u9000_ l0 from Kd.R_mono aF (fun k_ hk => (.inl hk)))
 have HK := aM (Kept.refl w (fun k_ => P0_ k_))
 have aR := aM hB.size
 have HB := aM hB
 clear hB
 have H := h
 clear h
 unfold dr.f at H
 have H' := aM H
 clear H
 go_enter func64, ntmps64
 go_wp2
 go_loopg [1, 5] k (fun kq v1 v5 w' => ∃ (s : List ByteArray) (y : Int) (x5_1 : Int), v1 = .int .i64 y /\ v5 = .int .i64 x5_1 /\ ap (dr.l0 kq s y x5_1 = some (J, M)) /\ ap (kq <= k) /\ ap (Kd.R Kd.string 9 w' w0.heap.size (fun k_ => (P0_ k_ ∨ w.heap.size <= k_)) u9000_ s) /\ ap (Kept w w' (fun k_ => P0_ k_)) /\ ap (Below w0.heap.size w0 w'))
 case atStart => exact ⟨(l0), (a1), (0), (Z3), (Z3), H', ⟨bj _⟩, ⟨Z191⟩, ⟨Z34⟩, ⟨Z0⟩⟩
 case round =>
  clear H'
  obtain ⟨s, y, x5_1, rfl, rfl, HA, HK1, HO_0, HK, HB⟩ := hrel
  cases gk with
  | zero => exact absurd HA.out (by simp [dr.l0])
  | succ U =>
   have H := HA.out
   clear HA
   simp only [dr.l0] at H
   by_cases c3 : x5_1 < (s.length : Int)
   ·rw [if_pos c3] at H
    have aI := az c3
    clear c3
    obtain ⟨O, A4, H⟩ := cz H
    try dsimp only at H
    obtain ⟨c5, H⟩ := ifS H
    have aS := az c5
    clear c5
    obtain ⟨X, D⟩ : ∃ y_ : List ByteArray, y_ = (s.set (x5_1 : Int).toNat O) := ⟨_, rfl⟩
    replace H : (dr.l0 U X (wrap64 (y + 1)) (wrap64 (x5_1 + 1))) = some (J, M) := by first | (rw [D]; with_reducible exact H) | (have H2_ := (Option.bind_some _ _).symm.trans H; rw [D]; with_reducible exact H2_) | (have H2_ := (Option.bind_some _ _).symm.trans H; with_reducible exact H2_) | with_reducible exact H | (rw [D]; exact H) | exact H
    have aK := aM D
    clear D
    have H' := aM H
    clear H
    obtain ⟨aT, aL, aN⟩ := Kd.R_slice HO_0.out
    subst aN
    go_wp2_with (first | ((with_reducible refine gC 62 ?_); refine gL 15 func62 #[.int .i64 y] ?_; (with_reducible refine (cb.calls U y O _ A4.out).mono ?_); rintro e w8 ⟨rfl, hb⟩; refine ⟨_, rfl, ?_⟩; replace HO_0 := aM (Kd.R_below (Z56) hb); replace HK := aM (Kept.below (S := (fun k_ => P0_ k_)) (Z34) hb); replace HB := aM (ae (Z0) hb); (try clear hb); have p6 : 0 <= (x5_1 : Int) := dT (Z4); have Y : (x5_1 : Int) < ((s.length : Int) : Int) := dT (Z4); obtain ⟨I, aU, aC, aD, aO, aV, aE⟩ := Kd.R_form HO_0.out (Z31); (first | cases aC | (injection aC with ea_ en_ ec_; (first | subst ea_ | (injection ea_ with ea_; subst ea_)); subst ec_; clear en_)); have aP := aM aD; have aW := aM aE; clear aD aO aE; have aX := aM (show (P0_ I ∨ w.heap.size <= I) from (HO_0.out.1 _ rfl)); obtain ⟨aY, aZ⟩ := Kd.R_celln (⟨#[]⟩ : ByteArray) HO_0.out (x5_1 : Int) p6 Y; replace p6 := bh p6; replace Y := bh Y; obtain ⟨hy9_, hz9_⟩ := Kd.R_celln (⟨#[]⟩ : ByteArray) HO_0.out (x5_1 : Int) (dT (Z4)) (dT (Z4)); have Z := Kd.R_putg HO_0.out (x5_1 : Int) O) | ((with_reducible refine gate_store (t := 9) (p := 16) rfl ?_); refine store_event (t := 9) (p := 16) (v := ?vo_w10) (w1 := (w8.setCell ⟨I, (x5_1 : Int).toNat, none⟩ (.string O))) ?hg ?ho ?hn ?hr ?_; (case ho => rfl); (case hg => rfl); (case hn => rfl); (case hr => first | (go_simp; done) | (go_simp; rfl)); intro aA hw; have hg : w8.grownBy aA (some I) := (by rw [hw]; exact Z.2); have hp_ : Kd.R Kd.string 9 aA w0.heap.size (fun k_ => (P0_ k_ ∨ w.heap.size <= k_)) (.slice (some ⟨I, 0, none⟩) s.length aL) X := (by rw [hw, aK.out]; exact Z.1); clear Z; replace HB := aM ((by rw [hw]; exact aa (HB.out) aP.out : Below w0.heap.size w0 aA)); replace HK := aM (Kept.of_grown (S := (fun k_ => P0_ k_)) hg (Z34) (fun k_ e_ => (HO_0.out.1 k_ e_))); replace HO_0 := aM (hp_); clear hg hw hp_))
    go_roundg U
    case measure => have := HK1.out; omega
    case rel => exact ⟨(X), (wrap64 (y + 1)), (wrap64 (x5_1 + 1)), (Z3), (Z3), H', ⟨Z85⟩, ⟨Z56⟩, ⟨Z34⟩, ⟨Z0⟩⟩
   rw [if_neg c3] at H
   have aI := ba c3
   clear c3
   simp only [Option.some.injEq, Prod.mk.injEq] at H
   obtain ⟨rfl, rfl⟩ := H
   obtain ⟨a2, a3, aQ⟩ := Kd.R_slice HO_0.out
   subst aQ
   go_wp2
   go_ret
   exact ⟨Z1, Z56, Z0, Z34⟩
end Go.Proofs.YtifkmkiljpeaaadGreat.PFnExactCommit
