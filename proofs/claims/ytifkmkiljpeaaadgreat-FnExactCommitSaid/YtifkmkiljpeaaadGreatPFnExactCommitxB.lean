import Derived.Test.YtifkmkiljpeaaadGreatPFnExactCommitxA
set_option maxHeartbeats 40000000
set_option maxRecDepth 100000
namespace Go.Proofs.YtifkmkiljpeaaadGreat.PFnExactCommit
open Go.RowKit Go.Proofs.YtifkmkiljpeaaadGreatW.PrintWords Go.Proofs.YtifkmkiljpeaaadGreatW.PrintLast Go.Proofs.YtifkmkiljpeaaadGreatW.PrintMore Go.Proofs.YtifkmkiljpeaaadGreat.Mac Go.Proofs.Tryz
set_option linter.unusedVariables false
set_option linter.unusedSimpArgs false
def fp.f (a0 : ByteArray) : Option ByteArray := if a0.size <= 65000 then some (bs (frameL a0.data.toList)) else none
theorem fp.calls (a0 r : ByteArray) (w : World) (h : fp.f a0 = some r) :
  Calls prog 81 #[.string a0] w fun e w' => e = .returned (.string r) /\ Below w.heap.size w w' := by
 unfold fp.f at h
 split at h
 ·injection h with h
  subst h
  have := s_l08Frame a0.data.toList w (by rw [← ee, bs_of]; omega)
  rwa [bs_of] at this
 cases h
def cr.l0 : Nat -> ByteArray -> Int -> Int -> Option (Int)
 | 0, _, _, _ => none
 | k + 1, x0, x3, x4 => if x4 < (x0.size : Int) then (if 0 <= x4 then (cr.l0 k x0 (wrap64 ((wrap64 (x3 * 256)) + (wrap64 (bt x0 x4)))) (wrap64 (x4 + 1))) else (none)) else (some x3)
def cr.f (k : Nat) (a0 : ByteArray) : Option (Int) := cr.l0 k a0 0 0
theorem cr.calls (k : Nat) (a0 : ByteArray) (r : Int) (w : World) (h : cr.f k a0 = some r) :
  Calls prog 110 #[.string a0] w fun e w' => e = .returned (.int .i64 r) /\ ew w w' := by
 have H := h
 clear h
 unfold cr.f at H
 have H' := aM H
 clear H
 go_enter func110, ntmps110
 go_wp2
 go_loopg [3, 4] k (fun kq I J w' => ∃ (y : Int) (s : Int), I = .int .i64 y /\ J = .int .i64 s /\ ap (cr.l0 kq a0 y s = some r) /\ ap (kq <= k) /\ ew w w')
 case atStart => exact ⟨(0), (0), (Z3), (Z3), H', ⟨bj _⟩, Z12⟩
 case round =>
  clear H'
  obtain ⟨y, s, rfl, rfl, HA, HK1, ⟨m1, rfl⟩⟩ := hrel
  cases gk with
  | zero => exact absurd HA.out (by simp [cr.l0])
  | succ M =>
   have H := HA.out
   clear HA
   simp only [cr.l0] at H
   by_cases c2 : s < (a0.size : Int)
   ·rw [if_pos c2] at H
    have O := az c2
    clear c2
    obtain ⟨c3, H⟩ := ifS H
    have U := az c3
    clear c3
    have H' := aM H
    clear H
    have p4 : 0 <= (s : Int) := dT (Z4)
    have D : s < (a0.size : Int) := dT (Z4)
    have X := bt_at a0 s
    replace p4 := bh p4
    replace D := bh D
    go_wp2
    go_roundg M
    case measure => have := HK1.out; omega
    case rel => exact ⟨(wrap64 ((wrap64 (y * 256)) + (wrap64 (bt a0 s)))), (wrap64 (s + 1)), (Z3), (Z3), H', ⟨Z85⟩, Z12⟩
   rw [if_neg c2] at H
   have O := ba c2
   clear c2
   obtain rfl := oI H
   go_wp2
   go_ret
   exact ⟨Z3, Z12⟩
def ck.l0 : Nat -> ByteArray -> List ByteArray -> Int -> Option (List ByteArray × Int × Int)
 | 0, _, _, _ => none
 | k + 1, x0, x5, x6 => if x6 < (x0.size : Int) then (if (wrap64 (x6 + 7)) > (x0.size : Int) then (some (x5, x6, 18)) else (if 0 <= x6 then (if x6 <= (wrap64 (x6 + 3)) then (if (wrap64 (x6 + 3)) <= (x0.size : Int) then ((cr.f k (x0.extract (x6 : Int).toNat ((wrap64 (x6 + 3)) : Int).toNat)).bind fun s => ((cf.f s 1 20000).bind fun y => (if y = true then (if (wrap64 ((wrap64 (x6 + 7)) + s)) > (x0.size : Int) then (some (x5, x6, 18)) else (if 0 <= (wrap64 (x6 + 7)) then (if (wrap64 (x6 + 7)) <= (wrap64 ((wrap64 (x6 + 7)) + s)) then (if (wrap64 ((wrap64 (x6 + 7)) + s)) <= (x0.size : Int) then ((fp.f (x0.extract ((wrap64 (x6 + 7)) : Int).toNat ((wrap64 ((wrap64 (x6 + 7)) + s)) : Int).toNat)).bind fun D => (if x6 <= (wrap64 ((wrap64 (x6 + 7)) + s)) then (if D.toList = (x0.extract (x6 : Int).toNat ((wrap64 ((wrap64 (x6 + 7)) + s)) : Int).toNat).toList then (if x5.length < 8796093022208 then (ck.l0 k x0 (x5 ++ [x0.extract ((wrap64 (x6 + 7)) : Int).toNat ((wrap64 ((wrap64 (x6 + 7)) + s)) : Int).toNat]) (wrap64 (x6 + (wrap64 (7 + s))))) else (none)) else (some (x5, x6, 8))) else (none))) else (none)) else (none)) else (none))) else (some (x5, x6, 8))))) else (none)) else (none)) else (none))) else (some (x5, x6, 0))
def ck.f (k : Nat) (a0 : ByteArray) : Option (List ByteArray × Int × Int) := ck.l0 k a0 (([] : List ByteArray)) 0
def ck.T11 : Bool × List (List Nat × List Nat) := (true, [([], []), ([], []), ([1], [1]), ([], []), ([3], [3]), ([], []), ([4, 5], [4, 5]), ([0, 2, 6], [0, 2, 6]), ([7], [7]), ([], []), ([], []), ([], []), ([11], [11]), ([], []), ([12, 13], [12, 13]), ([9, 10, 14], [9, 10, 14]), ([8, 15], [8, 15])])
def ck.B11 : List Nat := [0, 0, 2, 0, 8, 0, 56, 127, 255, 0, 0, 0, 2048, 0, 14336, 32256, 65535]
theorem ck.tab11 : rtab .any (opsOf Tryz.f71 11) = ck.T11 := by kernel_rfl
theorem ck.bits11 : waitsOk ck.T11.2 ck.B11 = true := by kernel_rfl
theorem ck.calls (k : Nat) (a0 : ByteArray) (M : List ByteArray) (O : Int) (U : Int) (w : World) (h : ck.f k a0 = some (M, O, U)) :
  Calls prog 71 #[.string a0] w fun e w' => ∃ v0_ : Value, e = .returned (.tuple #[v0_, .int .i64 O, .int .i64 U]) /\ Kd.R Kd.string 9 w' w.heap.size (fun _ => True) v0_ M /\ Below w.heap.size w w' := by
 have HB := aM (bi w.heap.size w)
 have H := h
 clear h
 unfold ck.f at H
 obtain ⟨aI, Y⟩ : ∃ y_ : List ByteArray, y_ = (([] : List ByteArray)) := ⟨_, rfl⟩
 replace H : (ck.l0 k a0 aI 0) = some (M, O, U) := by first | (rw [Y]; with_reducible exact H) | (have H2_ := (Option.bind_some _ _).symm.trans H; rw [Y]; with_reducible exact H2_) | (have H2_ := (Option.bind_some _ _).symm.trans H; with_reducible exact H2_) | with_reducible exact H | (rw [Y]; exact H) | exact H
 have aJ := aM Y
 clear Y
 have H' := aM H
 clear H
 go_enter func71, ntmps71
 go_wp2_with (first | ((with_reducible refine gD 8 ?_); refine Kd.R_lit Kd.string _ 9 ?hg (N := 8) ?hd (xs := ([] : List ByteArray)) (inner := []) (ok := fun _ => True) (okp := fun _ => True) ?hr ?hp (fun _ hk => hk) trivial (bi _ _) (bj _) (fg) ?_; (case hd => rfl); (case hg => rfl); (case hr => first | (go_simp; done) | (go_simp; rfl)); (case hp => exact (fc.none _ _)); intro bA w2 Z hb hg_ hnew_; clear hg_ hnew_; (first | rw [← aJ.out] at Z | (simp only [Int.reduceToNat] at Z; rw [← aJ.out] at Z)); have aX := aM (Kd.R_lower Z (ct (Z0))); replace HB := aM (ae (Z0) hb); clear hb Z))
 go_loopg [5, 6] k (fun kq v5 v6 w' => ∃ (x5_1 : List ByteArray) (s : Int), v6 = .int .i64 s /\ ap (ck.l0 kq a0 x5_1 s = some (M, O, U)) /\ ap (kq <= k) /\ ap (Kd.R Kd.string 9 w' w.heap.size (fun _ => True) v5 x5_1) /\ ap (Below w.heap.size w w'))
 case atStart => exact ⟨(aI), (0), (Z3), H', ⟨bj _⟩, ⟨by (with_reducible repeat (first | apply Kd.R_alloc | apply Kd.R_drewN | apply Kd.R_drew)); exact aX.out⟩, ⟨Z0⟩⟩
 case round =>
  clear H'
  obtain ⟨x5_1, s, rfl, HA, HK1, HO_5, HB⟩ := hrel
  cases gk with
  | zero => exact absurd HA.out (by simp [ck.l0])
  | succ I =>
   have H := HA.out
   clear HA
   simp only [ck.l0] at H
   by_cases c4 : s < (a0.size : Int)
   ·rw [if_pos c4] at H
    have a2 := az c4
    clear c4
    by_cases c5 : (wrap64 (s + 7)) > (a0.size : Int)
    ·rw [if_pos c5] at H
     have aK : decide ((a0.size : Int) < (wrap64 (s + 7))) = true := az c5
     clear c5
     simp only [Option.some.injEq, Prod.mk.injEq] at H
     obtain ⟨rfl, rfl, rfl⟩ := H
     go_wp2
     go_ret3
     exact ⟨_, Z1, Z66, Z0⟩
    rw [if_neg c5] at H
    have aK : decide ((a0.size : Int) < (wrap64 (s + 7))) = false := ba c5
    clear c5
    obtain ⟨c6, H⟩ := ifS H
    have bB := bh c6
    have bC : decide (0 <= s) = true := az c6
    clear c6
    obtain ⟨c7, H⟩ := ifS H
    have bD := bh c7
    have bE : decide (s <= (wrap64 (s + 3))) = true := az c7
    obtain ⟨c8, H⟩ := ifS H
    have bF := bh c8
    have bG : decide ((wrap64 (s + 3)) <= (a0.size : Int)) = true := az c8
    obtain ⟨y, A9, H⟩ := cz H
    try dsimp only at H
    obtain ⟨a3, aC, H⟩ := cz H
    try dsimp only at H
    by_cases aG : a3 = true
    ·subst aG
     replace H := ifT H
     by_cases X : (wrap64 ((wrap64 (s + 7)) + y)) > (a0.size : Int)
     ·rw [if_pos X] at H
      have aN : decide ((a0.size : Int) < (wrap64 ((wrap64 (s + 7)) + y))) = true := az X
      clear X
      simp only [Option.some.injEq, Prod.mk.injEq] at H
      obtain ⟨rfl, rfl, rfl⟩ := H
      go_wp2_with (first | ((with_reducible refine gC 110 ?_); refine gL 25 func110 #[.string (a0.extract (s : Int).toNat ((wrap64 (s + 3)) : Int).toNat)] ?_; (with_reducible refine (cr.calls I (a0.extract (s : Int).toNat ((wrap64 (s + 3)) : Int).toNat) y _ A9.out).mono ?_); rintro e w' ⟨rfl, ⟨nd, rfl⟩⟩; refine ⟨_, rfl, ?_⟩) | ((with_reducible refine gC 75 ?_); refine gL 27 func75 #[.int .i64 y, .int .i64 1, .int .i64 20000] ?_; (with_reducible refine (cf.calls y 1 20000 true _ aC.out).mono ?_); rintro e w' ⟨rfl, ⟨nd, rfl⟩⟩; refine ⟨_, rfl, ?_⟩))
      go_ret3
      exact ⟨_, Z1, Z66, Z0⟩
     rw [if_neg X] at H
     have aN : decide ((a0.size : Int) < (wrap64 ((wrap64 (s + 7)) + y))) = false := ba X
     clear X
     obtain ⟨D, hji13⟩ : ∃ j_ : Int, (wrap64 (s + 7)) = j_ := ⟨_, rfl⟩
     replace H : (if 0 <= (D) then (if (D) <= (wrap64 ((D) + y)) then (if (wrap64 ((D) + y)) <= (a0.size : Int) then ((fp.f (a0.extract ((D) : Int).toNat ((wrap64 ((D) + y)) : Int).toNat)).bind fun aD => (if s <= (wrap64 ((D) + y)) then (if aD.toList = (a0.extract (s : Int).toNat ((wrap64 ((D) + y)) : Int).toNat).toList then (if x5_1.length < 8796093022208 then (ck.l0 I a0 (x5_1 ++ [a0.extract ((D) : Int).toNat ((wrap64 ((D) + y)) : Int).toNat]) (wrap64 (s + (wrap64 (7 + y))))) else (none)) else (some (x5_1, s, 8))) else (none))) else (none)) else (none)) else (none)) = some (M, O, U) := by first | (rw [hji13] at H; exact H) | (simp only [hji13] at H ⊢; exact H)
     (try rw [hji13] at aK)
     (try rw [hji13] at aN)
     (try rw [hji13] at A9)
     (try rw [hji13] at aC)
     have hji13w : (IntKind.i64.wrap (s + 7)) = D := (i64_w _).trans hji13
     obtain ⟨aH, H⟩ := ifS H
     have bH := bh aH
     have bI : decide (0 <= (D)) = true := az aH
     clear aH
     obtain ⟨aQ, H⟩ := ifS H
     have bJ := bh aQ
     have bK : decide ((D) <= (wrap64 ((D) + y))) = true := az aQ
     obtain ⟨aR, H⟩ := ifS H
     have bL := bh aR
     have bM : decide ((wrap64 ((D) + y)) <= (a0.size : Int)) = true := az aR
     obtain ⟨aD, aT, H⟩ := cz H
     try dsimp only at H
     have bN := bh (dT (Z4) : 0 <= s)
     obtain ⟨aU, H⟩ := ifS H
     have bO := bh aU
     have bP : decide (s <= (wrap64 ((D) + y))) = true := az aU
     have bQ := bh (dT (Z4) : (wrap64 ((D) + y)) <= (a0.size : Int))
     by_cases J : aD.toList = (a0.extract (s : Int).toNat ((wrap64 ((D) + y)) : Int).toNat).toList
     ·rw [if_pos J] at H
      have a5 := bf J
      have a6 := bc J
      clear J
      have bR := bh (dT (Z4) : 0 <= (D))
      have bS := bh (dT (Z4) : (D) <= (wrap64 ((D) + y)))
      have bT := bh (dT (Z4) : (wrap64 ((D) + y)) <= (a0.size : Int))
      obtain ⟨aV, H⟩ := ifS H
      have a7 := aM aV
      clear aV
      obtain ⟨aW, aE⟩ : ∃ y_ : List ByteArray, y_ = (x5_1 ++ [a0.extract ((D) : Int).toNat ((wrap64 ((D) + y)) : Int).toNat]) := ⟨_, rfl⟩
      replace H : (ck.l0 I a0 aW (wrap64 (s + (wrap64 (7 + y))))) = some (M, O, U) := by first | (rw [aE]; with_reducible exact H) | (have H2_ := (Option.bind_some _ _).symm.trans H; rw [aE]; with_reducible exact H2_) | (have H2_ := (Option.bind_some _ _).symm.trans H; with_reducible exact H2_) | with_reducible exact H | (rw [aE]; exact H) | exact H
      have a8 := aM aE
      clear aE
      have H' := aM H
      clear H
      try go_wp2_with (first | ((with_reducible refine gC 110 ?_); refine gL 25 func110 #[.string (a0.extract (s : Int).toNat ((wrap64 (s + 3)) : Int).toNat)] ?_; (with_reducible refine (cr.calls I (a0.extract (s : Int).toNat ((wrap64 (s + 3)) : Int).toNat) y _ A9.out).mono ?_); rintro e w' ⟨rfl, ⟨nd, rfl⟩⟩; refine ⟨_, rfl, ?_⟩) | ((with_reducible refine gC 75 ?_); refine gL 27 func75 #[.int .i64 y, .int .i64 1, .int .i64 20000] ?_; (with_reducible refine (cf.calls y 1 20000 true _ aC.out).mono ?_); rintro e w' ⟨rfl, ⟨nd, rfl⟩⟩; refine ⟨_, rfl, ?_⟩))
      (try (rw [drewN_self wr]; generalize hq_ : World.drewN wr _ = wr; have n0_ : ap (Kd.R Kd.string 9 wr w.heap.size (fun _ => True) u5 x5_1) := ⟨by rw [← hq_]; exact (Z66)⟩; have n1_ : ap (Below w.heap.size w wr) := ⟨Z190⟩; clear HO_5 HB hq_; have HO_5 := n0_; have HB := n1_; clear n0_ n1_))
      replace HO_5 := aM (Kd.R_drew HO_5.out)
      replace HB := aM (ac HB.out)
      refine fe (n := 17) (S := fun w' => True) (ds := []) #[false, false, false, false, false, false, false, false, false, false, false, false, false, false, false, false, false] (Z16) rfl rfl trivial (fun hHeld => ?_); refine df ck.tab11 ck.bits11 (fun HT_ HW_ => ?_)
      generalize wr.drew = bU at HO_5 HB hHeld ⊢
      refine pA 0 40 ?_
      refine pA 1 41 ?_
      refine pA 2 42 ?_
      refine pA 3 43 ?_
      refine pA 4 44 ?_
      refine pA 5 45 ?_
      refine pA 6 46 ?_
      refine pA 7 47 ?_
      refine pA 9 49 ?_
      refine pA 10 50 ?_
      refine pA 11 51 ?_
      refine pA 12 52 ?_
      refine pA 13 53 ?_
      refine pA 14 54 ?_
      refine pA 15 55 ?_
      refine oA 8 48 (fun K hK => ?_)
      refine fl func81 (Z16) rfl #[.string (a0.extract ((D) : Int).toNat ((wrap64 ((D) + y)) : Int).toNat)] (Z96) rfl rfl (Z185) ?_
      with_reducible refine (fp.calls (a0.extract ((D) : Int).toNat ((wrap64 ((D) + y)) : Int).toNat) aD _ aT.out).mono ?_
      rintro e bV ⟨rfl, hb⟩
      refine ⟨_, rfl, ?_⟩
      replace HO_5 := aM (Kd.R_below (Z66) hb)
      replace HB := aM (ae (Z0) hb)
      (try clear hb); (try clear hk)
      refine hK.out _ _ trivial (fun hHeld => ?_)
      clear hK K
      refine nB 48 ?_
      refine pA 16 56 ?_
      refine gh (ei HT_.out (Z16)) ?_
      try go_wp2_with (first | ((with_reducible refine gate_builtin (b := .append) (xs := #[.tmp 59, .tmp 68]) rfl ?_); at_builtin; refine Kd.R_append Kd.string (w0 := w) w.heap.size rfl (.tmp 59) (.tmp 68) 66 9 (.string ⟨#[]⟩) 16 rfl underlying66 info9 rfl (Z68) (Z31) u5 x5_1 (a0.extract ((D) : Int).toNat ((wrap64 ((D) + y)) : Int).toNat) [.string (a0.extract ((D) : Int).toNat ((wrap64 ((D) + y)) : Int).toNat)] (fun _ => True) (fun _ => False) rfl rfl ?aP (fun _ hk => hk.elim) ?aF ?aO ?aB ?aS ?aL ?_; (case aP => exact rfl); (case aB => exact (Z0)); (case aF => exact (fun _ _ => trivial)); (case aO => exact (Z66)); (case aS => exact (ct (Z0))); (case aL => have := a7.out; omega); intro bW bX ho hb hg hat; rw [← a8.out] at ho; have n0_ := aM (hb); have n1_ := aM (ho); clear HB; clear HO_5; have HB := n0_; have a9 := n1_; clear n0_ n1_; clear ho hb hg hat))
      go_roundg I
      case measure => have := HK1.out; omega
      case rel => exact ⟨(aW), (wrap64 (s + (wrap64 (7 + y)))), (Z3), H', ⟨Z85⟩, ⟨by (with_reducible repeat (first | apply Kd.R_alloc | apply Kd.R_drewN | apply Kd.R_drew)); exact a9.out⟩, ⟨Z0⟩⟩
     rw [if_neg J] at H
     have a5 := bb J
     have a6 := bg J
     simp only [Option.some.injEq, Prod.mk.injEq] at H
     obtain ⟨rfl, rfl, rfl⟩ := H
     try go_wp2_with (first | ((with_reducible refine gC 110 ?_); refine gL 25 func110 #[.string (a0.extract (s : Int).toNat ((wrap64 (s + 3)) : Int).toNat)] ?_; (with_reducible refine (cr.calls I (a0.extract (s : Int).toNat ((wrap64 (s + 3)) : Int).toNat) y _ A9.out).mono ?_); rintro e w' ⟨rfl, ⟨nd, rfl⟩⟩; refine ⟨_, rfl, ?_⟩) | ((with_reducible refine gC 75 ?_); refine gL 27 func75 #[.int .i64 y, .int .i64 1, .int .i64 20000] ?_; (with_reducible refine (cf.calls y 1 20000 true _ aC.out).mono ?_); rintro e w' ⟨rfl, ⟨nd, rfl⟩⟩; refine ⟨_, rfl, ?_⟩))
     (try (rw [drewN_self wr]; generalize hq_ : World.drewN wr _ = wr; have n0_ : ap (Kd.R Kd.string 9 wr w.heap.size (fun _ => True) u5 x5_1) := ⟨by rw [← hq_]; exact (Z66)⟩; have n1_ : ap (Below w.heap.size w wr) := ⟨Z190⟩; clear HO_5 HB hq_; have HO_5 := n0_; have HB := n1_; clear n0_ n1_))
     replace HO_5 := aM (Kd.R_drew HO_5.out)
     replace HB := aM (ac HB.out)
     refine fe (n := 17) (S := fun w' => True) (ds := []) #[false, false, false, false, false, false, false, false, false, false, false, false, false, false, false, false, false] (Z16) rfl rfl trivial (fun hHeld => ?_); refine df ck.tab11 ck.bits11 (fun HT_ HW_ => ?_)
     generalize wr.drew = bY at HO_5 HB hHeld ⊢
     refine pA 0 40 ?_
     refine pA 1 41 ?_
     refine pA 2 42 ?_
     refine pA 3 43 ?_
     refine pA 4 44 ?_
     refine pA 5 45 ?_
     refine pA 6 46 ?_
     refine pA 7 47 ?_
     refine pA 9 49 ?_
     refine pA 10 50 ?_
     refine pA 11 51 ?_
     refine pA 12 52 ?_
     refine pA 13 53 ?_
     refine pA 14 54 ?_
     refine pA 15 55 ?_
     refine oA 8 48 (fun K hK => ?_)
     refine fl func81 (Z16) rfl #[.string (a0.extract ((D) : Int).toNat ((wrap64 ((D) + y)) : Int).toNat)] (Z96) rfl rfl (Z185) ?_
     with_reducible refine (fp.calls (a0.extract ((D) : Int).toNat ((wrap64 ((D) + y)) : Int).toNat) aD _ aT.out).mono ?_
     rintro e bZ ⟨rfl, hb⟩
     refine ⟨_, rfl, ?_⟩
     replace HO_5 := aM (Kd.R_below (Z66) hb)
     replace HB := aM (ae (Z0) hb)
     (try clear hb); (try clear hk)
     refine hK.out _ _ trivial (fun hHeld => ?_)
     clear hK K
     refine nB 48 ?_
     refine pA 16 56 ?_
     refine gh (ei HT_.out (Z16)) ?_
     try go_wp2
     go_ret3
     exact ⟨_, by first | rfl | (simp only [nil_beq, nil_bne]; rfl) | (simp [nil_beq, nil_bne]; done) | (simp [errW_none, errW_some] <;> rfl) | (simp only [← hji13]; first | rfl | (simp [errW_none, errW_some] <;> rfl)) | (simp [*, errW_none, errW_some] <;> rfl), Z66, Z0⟩
    replace aG := be aG
    subst aG
    replace H := ifF H
    simp only [Option.some.injEq, Prod.mk.injEq] at H
    obtain ⟨rfl, rfl, rfl⟩ := H
    go_wp2_with (first | ((with_reducible refine gC 110 ?_); refine gL 25 func110 #[.string (a0.extract (s : Int).toNat ((wrap64 (s + 3)) : Int).toNat)] ?_; (with_reducible refine (cr.calls I (a0.extract (s : Int).toNat ((wrap64 (s + 3)) : Int).toNat) y _ A9.out).mono ?_); rintro e w' ⟨rfl, ⟨nd, rfl⟩⟩; refine ⟨_, rfl, ?_⟩) | ((with_reducible refine gC 75 ?_); refine gL 27 func75 #[.int .i64 y, .int .i64 1, .int .i64 20000] ?_; (with_reducible refine (cf.calls y 1 20000 false _ aC.out).mono ?_); rintro e w' ⟨rfl, ⟨nd, rfl⟩⟩; refine ⟨_, rfl, ?_⟩))
    go_ret3
    exact ⟨_, Z1, Z66, Z0⟩
   rw [if_neg c4] at H
   have a2 := ba c4
   clear c4
   simp only [Option.some.injEq, Prod.mk.injEq] at H
   obtain ⟨rfl, rfl, rfl⟩ := H
   go_wp2
   go_ret3
   exact ⟨_, Z1, Z66, Z0⟩
def spec_l09Box.f (I : ByteArray) (J : Int) (M : Int) (l0_3 : List (S113)) (s : List ByteArray) : Option (ByteArray × Int × Int × (List (S113)) × List ByteArray) := (some (([] : List (S113)) : List (S113))).bind fun y => (if y.length + l0_3.length < 4398046511104 then ((some (([] : List ByteArray) : List ByteArray)).bind fun D => (if D.length + s.length < 8796093022208 then (some (I, J, M, (y ++ l0_3), (D ++ s))) else (none))) else (none))
theorem spec_l09Box.calls (y : ByteArray) (D : Int) (I : Int) (aQ : Option Addr) (aT : Nat) (l0_3 : List (S113)) (O : Option Addr) (U : Nat) (s : List ByteArray) (X : ByteArray) (Y : Int) (Z : Int) (r4 : List (S113)) (r5 : List ByteArray) (w : World) (aX : Kd.C k113 w aQ l0_3.length l0_3) (a7 : l0_3.length <= aT) (aY : Kd.C Kd.string w O s.length s) (a8 : s.length <= U) (h : spec_l09Box.f y D I l0_3 s = some (X, Y, Z, r4, r5)) :
  Calls prog 82 #[.agg #[.string y, .int .i64 D, .int .i64 I, .slice aQ l0_3.length aT, .slice O s.length U]] w fun e w' => ∃ v3_ v4_ : Value, e = .returned (.agg #[.string X, .int .i64 Y, .int .i64 Z, v3_, v4_]) /\ Kd.R k113 113 w' w.heap.size (fun _ => True) v3_ r4 /\ Kd.R Kd.string 9 w' w.heap.size (fun _ => True) v4_ r5 /\ Below w.heap.size w w' := by
 have bM := underlying82
 replace aX := aM aX
 replace a7 := aM a7
 replace aY := aM aY
 replace a8 := aM a8
 have HB := aM (bi w.heap.size w)
 have H := h
 clear h
 unfold spec_l09Box.f at H
 obtain ⟨aU, aE⟩ : ∃ y_ : List (S113), y_ = (([] : List (S113))) := ⟨_, rfl⟩
 replace H : (if aU.length + l0_3.length < 4398046511104 then ((some (([] : List ByteArray) : List ByteArray)).bind fun J => (if J.length + s.length < 8796093022208 then (some (y, D, I, (aU ++ l0_3), (J ++ s))) else (none))) else (none)) = some (X, Y, Z, r4, r5) := by first | (rw [aE]; with_reducible exact H) | (have H2_ := (Option.bind_some _ _).symm.trans H; rw [aE]; with_reducible exact H2_) | (have H2_ := (Option.bind_some _ _).symm.trans H; with_reducible exact H2_) | with_reducible exact H | (rw [aE]; exact H) | exact H
 have a9 := aM aE
 clear aE
 obtain ⟨c2, H⟩ := ifS H
 have bC := aM c2
 clear c2
 obtain ⟨aD, aG⟩ : ∃ y_ : List (S113), y_ = (aU ++ l0_3) := ⟨_, rfl⟩
 replace H : ((some (([] : List ByteArray) : List ByteArray)).bind fun J => (if J.length + s.length < 8796093022208 then (some (y, D, I, aD, (J ++ s))) else (none))) = some (X, Y, Z, r4, r5) := by first | (rw [aG]; with_reducible exact H) | (have H2_ := (Option.bind_some _ _).symm.trans H; rw [aG]; with_reducible exact H2_) | (have H2_ := (Option.bind_some _ _).symm.trans H; with_reducible exact H2_) | with_reducible exact H | (rw [aG]; exact H) | exact H
 have bD := aM aG
 clear aG
 obtain ⟨J, aH⟩ : ∃ y_ : List ByteArray, y_ = (([] : List ByteArray)) := ⟨_, rfl⟩
 replace H : (if J.length + s.length < 8796093022208 then (some (y, D, I, aD, (J ++ s))) else (none)) = some (X, Y, Z, r4, r5) := by first | (rw [aH]; with_reducible exact H) | (have H2_ := (Option.bind_some _ _).symm.trans H; rw [aH]; with_reducible exact H2_) | (have H2_ := (Option.bind_some _ _).symm.trans H; with_reducible exact H2_) | with_reducible exact H | (rw [aH]; exact H) | exact H
 have bA := aM aH
 clear aH
 obtain ⟨c3, H⟩ := ifS H
 have bE := aM c3
 clear c3
 obtain ⟨aV, aI⟩ : ∃ y_ : List ByteArray, y_ = (J ++ s) := ⟨_, rfl⟩
 replace H : (some (y, D, I, aD, aV)) = some (X, Y, Z, r4, r5) := by first | (rw [aI]; with_reducible exact H) | (have H2_ := (Option.bind_some _ _).symm.trans H; rw [aI]; with_reducible exact H2_) | (have H2_ := (Option.bind_some _ _).symm.trans H; with_reducible exact H2_) | with_reducible exact H | (rw [aI]; exact H) | exact H
 have bF := aM aI
 clear aI
 simp only [Option.some.injEq, Prod.mk.injEq] at H
 obtain ⟨rfl, rfl, rfl, rfl, rfl⟩ := H
 go_enter func82, ntmps82
 go_wp2_with (first | ((with_reducible refine gD 1 ?_); refine bxF w 1 #[.string y, .int .i64 D, .int .i64 I, .slice aQ l0_3.length aT, .slice O s.length U] 82 (Z0) ?_; intro aJ hg w4 BK161 bN GE161 HB hb; clear hb hg) | ((with_reducible refine gD 2 ?_); refine bxF w 2 #[.string (⟨#[]⟩ : ByteArray), .int .i64 0, .int .i64 0, .slice none 0 0, .slice none 0 0] 82 (Z142) ?_; intro aZ hg w5 BK162 bO GE162 HB hb; have bG := aM ((nL BK161 hg (Z98))); have bH := aM ((nG BK161 hg (Z98))); replace BK161 := aM (kB BK161 (Z98) hb); clear hb hg) | ((with_reducible refine gD 3 ?_); refine Kd.R_lit k113 _ 113 ?hg (N := 3) ?hd (xs := ([] : List (S113))) (inner := []) (ok := fun _ => True) (okp := fun _ => True) ?hr ?hp (fun _ hk => hk) trivial (bi _ _) (bj _) (fg) ?_; (case hd => rfl); (case hg => rfl); (case hr => first | (go_simp; done) | (go_simp; rfl)); (case hp => exact (fc.none _ _)); intro bI w6 aK hb hg_ hnew_; clear hg_ hnew_; (first | rw [← a9.out] at aK | (simp only [Int.reduceToNat] at aK; rw [← a9.out] at aK)); have aW := aM (Kd.R_lower aK (ct (Z48))); replace BK161 := aM (kB BK161 (Z98) hb); replace BK162 := aM (kB BK162 (Z175) hb); replace HB := aM (ae (Z48) hb); clear hb aK; have bP := bG.out; have bQ := bH.out; refine bD5 BK161 ?_; intros) | ((with_reducible refine gate_builtin (b := .append) (xs := #[.tmp 3, .tmp 5]) rfl ?_); at_builtin; refine Kd.R_append_rows k113 (w0 := w) w.heap.size rfl (.tmp 3) (.tmp 5) 80 113 (.agg #[(.int .i64 0), (.int .i64 0), (.string ⟨#[]⟩)]) 32 rfl underlying80 info113 rfl (Z68) (Z31) bI aU l0_3 _ _ _ (fun _ => True) (fun _ => False) rfl rfl ?aO ?aR (fun _ _ h => h) (fun _ h => h.elim) ?aF ?aB ?aS ?aL ?_; (case aR => repeat (first | exact (Kd.C_below aX.out HB.out) | (with_reducible refine Kd.C_alloc ?_ _) | (with_reducible refine Kd.C_drewN ?_ _) | (with_reducible refine Kd.C_drew ?_))); (case aB => exact (Z48)); (case aF => exact (fun _ _ => trivial)); (case aO => exact (by (with_reducible repeat (first | apply Kd.R_alloc | apply Kd.R_drewN | apply Kd.R_drew)); exact aW.out)); (case aS => exact (ct (Z48))); (case aL => have := bC.out; omega); intro bR bS ho hb hg hat; rw [← bD.out] at ho; have n0_ := aM (fm (g := aJ) (o := .cells #[.string y, .int .i64 D, .int .i64 I, .slice aQ l0_3.length aT, .slice O s.length U] 82 (0, 0)) (Z98) hg (Kd.R_ne aW.out BK161.out (Z68))); have n1_ := aM (fm (g := aZ) (o := .cells #[.string (⟨#[]⟩ : ByteArray), .int .i64 0, .int .i64 0, .slice none 0 0, .slice none 0 0] 82 (0, 0)) (Z175) hg (Kd.R_ne aW.out BK162.out (Z68))); have n2_ := aM (hb); have n3_ := aM (ho); clear BK161; clear BK162; clear HB; clear aW; have BK161 := n0_; have BK162 := n1_; have HB := n2_; have M := n3_; clear n0_ n1_ n2_ n3_; clear ho hb hg hat; obtain ⟨a2, a3, bJ⟩ := Kd.R_slice M.out; subst bJ; refine bD5 BK161 ?_; intros) | ((with_reducible refine gD 8 ?_); refine Kd.R_lit Kd.string _ 9 ?hg (N := 8) ?hd (xs := ([] : List ByteArray)) (inner := []) (ok := fun _ => True) (okp := fun _ => True) ?hr ?hp (fun _ hk => hk) trivial (bi _ _) (bj _) (fg) ?_; (case hd => rfl); (case hg => rfl); (case hr => first | (go_simp; done) | (go_simp; rfl)); (case hp => exact (fc.none _ _)); intro bK bT aN hb hg_ hnew_; clear hg_ hnew_; (first | rw [← bA.out] at aN | (simp only [Int.reduceToNat] at aN; rw [← bA.out] at aN)); replace M := aM (Kd.R_below (by (with_reducible repeat (first | apply Kd.R_alloc | apply Kd.R_drewN | apply Kd.R_drew)); exact (Kd.R_mono (rF 3 (Kd.R_types M.out BK161.out (Z68))) (fun _ h_ => h_.1))) hb); have aP := aM (Kd.R_lower aN (ct (Z48))); replace BK161 := aM (ai (g := aJ) (o := .cells #[.string y, .int .i64 D, .int .i64 I, .slice a2 aD.length a3, .slice O s.length U] 82 (0, 0)) zB hb); replace BK162 := aM (kB BK162 zB hb); replace HB := aM (ae (Z48) hb); clear hb aN; refine bD5 BK161 ?_; intros) | ((with_reducible refine gate_builtin (b := .append) (xs := #[.tmp 8, .tmp 10]) rfl ?_); at_builtin; refine Kd.R_append_rows Kd.string (w0 := w) w.heap.size rfl (.tmp 8) (.tmp 10) 66 9 (.string ⟨#[]⟩) 16 rfl underlying66 info9 rfl (Z68) (Z31) bK J s _ _ _ (fun _ => True) (fun _ => False) rfl rfl ?aO ?aR (fun _ _ h => h) (fun _ h => h.elim) ?aF ?aB ?aS ?aL ?_; (case aR => repeat (first | exact (Kd.C_below aY.out HB.out) | (with_reducible refine Kd.C_alloc ?_ _) | (with_reducible refine Kd.C_drewN ?_ _) | (with_reducible refine Kd.C_drew ?_))); (case aB => exact (Z48)); (case aF => exact (fun _ _ => trivial)); (case aO => exact (by (with_reducible repeat (first | apply Kd.R_alloc | apply Kd.R_drewN | apply Kd.R_drew)); exact aP.out)); (case aS => exact (ct (Z48))); (case aL => have := bE.out; omega); intro bU bV ho hb hg hat; rw [← bF.out] at ho; have n0_ := aM (fm (g := aJ) (o := .cells #[.string y, .int .i64 D, .int .i64 I, .slice a2 aD.length a3, .slice O s.length U] 82 (0, 0)) (Z98) hg (Kd.R_ne aP.out BK161.out (Z68))); have n1_ := aM (fm (g := aZ) (o := .cells #[.string (⟨#[]⟩ : ByteArray), .int .i64 0, .int .i64 0, .slice none 0 0, .slice none 0 0] 82 (0, 0)) (Z175) hg (Kd.R_ne aP.out BK162.out (Z68))); have n2_ := aM (Kd.R_over' (by (with_reducible repeat (first | apply Kd.R_alloc | apply Kd.R_drewN | apply Kd.R_drew)); exact M.out) (Kd.R_typed (by (with_reducible repeat (first | apply Kd.R_alloc | apply Kd.R_drewN | apply Kd.R_drew)); exact aP.out)) (Z68) hg); have n3_ := aM (hb); have n4_ := aM (ho); clear BK161; clear BK162; clear M; clear HB; clear aP; have BK161 := n0_; have BK162 := n1_; have M := n2_; have HB := n3_; have bB := n4_; clear n0_ n1_ n2_ n3_ n4_; clear ho hb hg hat; obtain ⟨a5, a6, bL⟩ := Kd.R_slice bB.out; subst bL; refine bD5 BK161 ?_; intros; refine bD5 BK162 ?_; intros))
 refine bodyPost_ret (results_cell_row rfl _ _ aZ 82 #[.string y, .int .i64 D, .int .i64 I, .slice a2 aD.length a3, .slice a5 aV.length a6] (0, 0) _ rfl zB underlying82 rfl (Z16)) rfl ?_
 exact ⟨_, _, Z1, by (with_reducible repeat (first | apply Kd.R_alloc | apply Kd.R_drewN | apply Kd.R_drew)); exact Kd.R_mono (rF 4 (rF 3 (rF 2 (rF 1 (rF 0 (Kd.R_far (p := ⟨aJ, 4, none⟩) (Kd.R_types (Kd.R_types M.out BK161.out (Z68)) BK162.out (Z68)) (fun _ hk => hk.1.2) (.slice a5 aV.length a6))))))) (fun _ hk => trivial), by (with_reducible repeat (first | apply Kd.R_alloc | apply Kd.R_drewN | apply Kd.R_drew)); exact Kd.R_mono (rF 4 (rF 3 (rF 2 (rF 1 (rF 0 (Kd.R_far (p := ⟨aJ, 4, none⟩) (Kd.R_types (Kd.R_types bB.out BK161.out (Z68)) BK162.out (Z68)) (fun _ hk => hk.1.2) (.slice a5 aV.length a6))))))) (fun _ hk => trivial), Z48⟩
def du.l0 : Nat -> List (S82) -> List (S82) -> Int -> Option ((List (S82)))
 | 0, _, _, _ => none
 | k + 1, x0, x3, x4 => if x4 < (x0.length : Int) then (if 0 <= x4 then ((spec_l09Box.f ((ax x0 x4).f0) ((ax x0 x4).f1) ((ax x0 x4).f2) ((ax x0 x4).f3) ((ax x0 x4).f4)).bind fun s => (if x3.length < 1759218604441 then (du.l0 k x0 (x3 ++ [(⟨s.1, s.2.1, s.2.2.1, s.2.2.2.1, s.2.2.2.2⟩ : S82)]) (wrap64 (x4 + 1))) else (none))) else (none)) else (some x3)
def du.f (k : Nat) (l0 : List (S82)) : Option ((List (S82))) := du.l0 k l0 (([] : List (S82))) 0
theorem du.calls (k : Nat) (A0 : Option Addr) (c0 : Nat) (l0 : List (S82)) (r : List (S82)) (w : World) (hr0 : Kd.C k82 w A0 l0.length l0) (aI : l0.length <= c0) (h : du.f k l0 = some r) :
  Calls prog 42 #[.slice A0 l0.length c0] w fun e w' => ∃ v0_ : Value, e = .returned (v0_) /\ Kd.S k82 82 w' w.heap.size (fun _ => True) v0_ r /\ Below w.heap.size w w' := by
 have bR := underlying82
 replace hr0 := aM hr0
 replace aI := aM aI
 have HB := aM (bi w.heap.size w)
 have H := h
 clear h
 unfold du.f at H
 obtain ⟨aJ, I⟩ : ∃ y_ : List (S82), y_ = (([] : List (S82))) := ⟨_, rfl⟩
 replace H : (du.l0 k l0 aJ 0) = some r := by first | (rw [I]; with_reducible exact H) | (have H2_ := (Option.bind_some _ _).symm.trans H; rw [I]; with_reducible exact H2_) | (have H2_ := (Option.bind_some _ _).symm.trans H; with_reducible exact H2_) | with_reducible exact H | (rw [I]; exact H) | exact H
 have aK := aM I
 clear I
 have H' := aM H
 clear H
 go_enter func42, ntmps42
 go_wp2_with (first | ((with_reducible refine gD 5 ?_); refine Kd.S_lit k82 _ 82 ?hg (N := 5) ?hd (xs := ([] : List (S82))) (inner := []) (ok := fun _ => True) (okp := fun _ => True) ?hr ?hp (fun _ hk => hk) trivial (bi _ _) (bj _) (fg) ?_; (case hd => rfl); (case hg => rfl); (case hr => first | (go_simp; done) | (go_simp; rfl)); (case hp => exact (fc.none _ _)); intro bS w2 J hb hg_ hnew_; clear hg_ hnew_; (first | rw [← aK.out] at J | (simp only [Int.reduceToNat] at J; rw [← aK.out] at J)); have a8 := aM (Kd.S_lower J (ct (Z0))); replace HB := aM (ae (Z0) hb); clear hb J))
 go_loopg [3, 4] k (fun kq v3 v4 w' => ∃ (M : List (S82)) (s : Int), v4 = .int .i64 s /\ ap (du.l0 kq l0 M s = some r) /\ ap (kq <= k) /\ ap (Kd.S k82 82 w' w.heap.size (fun _ => True) v3 M) /\ ap (Below w.heap.size w w'))
 case atStart => exact ⟨(aJ), (0), (Z3), H', ⟨bj _⟩, ⟨by (with_reducible repeat (first | apply Kd.S_alloc | apply Kd.S_drewN | apply Kd.S_drew)); exact a8.out⟩, ⟨Z0⟩⟩
 case round =>
  clear H'
  obtain ⟨M, s, rfl, HA, HK1, HO_3, HB⟩ := hrel
  cases gk with
  | zero => exact absurd HA.out (by simp [du.l0])
  | succ k1 =>
   have H := HA.out
   clear HA
   simp only [du.l0] at H
   by_cases c4 : s < (l0.length : Int)
   ·rw [if_pos c4] at H
    have bB := az c4
    clear c4
    obtain ⟨c5, H⟩ := ifS H
    have bT := az c5
    clear c5
    obtain ⟨⟨O, U, X, y, D⟩, A6, H⟩ := cz H
    try dsimp only at H
    obtain ⟨c7, H⟩ := ifS H
    have bD := aM c7
    clear c7
    obtain ⟨aQ, Y⟩ : ∃ y_ : List (S82), y_ = (M ++ [(⟨O, U, X, y, D⟩ : S82)]) := ⟨_, rfl⟩
    replace H : (du.l0 k1 l0 aQ (wrap64 (s + 1))) = some r := by first | (rw [Y]; with_reducible exact H) | (have H2_ := (Option.bind_some _ _).symm.trans H; rw [Y]; with_reducible exact H2_) | (have H2_ := (Option.bind_some _ _).symm.trans H; with_reducible exact H2_) | with_reducible exact H | (rw [Y]; exact H) | exact H
    have bE := aM Y
    clear Y
    have H' := aM H
    clear H
    have aC : 0 <= (s : Int) := dT (Z4)
    have aD : s < (l0.length : Int) := dT (Z4)
    obtain ⟨bU, bF, bG, bH, bI, bJ, aR, aT, aU, aV, aW, aX, aY, aZ, a2⟩ := em hr0.out s aC aD
    cases bJ
    replace aR := cB HB.out aR
    replace aT := cB HB.out aT
    replace aU := cB HB.out aU
    replace aV := cB HB.out aV
    replace aW := cB HB.out aW
    have bK := aM aY
    have bL := aM aX
    clear aY aX
    have bM := aM a2
    have bN := aM aZ
    clear a2 aZ
    replace aC := bh aC
    replace aD := bh aD
    go_wp2_with (first | ((with_reducible refine gC 82 ?_); refine gL 17 func82 #[.agg #[.string ((ax l0 s).f0), .int .i64 ((ax l0 s).f1), .int .i64 ((ax l0 s).f2), .slice bF ((ax l0 s).f3).length bG, .slice bH ((ax l0 s).f4).length bI]] ?_; (with_reducible refine (spec_l09Box.calls ((ax l0 s).f0) ((ax l0 s).f1) ((ax l0 s).f2) _ _ ((ax l0 s).f3) _ _ ((ax l0 s).f4) O U X y D _ ?Y1 ?Y2 ?Y3 ?Y4 A6.out).mono ?_); (case Y1 => have h_ := Kd.C_below bK.out HB.out; exact tC); (case Y2 => exact bL.out); (case Y3 => have h_ := Kd.C_below bM.out HB.out; exact tC); (case Y4 => exact bN.out); rintro e w8 ⟨bW, bX, rfl, aE, aG, hb⟩; refine ⟨_, rfl, ?_⟩; replace HO_3 := aM (Kd.S_mono (Kd.S_told (Kd.S_told (Kd.S_old (Z94) hb) (Kd.R_base aE)) (Kd.R_base aG)) (fun _ h_ => h_.1)); have Z := aM (Kd.R_lower aE (ct (Z0))); have aA := aM (Kd.R_lower aG (ct (Z0))); replace HB := aM (ae (Z0) hb); (try clear hb); (try clear aE); (try clear aG); obtain ⟨a3, a5, bO⟩ := Kd.R_slice Z.out; subst bO; obtain ⟨a6, a7, bP⟩ := Kd.R_slice aA.out; subst bP) | ((with_reducible refine gate_builtin (b := .append) (xs := #[.tmp 12, .tmp 18]) rfl ?_); at_builtin; refine Kd.S_append k82 (w0 := w) w.heap.size rfl (.tmp 12) (.tmp 18) 33 82 (.agg #[(.string ⟨#[]⟩), (.int .i64 0), (.int .i64 0), (.slice none 0 0), (.slice none 0 0)]) 80 rfl underlying33 info82 rfl (Z68) (Z31) u3 M (⟨O, U, X, y, D⟩ : S82) [.string O, .int .i64 U, .int .i64 X, .slice a3 y.length a5, .slice a6 D.length a7] (fun _ => True) (fun k_ => some k_ = (.slice a3 y.length a5 : Value).ownBlock ∨ some k_ = (.slice a6 D.length a7 : Value).ownBlock) rfl rfl ?aP (fun k_ hk_ => hk_.elim (fun h_ => ((Kd.R_mono (ok' := fun k_ => ((fun _ => True)) k_ /\ some k_ ≠ (u3 : Value).ownBlock) (Kd.R_apart' (Z.out) (Kd.S_typed HO_3.out) (Z68)) (fun k_ hk => ⟨trivial, hk.2⟩))).1 k_ h_.symm) (fun h_ => ((Kd.R_mono (ok' := fun k_ => ((fun _ => True)) k_ /\ some k_ ≠ (u3 : Value).ownBlock) (Kd.R_apart' (aA.out) (Kd.S_typed HO_3.out) (Z68)) (fun k_ hk => ⟨trivial, hk.2⟩))).1 k_ h_.symm)) ?aF ?aO ?aB ?aS ?aL ?_; (case aP => exact k82_mkM _ _ _ (⟨O, U, X, y, D⟩ : S82) (Kd.R_mono (Kd.R_tight rfl (Kd.R_mono (ok' := fun k_ => ((fun _ => True)) k_ /\ some k_ ≠ (u3 : Value).ownBlock) (Kd.R_apart' (Z.out) (Kd.S_typed HO_3.out) (Z68)) (fun k_ hk => ⟨trivial, hk.2⟩))) (fun _ h_ => Or.inl h_)) (Kd.R_mono (Kd.R_tight rfl (Kd.R_mono (ok' := fun k_ => ((fun _ => True)) k_ /\ some k_ ≠ (u3 : Value).ownBlock) (Kd.R_apart' (aA.out) (Kd.S_typed HO_3.out) (Z68)) (fun k_ hk => ⟨trivial, hk.2⟩))) (fun _ h_ => Or.inr (h_)))); (case aB => exact (Z0)); (case aF => exact (fun _ _ => trivial)); (case aO => exact (by (with_reducible repeat (first | apply Kd.S_alloc | apply Kd.S_drewN | apply Kd.S_drew)); exact Kd.S_mono HO_3.out (fun k_ hk => ⟨trivial, fun e_ => e_.elim (fun h_ => hk.1.2 h_) (fun h_ => hk.2 h_)⟩))); (case aS => exact (ct (Z0))); (case aL => have := bD.out; omega); intro bY w9 ho hb hg hat; rw [← bE.out] at ho; have n0_ := aM (hb); have n1_ := aM (ho); clear HB; clear HO_3; clear Z; clear aA; have HB := n0_; have bQ := n1_; clear n0_ n1_; clear ho hb hg hat))
    go_roundg k1
    case measure => have := HK1.out; omega
    case rel => exact ⟨(aQ), (wrap64 (s + 1)), (Z3), H', ⟨Z85⟩, ⟨by (with_reducible repeat (first | apply Kd.S_alloc | apply Kd.S_drewN | apply Kd.S_drew)); exact bQ.out⟩, ⟨Z0⟩⟩
   rw [if_neg c4] at H
   have bB := ba c4
   clear c4
   obtain rfl := oI H
   go_wp2
   go_ret
   exact ⟨_, Z1, Z94, Z0⟩
def da.f (a0 : Int) (a1 : Int) (s : Int) : Option (Bool) := if a0 ≥ a1 then (some (decide (a0 <= s))) else (some false)
theorem da.calls (a0 : Int) (a1 : Int) (s : Int) (r : Bool) (w : World) (h : da.f a0 a1 s = some r) :
  Calls prog 54 #[.int .i64 a0, .int .i64 a1, .int .i64 s] w fun e w' => e = .returned (.bool r) /\ ew w w' := by
 have H := h
 clear h
 unfold da.f at H
 by_cases c4 : a0 ≥ a1
 ·rw [if_pos c4] at H
  have y : decide (a1 <= a0) = true := az c4
  clear c4
  obtain rfl := oI H
  go_enter func54, ntmps54
  go_wp2
  go_ret
  exact ⟨Z3, Z12⟩
 rw [if_neg c4] at H
 have y : decide (a1 <= a0) = false := ba c4
 clear c4
 obtain rfl := oI H
 go_enter func54, ntmps54
 go_wp2
 go_ret
 exact ⟨Z3, Z12⟩
def gw.f (a0 : Int) : Option (Bool) := if a0 ≥ 48 then (some (decide (a0 <= 57))) else (some false)
theorem gw.calls (a0 : Int) (r : Bool) (w : World) (h : gw.f a0 = some r) :
  Calls prog 95 #[.int .u8 a0] w fun e w' => e = .returned (.bool r) /\ ew w w' := by
 have H := h
 clear h
 unfold gw.f at H
 by_cases c2 : a0 ≥ 48
 ·rw [if_pos c2] at H
  have s : decide (48 <= a0) = true := az c2
  clear c2
  obtain rfl := oI H
  go_enter func95, ntmps95
  go_wp2
  go_ret
  exact ⟨Z3, Z12⟩
 rw [if_neg c2] at H
 have s : decide (48 <= a0) = false := ba c2
 clear c2
 obtain rfl := oI H
 go_enter func95, ntmps95
 go_wp2
 go_ret
 exact ⟨Z3, Z12⟩
def gn.f (a0 : Int) : Option (Bool) := if a0 ≥ 97 then (if a0 <= 122 then (some true) else (if a0 ≥ 65 then (some (decide (a0 <= 90))) else (some false))) else (if a0 ≥ 65 then (some (decide (a0 <= 90))) else (some false))
theorem gn.calls (a0 : Int) (r : Bool) (w : World) (h : gn.f a0 = some r) :
  Calls prog 96 #[.int .u8 a0] w fun e w' => e = .returned (.bool r) /\ ew w w' := by
 have H := h
 clear h
 unfold gn.f at H
 by_cases c2 : a0 ≥ 97
 ·rw [if_pos c2] at H
  have s : decide (97 <= a0) = true := az c2
  clear c2
  by_cases c3 : a0 <= 122
  ·rw [if_pos c3] at H
   have y := az c3
   clear c3
   obtain rfl := oI H
   go_enter func96, ntmps96
   go_wp2
   go_ret
   exact ⟨Z3, Z12⟩
  rw [if_neg c3] at H
  have y := ba c3
  clear c3
  by_cases c4 : a0 ≥ 65
  ·rw [if_pos c4] at H
   have D : decide (65 <= a0) = true := az c4
   clear c4
   obtain rfl := oI H
   go_enter func96, ntmps96
   go_wp2
   go_ret
   exact ⟨Z3, Z12⟩
  rw [if_neg c4] at H
  have D : decide (65 <= a0) = false := ba c4
  clear c4
  obtain rfl := oI H
  go_enter func96, ntmps96
  go_wp2
  go_ret
  exact ⟨Z3, Z12⟩
 rw [if_neg c2] at H
 have s : decide (97 <= a0) = false := ba c2
 clear c2
 by_cases c5 : a0 ≥ 65
 ·rw [if_pos c5] at H
  have I : decide (65 <= a0) = true := az c5
  clear c5
  obtain rfl := oI H
  go_enter func96, ntmps96
  go_wp2
  go_ret
  exact ⟨Z3, Z12⟩
 rw [if_neg c5] at H
 have I : decide (65 <= a0) = false := ba c5
 clear c5
 obtain rfl := oI H
 go_enter func96, ntmps96
 go_wp2
 go_ret
 exact ⟨Z3, Z12⟩
mutual
def cw.j0 : Nat -> ByteArray -> Bool -> Option (Bool)
 | 0, _, _ => none
 | k + 1, x0, x12 => if x12 = true then (some false) else (cw.l0 k x0 (x0.size : Int) 0)
def cw.l0 : Nat -> ByteArray -> Int -> Int -> Option (Bool)
 | 0, _, _, _ => none
 | k + 1, x0, x14, x15 => if x15 < x14 then (if 0 <= x15 then (if x15 < (x0.size : Int) then ((gn.f (bt x0 x15)).bind fun s => (if s = true then (cw.l0 k x0 x14 (wrap64 (x15 + 1))) else ((gw.f (bt x0 x15)).bind fun y => (if y = true then (cw.l0 k x0 x14 (wrap64 (x15 + 1))) else (if (bt x0 x15) = 95 then (cw.l0 k x0 x14 (wrap64 (x15 + 1))) else (some false)))))) else (none)) else (none)) else (some true)
end
def cw.f (k : Nat) (a0 : ByteArray) : Option (Bool) := (da.f (a0.size : Int) 1 40).bind fun s => (if s = true then (if 0 < (a0.size : Int) then ((gw.f (bt a0 0)).bind fun y => (cw.j0 k a0 y)) else (none)) else (cw.j0 k a0 true))
theorem cw.calls (k : Nat) (a0 : ByteArray) (r : Bool) (w : World) (h : cw.f k a0 = some r) :
  Calls prog 50 #[.string a0] w fun e w' => e = .returned (.bool r) /\ ew w w' := by
 have H := h
 clear h
 unfold cw.f at H
 have aA := aM H
 clear H
 go_enter func50, ntmps50
 go_upto_region 1 with (fail)
 go_cut [12] (fun aL wc => ∃ (kq : Nat) (U : Bool), aL = .bool U /\ ap (cw.j0 kq a0 U = some r) /\ ap (kq <= k) /\ ew w wc)
 case first =>
  have H := aA.out
  clear aA
  obtain ⟨aN, A3, H⟩ := cz H
  try dsimp only at H
  by_cases c4 : aN = true
  ·subst c4
   replace H := ifT H
   obtain ⟨c5, H⟩ := ifS H
   have aF := az c5
   have aO : decide (0 < a0.size) = true := az (Z31)
   clear c5
   (first | rw [aF] | rw [aO] | (simp only [i64_w, i32_w]; rw [aF]) | skip)
   obtain ⟨aG, A7, H⟩ := cz H
   try dsimp only at H
   have H' := aM H
   clear H
   go_wp2_with (first | ((with_reducible refine gC 54 ?_); refine gL 6 func54 #[.int .i64 (a0.size : Int), .int .i64 1, .int .i64 40] ?_; (with_reducible refine (da.calls (a0.size : Int) 1 40 true _ A3.out).mono ?_); rintro e w' ⟨rfl, ⟨nd, rfl⟩⟩; refine ⟨_, rfl, ?_⟩; have p6 : 0 <= (0 : Int) := (Z31); have q6 : 0 < a0.size := (by have : (0 : Int) < (a0.size : Int) := dT (Z4); omega); have aX : ∀ h : 0 < a0.size, ((a0[0]'h).toNat : Int) = bt a0 0 := bt_at a0 0; clear p6; have aY : (0 < (a0.size : Int)) = True := bh (dT (Z4)); replace q6 := bh q6) | (go_at_call 95; (with_reducible refine (gw.calls (bt a0 0) aG _ A7.out).mono ?_); rintro e w' ⟨rfl, ⟨nd, rfl⟩⟩))
   go_meet
   case rel => exact ⟨_, (aG), (Z3), H', ⟨Z82⟩, Z12⟩
  replace c4 := be c4
  subst c4
  replace H := ifF H
  have H' := aM H
  clear H
  go_wp2_with (first | ((with_reducible refine gC 54 ?_); refine gL 6 func54 #[.int .i64 (a0.size : Int), .int .i64 1, .int .i64 40] ?_; (with_reducible refine (da.calls (a0.size : Int) 1 40 false _ A3.out).mono ?_); rintro e w' ⟨rfl, ⟨nd, rfl⟩⟩; refine ⟨_, rfl, ?_⟩))
  go_meet
  case rel => exact ⟨_, (true), (Z3), H', ⟨Z82⟩, Z12⟩
 case rest =>
  clear aA
  obtain ⟨kq, U, rfl, HA, HJ1, ⟨aZ, rfl⟩⟩ := hcut
  cases kq with
  | zero => exact absurd HA.out (by simp [cw.j0])
  | succ aI =>
   have H := HA.out
   clear HA
   simp only [cw.j0] at H
   by_cases c8 : U = true
   ·subst c8
    replace H := ifT H
    obtain rfl := oI H
    go_wp2
    go_ret
    exact ⟨Z3, Z12⟩
   replace c8 := be c8
   subst c8
   replace H := ifF H
   have H' := aM H
   clear H
   go_wp2
   go_loopg [15] aI (fun kq aQ w' => ∃ (s : Int), aQ = .int .i64 s /\ ap (cw.l0 kq a0 (a0.size : Int) s = some r) /\ ap (kq <= aI) /\ ew w w')
   case atStart => exact ⟨(0), (Z3), H', ⟨bj _⟩, Z12⟩
   case round =>
    clear H'
    (try clear c8)
    obtain ⟨s, rfl, HA, HK2, ⟨m2, rfl⟩⟩ := hrel
    cases gk with
    | zero => exact absurd HA.out (by simp [cw.l0])
    | succ k2 =>
     have H := HA.out
     clear HA
     simp only [cw.l0] at H
     by_cases c9 : s < (a0.size : Int)
     ·rw [if_pos c9] at H
      have aR := az c9
      clear c9
      obtain ⟨c10, H⟩ := ifS H
      have a2 := az c10
      clear c10
      obtain ⟨aJ, H⟩ := ifS H
      have a3 := az aJ
      clear aJ
      obtain ⟨aS, X, H⟩ := cz H
      try dsimp only at H
      by_cases Y : aS = true
      ·subst Y
       replace H := ifT H
       have H' := aM H
       clear H
       have p12 : 0 <= (s : Int) := dT (Z4)
       have y : s < (a0.size : Int) := dT (Z4)
       have aC := bt_at a0 s
       replace p12 := bh p12
       replace y := bh y
       go_wp2_with (first | ((with_reducible refine gC 96 ?_); refine gL 21 func96 #[.int .u8 (bt a0 s)] ?_; (with_reducible refine (gn.calls (bt a0 s) true _ X.out).mono ?_); rintro e w' ⟨rfl, ⟨nd, rfl⟩⟩; refine ⟨_, rfl, ?_⟩))
       go_roundg k2
       case measure => have := HJ1.out; have := HK2.out; omega
       case rel => exact ⟨(wrap64 (s + 1)), (Z3), H', ⟨Z172⟩, Z12⟩
      replace Y := be Y
      subst Y
      replace H := ifF H
      obtain ⟨aT, aD, H⟩ := cz H
      try dsimp only at H
      by_cases Z : aT = true
      ·subst Z
       replace H := ifT H
       have H' := aM H
       clear H
       have p12 : 0 <= (s : Int) := dT (Z4)
       have y : s < (a0.size : Int) := dT (Z4)
       have aC := bt_at a0 s
       replace p12 := bh p12
       replace y := bh y
       go_wp2_with (first | ((with_reducible refine gC 96 ?_); refine gL 21 func96 #[.int .u8 (bt a0 s)] ?_; (with_reducible refine (gn.calls (bt a0 s) false _ X.out).mono ?_); rintro e w' ⟨rfl, ⟨nd, rfl⟩⟩; refine ⟨_, rfl, ?_⟩; have D : 0 <= (s : Int) := dT (Z4); have I : s < (a0.size : Int) := dT (Z4); have aK := bt_at a0 s; replace D := bh D; replace I := bh I) | (go_at_call 95; (with_reducible refine (gw.calls (bt a0 s) true _ aD.out).mono ?_); rintro e w' ⟨rfl, ⟨nd, rfl⟩⟩))
       go_roundg k2
       case measure => have := HJ1.out; have := HK2.out; omega
       case rel => exact ⟨(wrap64 (s + 1)), (Z3), H', ⟨Z172⟩, Z12⟩
      replace Z := be Z
      subst Z
      replace H := ifF H
      by_cases J : (bt a0 s) = 95
      ·rw [if_pos J] at H
       have aU := bf J
       have aV := bc J
       clear J
       have H' := aM H
       clear H
       have p12 : 0 <= (s : Int) := dT (Z4)
       have y : s < (a0.size : Int) := dT (Z4)
       have aC := bt_at a0 s
       replace p12 := bh p12
       replace y := bh y
       go_wp2_with (first | ((with_reducible refine gC 96 ?_); refine gL 21 func96 #[.int .u8 (bt a0 s)] ?_; (with_reducible refine (gn.calls (bt a0 s) false _ X.out).mono ?_); rintro e w' ⟨rfl, ⟨nd, rfl⟩⟩; refine ⟨_, rfl, ?_⟩; have D : 0 <= (s : Int) := dT (Z4); have I : s < (a0.size : Int) := dT (Z4); have aK := bt_at a0 s; replace D := bh D; replace I := bh I) | (go_at_call 95; (with_reducible refine (gw.calls (bt a0 s) false _ aD.out).mono ?_); rintro e w' ⟨rfl, ⟨nd, rfl⟩⟩; have M : 0 <= (s : Int) := dT (Z4); have O : s < (a0.size : Int) := dT (Z4); have aW := bt_at a0 s; replace M := bh M; replace O := bh O))
       go_roundg k2
       case measure => have := HJ1.out; have := HK2.out; omega
       case rel => exact ⟨(wrap64 (s + 1)), (Z3), H', ⟨Z172⟩, Z12⟩
      rw [if_neg J] at H
      have aU := bb J
      have aV := bg J
      obtain rfl := oI H
      have p12 : 0 <= (s : Int) := dT (Z4)
      have y : s < (a0.size : Int) := dT (Z4)
      have aC := bt_at a0 s
      replace p12 := bh p12
      replace y := bh y
      go_wp2_with (first | ((with_reducible refine gC 96 ?_); refine gL 21 func96 #[.int .u8 (bt a0 s)] ?_; (with_reducible refine (gn.calls (bt a0 s) false _ X.out).mono ?_); rintro e w' ⟨rfl, ⟨nd, rfl⟩⟩; refine ⟨_, rfl, ?_⟩; have D : 0 <= (s : Int) := dT (Z4); have I : s < (a0.size : Int) := dT (Z4); have aK := bt_at a0 s; replace D := bh D; replace I := bh I) | (go_at_call 95; (with_reducible refine (gw.calls (bt a0 s) false _ aD.out).mono ?_); rintro e w' ⟨rfl, ⟨nd, rfl⟩⟩; have M : 0 <= (s : Int) := dT (Z4); have O : s < (a0.size : Int) := dT (Z4); have aW := bt_at a0 s; replace M := bh M; replace O := bh O))
      go_ret
      exact ⟨Z3, Z12⟩
     rw [if_neg c9] at H
     have aR := ba c9
     clear c9
     obtain rfl := oI H
     go_wp2
     go_ret
     exact ⟨Z3, Z12⟩
def impl_keyOK.f (a0 : ByteArray) : Option (Bool) := (da.f (a0.size : Int) 1 200).bind fun s => (some s)
theorem impl_keyOK.calls (a0 : ByteArray) (r : Bool) (w : World) (h : impl_keyOK.f a0 = some r) :
  Calls prog 98 #[.string a0] w fun e w' => e = .returned (.bool r) /\ ew w w' := by
 have H := h
 clear h
 unfold impl_keyOK.f at H
 obtain ⟨s, y, H⟩ := cz H
 try dsimp only at H
 obtain rfl := oI H
 go_enter func98, ntmps98
 go_wp2_with (first | ((with_reducible refine gC 54 ?_); refine gL 5 func54 #[.int .i64 (a0.size : Int), .int .i64 1, .int .i64 200] ?_; (with_reducible refine (da.calls (a0.size : Int) 1 200 s _ y.out).mono ?_); rintro e w' ⟨rfl, ⟨nd, rfl⟩⟩; refine ⟨_, rfl, ?_⟩))
 go_ret
 exact ⟨Z3, Z12⟩
def impl_itemOK.f (s : ByteArray) (y : ByteArray) : Option (Bool) := (impl_keyOK.f s).bind fun D => (if D = true then (some (decide ((y.size : Int) <= 4000))) else (some false))
theorem impl_itemOK.calls (s : ByteArray) (y : ByteArray) (r : Bool) (w : World) (h : impl_itemOK.f s y = some r) :
  Calls prog 53 #[.agg #[.string s, .string y]] w fun e w' => e = .returned (.bool r) /\ Below w.heap.size w w' := by
 have U := underlying84
 have HB := aM (bi w.heap.size w)
 have H := h
 clear h
 unfold impl_itemOK.f at H
 obtain ⟨J, I, H⟩ := cz H
 try dsimp only at H
 by_cases c3 : J = true
 ·subst c3
  replace H := ifT H
  obtain rfl := oI H
  go_enter func53, ntmps53
  go_wp2_with (first | ((with_reducible refine gD 1 ?_); (try (refine dl (Z96) ?_; dsimp only)); refine bxF w 1 #[.string s, .string y] 84 (Z0) ?_; intro M hg w4 D O GE196 HB hb; clear hb hg; refine bD2 D ?_; intros) | ((with_reducible refine gC 98 ?_); refine gL 5 func98 #[.string s] ?_; (with_reducible refine (impl_keyOK.calls s true _ I.out).mono ?_); rintro e w' ⟨rfl, ⟨nd, rfl⟩⟩; refine ⟨_, rfl, ?_⟩))
  go_ret
  exact ⟨Z1, Z188⟩
 replace c3 := be c3
 subst c3
 replace H := ifF H
 obtain rfl := oI H
 go_enter func53, ntmps53
 go_wp2_with (first | ((with_reducible refine gD 1 ?_); (try (refine dl (Z96) ?_; dsimp only)); refine bxF w 1 #[.string s, .string y] 84 (Z0) ?_; intro M hg w6 D O GE196 HB hb; clear hb hg; refine bD2 D ?_; intros) | ((with_reducible refine gC 98 ?_); refine gL 5 func98 #[.string s] ?_; (with_reducible refine (impl_keyOK.calls s false _ I.out).mono ?_); rintro e w' ⟨rfl, ⟨nd, rfl⟩⟩; refine ⟨_, rfl, ?_⟩))
 go_ret
 exact ⟨Z1, Z188⟩
def inC (n low high : Int) : Bool := decide (low <= n) && decide (n <= high)
theorem within_c (a b c : Int) : da.f a b c = some (inC a b c) := by
 unfold da.f inC
 by_cases h : a ≥ b
 ·rw [if_pos h, az (by omega : b <= a)]; rfl
 rw [if_neg h, ba (by omega : ¬ b <= a)]; rfl
def itemB (x : S84) : Bool := inC (x.f0.size : Int) 1 200 && decide ((x.f1.size : Int) <= 4000)
theorem itemOK_f (x : S84) : impl_itemOK.f x.f0 x.f1 = some (itemB x) := by
 unfold impl_itemOK.f impl_keyOK.f itemB
 rw [within_c, Option.bind_some, Option.bind_some]
 cases inC (x.f0.size : Int) 1 200 with
 | true => rfl
 | false => rfl
def idxX : List S84 -> Int -> Int
 | [], _ => -1
 | m :: r, i => if itemB m = false then i else idxX r (i + 1)
theorem rdItem (l : List S84) (k : Nat) (h : k < l.length) : ay l (k : Int) = l[k] := by unfold ay; simp [List.getD, List.getElem?_eq_getElem h]
theorem idxX_drop (l : List S84) (k : Nat) (h : k < l.length) : idxX (l.drop k) k = if itemB (ay l (k : Int)) = false then (k : Int) else idxX (l.drop (k + 1)) ((k + 1 : Nat) : Int) := by
 rw [List.drop_eq_getElem_cons h, idxX, rdItem l k h]; rfl
theorem idxX_all : ∀ (l : List S84) (i : Int), 0 <= i -> (decide (0 <= idxX l i)) = !l.all itemB
 | [], i, _ => rfl
 | m :: r, i, h => by
  unfold idxX
  cases hm : itemB m with
  | false => rw [if_pos rfl, az h]; simp [hm]
  | true => rw [if_neg (fg), idxX_all r (i + 1) (Z31)]; simp [hm]
theorem itemBad (x : S84) (w : World) :
  Calls prog 52 #[.agg #[.string x.f0, .string x.f1]] w fun e w' => e = .returned (.bool (!itemB x)) /\ Below w.heap.size w w' := by
 go_enter func52, ntmps52
 go_wp2_with (go_at_call 53; refine (impl_itemOK.calls x.f0 x.f1 (itemB x) _ (itemOK_f x)).mono ?_; rintro e w1 ⟨rfl, s⟩)
 go_ret
 exact ⟨by first | rfl | (simp; done) | (simp [*]; done), Below.trans (Below.alloc (bi _ _) (bj _) _) (s.mono (fg))⟩
theorem itemsIndex (A : Option Addr) (c : Nat) (l : List S84) (w : World) (hC : Kd.C k84 w A l.length l) (hl : l.length <= 1099511627776) :
  Calls prog 97 #[.slice A l.length c, .func (.func 52) #[] #[]] w fun e w' => e = .returned (.int .i64 (idxX l 0)) /\ Below w.heap.size w w' := by
 have eg := enters_of func52 (Z16) rfl
 have HC := aM hC
 clear hC
 go_enter func97, ntmps97
 go_wp2
 go_loopg [5, 8] l.length (fun gg _ y wr => ∃ kk : Nat, kk <= l.length /\ l.length - kk <= gg /\ y = .int .i64 kk /\ ap (Below w.heap.size w wr) /\ ap (idxX l 0 = idxX (l.drop kk) kk))
 case atStart => exact ⟨0, Nat.zero_le _, Z31, rfl, ⟨bi _ w⟩, ⟨rfl⟩⟩
 case round =>
  obtain ⟨kk, hkk, hg, rfl, BW, AI⟩ := hrel
  by_cases hlt : kk < l.length
  ·have hltz : (kk : Int) < (l.length : Int) := by omega
   have D : 0 <= (kk : Int) := by omega
   obtain ⟨ad, e, s, hx1⟩ := at_T84 HC.out kk D hltz
   cases e
   simp only [Int.toNat_natCast] at s hx1
   replace s := (BW.out.cell (World.block_lt_of_cell? w _ s)).trans s
   replace hx1 := (BW.out.cell (World.block_lt_of_cell? w _ hx1)).trans hx1
   have hstep := idxX_drop l kk hlt
   have hcall := itemBad (ay l (kk : Int)) wr
   cases hq : itemB (ay l (kk : Int)) with
   | false =>
    rw [hq] at hstep hcall
    rw [if_pos rfl] at hstep
    have HS := aM hstep
    clear hstep hq
    go_wp2_with (go_at_call 52; refine hcall.mono ?_; rintro e w' ⟨rfl, hb'⟩)
    go_ret
    exact ⟨by rw [AI.out, HS.out]; rfl, Below.trans BW.out (hb'.mono BW.out.size)⟩
   | true =>
    rw [hq] at hstep hcall
    rw [if_neg (fg)] at hstep
    have HS := aM hstep
    clear hstep hq
    go_wp2_with (go_at_call 52; refine hcall.mono ?_; rintro e w' ⟨rfl, hb'⟩)
    go_roundg (l.length - (kk + 1))
    case measure => omega
    case rel => exact ⟨kk + 1, Z31, Z31, by go_num, ⟨Below.trans BW.out (hb'.mono BW.out.size)⟩, ⟨AI.out.trans HS.out⟩⟩
  have hltz : ¬ (kk : Int) < (l.length : Int) := by omega
  obtain rfl : kk = l.length := by omega
  go_wp2
  go_ret
  exact ⟨Z197, BW.out⟩
theorem itemsBad (A : Option Addr) (c : Nat) (l : List S84) (b : Bool) (hb : (l.all itemB) = !b) (w : World) (hC : Kd.C k84 w A l.length l) (hl : l.length <= 1099511627776) :
  Calls prog 51 #[.slice A l.length c, .func (.func 52) #[] #[]] w fun e w' => e = .returned (.bool b) /\ Below w.heap.size w w' := by
 have hx := idxX_all l 0 (Z31)
 rw [hb, Bool.not_not] at hx
 go_enter func51, ntmps51
 go_wp2_with (go_at_call 97; refine (itemsIndex A c l _ hC hl).mono ?_; rintro e w1 ⟨rfl, s⟩)
 go_ret
 exact ⟨by first | rfl | (simp [← hx]; done) | (simp [*]; done), s⟩
def bareB (u m f : Int) : Bool := decide (u = 0) && decide (m = 0) && decide (f = 0)
def kindB (k u m f : Int) (n : Nat) : Bool :=
 if k = 1 ∨ k = 4 then bareB u m f && decide (n = 0) else if k = 2 then bareB u m f && decide (0 < n) else if k = 3 then decide (n = 0) && inC u 1 1000 && inC m 1 3 && inC f 0 31 else false
def gj.f (k : Nat) (y D I J : Int) (M : ByteArray) (s : List S84) : Option Bool :=
 if s.length <= 1099511627776 then (cw.f k M).bind fun nb => some (nb && decide (s.length <= 20) && s.all itemB && kindB y D I J s.length) else none
theorem gj.calls (k : Nat) (D I M O : Int) (Y : ByteArray) (aA : Option Addr) (aB : Nat) (s : List S84) (r : Bool) (w : World) (aO : Kd.C k84 w aA s.length s) (aV : s.length <= aB) (h : gj.f k D I M O Y s = some r) :
  Calls prog 25 #[.agg #[.int .i64 D, .int .i64 I, .int .i64 M, .int .i64 O, .string Y, .slice aA s.length aB]] w fun e w' => e = .returned (.bool r) /\ Below w.heap.size w w' := by
 unfold gj.f at h
 by_cases hl : s.length <= 1099511627776
 case neg => rw [if_neg hl] at h; cases h
 rw [if_pos hl] at h
 obtain ⟨nb, hN, h⟩ := Option.bind_eq_some_iff.mp h
 simp only [Option.some.injEq] at h
 subst h
 have HN := aM hN
 have HC := aM (Kd.C_drewN (Kd.C_alloc aO (.cells #[.int .i64 D, .int .i64 I, .int .i64 M, .int .i64 O, .string Y, .slice aA s.length aB] 41)))
 have HL := aM hl
 clear aO hN hl
 cases nb with
 | false =>
  go_enter func25, ntmps25
  go_wp2_with (go_at_call 50; refine (cw.calls k Y false _ HN.out).mono ?_; rintro e w1 ⟨rfl, ⟨nd, rfl⟩⟩)
  go_ret
  exact ⟨fg, Z6⟩
 | true =>
  by_cases aG : s.length <= 20
  case neg =>
   have aQ : decide (20 < (s.length : Int)) = true := az (Z31)
   have HX := aM aG
   clear aG
   go_enter func25, ntmps25
   go_wp2_with (go_at_call 50; refine (cw.calls k Y true _ HN.out).mono ?_; rintro e w1 ⟨rfl, ⟨nd, rfl⟩⟩)
   go_ret
   exact ⟨by rw [ba HX.out]; simp, Z6⟩
  have aQ : decide (20 < (s.length : Int)) = false := ba (Z31)
  have HX := aM aG
  clear aG
  cases hall : s.all itemB with
  | false =>
   have HA := aM hall
   clear hall
   go_enter func25, ntmps25
   go_wp2_with (first | (go_at_call 50; refine (cw.calls k Y true _ HN.out).mono ?_; rintro e w1 ⟨rfl, ⟨nd, rfl⟩⟩) | (go_at_call 51; refine (itemsBad aA aB s true HA.out _ (HC.out _) HL.out).mono ?_; rintro e w2 ⟨rfl, U⟩))
   go_ret
   exact ⟨fg, Below.trans (Z6) (U.mono (fg))⟩
  | true =>
   have HA := aM hall
   clear hall
   rw [az HX.out]
   simp only [Bool.true_and]
   have hb : ∀ x y : Int, (x == y) = decide (x = y) := fun _ _ => rfl
   obtain ⟨B, hB⟩ : ∃ B : Bool, bareB I M O = B := ⟨_, rfl⟩
   have hs : (B = false /\ (I == 0) = false) ∨ (B = false /\ (I == 0) = true /\ (M == 0) = false) ∨ (B = false /\ (I == 0) = true /\ (M == 0) = true /\ (O == 0) = false) ∨ (B = true /\ (I == 0) = true /\ (M == 0) = true /\ (O == 0) = true) := by
    rw [hb, hb, hb, ← hB]; unfold bareB
    by_cases c1 : I = 0 <;> by_cases c2 : M = 0 <;> by_cases c3 : O = 0 <;> simp [c1, c2, c3]
   have aD : ((s.length : Int) == 0) = decide (s.length = 0) := by rw [hb]; exact decide_eq_decide.mpr (Z31)
   have aE : decide (0 < (s.length : Int)) = decide (0 < s.length) := decide_eq_decide.mpr (Z31)
   by_cases Z : D = 1 ∨ D = 4
   ·have e : kindB D I M O s.length = (B && ((s.length : Int) == 0)) := by unfold kindB; rw [if_pos Z, hB, aD]
    rw [e]
    clear e hB aD aE hb
    rcases Z with rfl | rfl <;> rcases hs with ⟨rfl, J⟩ | ⟨rfl, J, X⟩ | ⟨rfl, J, X, b3⟩ | ⟨rfl, J, X, b3⟩
    all_goals
     go_enter func25, ntmps25
     go_wp2_with (first | (go_at_call 50; refine (cw.calls k Y true _ HN.out).mono ?_; rintro e w1 ⟨rfl, ⟨nd, rfl⟩⟩) | (go_at_call 51; refine (itemsBad aA aB s false HA.out _ (HC.out _) HL.out).mono ?_; rintro e w2 ⟨rfl, U⟩; have HB2 : Below w.heap.size w w2 := Below.trans (Z6) (U.mono (fg)); obtain ⟨aH, aI, aJ⟩ := bcall U))
     go_ret
     exact ⟨Z202, Z198⟩
   by_cases k2 : D = 2
   ·have e : kindB D I M O s.length = (B && decide (0 < (s.length : Int))) := by unfold kindB; rw [if_neg Z, if_pos k2, hB, aE]
    rw [e]
    clear e hB aD aE hb Z
    subst k2
    rcases hs with ⟨rfl, J⟩ | ⟨rfl, J, X⟩ | ⟨rfl, J, X, b3⟩ | ⟨rfl, J, X, b3⟩
    all_goals
     go_enter func25, ntmps25
     go_wp2_with (first | (go_at_call 50; refine (cw.calls k Y true _ HN.out).mono ?_; rintro e w1 ⟨rfl, ⟨nd, rfl⟩⟩) | (go_at_call 51; refine (itemsBad aA aB s false HA.out _ (HC.out _) HL.out).mono ?_; rintro e w2 ⟨rfl, U⟩; have HB2 : Below w.heap.size w w2 := Below.trans (Z6) (U.mono (fg)); obtain ⟨aH, aI, aJ⟩ := bcall U))
     go_ret
     exact ⟨Z202, Z198⟩
   by_cases k3 : D = 3
   ·obtain ⟨C1, aK⟩ : ∃ C, inC I 1 1000 = C := ⟨_, rfl⟩
    obtain ⟨C2, aL⟩ : ∃ C, inC M 1 3 = C := ⟨_, rfl⟩
    obtain ⟨C3, aN⟩ : ∃ C, inC O 0 31 = C := ⟨_, rfl⟩
    have e : kindB D I M O s.length = (((s.length : Int) == 0) && C1 && C2 && C3) := by unfold kindB; rw [if_neg Z, if_neg k2, if_pos k3, aD, aK, aL, aN]
    rw [e]
    have aS := aM (aK ▸ within_c I 1 1000)
    have aT := aM (aL ▸ within_c M 1 3)
    have aU := aM (aN ▸ within_c O 0 31)
    clear e hB aD aE hb Z k2 aK aL aN
    subst k3
    cases aW : ((s.length : Int) == 0) <;> cases C1 <;> cases C2
    all_goals rcases hs with ⟨rfl, J⟩ | ⟨rfl, J, X⟩ | ⟨rfl, J, X, b3⟩ | ⟨rfl, J, X, b3⟩
    all_goals
     go_enter func25, ntmps25
     go_wp2_with (first | (go_at_call 50; refine (cw.calls k Y true _ HN.out).mono ?_; rintro e w1 ⟨rfl, ⟨nd, rfl⟩⟩) | (go_at_call 51; refine (itemsBad aA aB s false HA.out _ (HC.out _) HL.out).mono ?_; rintro e w2 ⟨rfl, U⟩; have HB2 : Below w.heap.size w w2 := Below.trans (Z6) (U.mono (fg)); obtain ⟨aH, aI, aJ⟩ := bcall U) | (go_at_call 54; refine (da.calls _ _ _ _ _ (by first | exact aS.out | exact aT.out | exact aU.out)).mono ?_; rintro e w3 ⟨rfl, ⟨aX, rfl⟩⟩))
     go_ret
     exact ⟨Z202, Z198⟩
   have e : kindB D I M O s.length = false := by unfold kindB; rw [if_neg Z, if_neg k2, if_neg k3]
   rw [e]
   have t1 : (D == 1) = false := bb (fun h => Z (.inl h))
   have t4 : (D == 4) = false := bb (fun h => Z (.inr h))
   have t2 : (D == 2) = false := bb k2
   have t3 : (D == 3) = false := bb k3
   clear e hB aD aE hb Z k2 k3
   rcases hs with ⟨rfl, J⟩ | ⟨rfl, J, X⟩ | ⟨rfl, J, X, b3⟩ | ⟨rfl, J, X, b3⟩
   all_goals
    go_enter func25, ntmps25
    go_wp2_with (first | (go_at_call 50; refine (cw.calls k Y true _ HN.out).mono ?_; rintro e w1 ⟨rfl, ⟨nd, rfl⟩⟩) | (go_at_call 51; refine (itemsBad aA aB s false HA.out _ (HC.out _) HL.out).mono ?_; rintro e w2 ⟨rfl, U⟩; have HB2 : Below w.heap.size w w2 := Below.trans (Z6) (U.mono (fg)); obtain ⟨aH, aI, aJ⟩ := bcall U))
    go_ret
    exact ⟨Z202, Z198⟩
def idxN (u : ByteArray) : List S82 -> Int -> Int
 | [], _ => -1
 | m :: r, i => if m.f0.toList = u.toList then i else idxN u r (i + 1)
theorem rdBox (l : List S82) (k : Nat) (h : k < l.length) : ax l (k : Int) = l[k] := by unfold ax; simp [List.getD, List.getElem?_eq_getElem h]
theorem idxN_drop (u : ByteArray) (l : List S82) (k : Nat) (h : k < l.length) : idxN u (l.drop k) k = if (ax l (k : Int)).f0.toList = u.toList then (k : Int) else idxN u (l.drop (k + 1)) ((k + 1 : Nat) : Int) := by
 rw [List.drop_eq_getElem_cons h, idxN, rdBox l k h]; rfl
theorem boxIs (n : ByteArray) (x y : Int) (s D : Value) (B : Nat) (u : ByteArray) (w : World) (hB : B < w.heap.size) (hc : w.cell? ⟨B, 0, none⟩ = some (.string u)) :
  Calls prog 117 #[.agg #[.string n, .int .i64 x, .int .i64 y, s, D], .pointer (some ⟨B, 0, none⟩)] w fun e w' => e = .returned (.bool (n.toList == u.toList)) /\ Below w.heap.size w w' := by
 have I : ∀ o, (w.alloc o).cell? ⟨B, 0, none⟩ = some (.string u) := fun o => (World.cell?_alloc_past _ _ _ hB).trans hc
 go_enter func117, ntmps117
 go_wp2
 go_ret
 exact ⟨by first | rfl | (simp; done) | (simp [*]; done), Z6⟩
theorem boxsIndex (A : Option Addr) (c : Nat) (l : List S82) (u : ByteArray) (B : Nat) (w : World) (hC : Kd.C k82 w A l.length l) (hB : B < w.heap.size) (hc : w.cell? ⟨B, 0, none⟩ = some (.string u)) (hl : l.length <= 1099511627776) :
  Calls prog 116 #[.slice A l.length c, .func (.func 117) #[] #[.pointer (some ⟨B, 0, none⟩)]] w fun e w' => e = .returned (.int .i64 (idxN u l 0)) /\ Below w.heap.size w w' := by
 have eg := enters_of func117 (Z16) rfl
 have HC := aM hC
 have HQ := aM hc
 clear hC hc
 go_enter func116, ntmps116
 go_wp2
 go_loopg [5, 8] l.length (fun gg _ J wr => ∃ kk : Nat, kk <= l.length /\ l.length - kk <= gg /\ J = .int .i64 kk /\ ap (Below w.heap.size w wr) /\ ap (idxN u l 0 = idxN u (l.drop kk) kk))
 case atStart => exact ⟨0, Nat.zero_le _, Z31, rfl, ⟨bi _ w⟩, ⟨rfl⟩⟩
 case round =>
  obtain ⟨kk, hkk, hg, rfl, BW, AI⟩ := hrel
  by_cases hlt : kk < l.length
  ·have hltz : (kk : Int) < (l.length : Int) := by omega
   have M : 0 <= (kk : Int) := by omega
   obtain ⟨ad, O, c3, U, c4, e, s, hx1, y, D, I, -⟩ := em HC.out kk M hltz
   cases e
   simp only [Int.toNat_natCast] at s hx1 y D I
   replace s := (BW.out.cell (World.block_lt_of_cell? w _ s)).trans s
   replace hx1 := (BW.out.cell (World.block_lt_of_cell? w _ hx1)).trans hx1
   replace y := (BW.out.cell (World.block_lt_of_cell? w _ y)).trans y
   replace D := (BW.out.cell (World.block_lt_of_cell? w _ D)).trans D
   replace I := (BW.out.cell (World.block_lt_of_cell? w _ I)).trans I
   have hstep := idxN_drop u l kk hlt
   have hcall := boxIs (ax l (kk : Int)).f0 (ax l (kk : Int)).f1 (ax l (kk : Int)).f2 (.slice O (ax l (kk : Int)).f3.length c3) (.slice U (ax l (kk : Int)).f4.length c4) B u wr (Nat.lt_of_lt_of_le hB BW.out.size) ((BW.out.cell (p := ⟨B, 0, none⟩) hB).trans HQ.out)
   by_cases hq : (ax l (kk : Int)).f0.toList = u.toList
   ·rw [if_pos hq] at hstep
    rw [show ((ax l (kk : Int)).f0.toList == u.toList) = true from bf hq] at hcall
    have HS := aM hstep
    clear hstep hq
    go_wp2_with (go_at_call 117; refine hcall.mono ?_; rintro e w' ⟨rfl, hb'⟩)
    go_ret
    exact ⟨by rw [AI.out, HS.out]; rfl, Below.trans BW.out (hb'.mono BW.out.size)⟩
   rw [if_neg hq] at hstep
   rw [show ((ax l (kk : Int)).f0.toList == u.toList) = false from bb hq] at hcall
   have HS := aM hstep
   clear hstep hq
   go_wp2_with (go_at_call 117; refine hcall.mono ?_; rintro e w' ⟨rfl, hb'⟩)
   go_roundg (l.length - (kk + 1))
   case measure => omega
   case rel => exact ⟨kk + 1, Z31, Z31, by go_num, ⟨Below.trans BW.out (hb'.mono BW.out.size)⟩, ⟨AI.out.trans HS.out⟩⟩
  have hltz : ¬ (kk : Int) < (l.length : Int) := by omega
  obtain rfl : kk = l.length := by omega
  go_wp2
  go_ret
  exact ⟨Z197, BW.out⟩
def gp.f (l0 : List S82) (a1 : ByteArray) : Option Int := if l0.length <= 1099511627776 then some (idxN a1 l0 0) else none
theorem gp.calls (s : Option Addr) (c0 : Nat) (l0 : List S82) (a1 : ByteArray) (r : Int) (w : World) (hr0 : Kd.C k82 w s l0.length l0) (y : l0.length <= c0) (h : gp.f l0 a1 = some r) :
  Calls prog 86 #[.slice s l0.length c0, .string a1] w fun e w' => e = .returned (.int .i64 r) /\ Below w.heap.size w w' := by
 unfold gp.f at h
 by_cases hl : l0.length <= 1099511627776
 ·rw [if_pos hl] at h
  simp only [Option.some.injEq] at h
  subst h
  have HC := aM (Kd.C_alloc hr0 (.cells #[.string a1] 9))
  clear hr0
  go_enter func86, ntmps86
  go_wp2_with (go_at_call 116; refine (boxsIndex s c0 l0 a1 w.heap.size _ HC.out (fg) (by simp [go_sem]) hl).mono ?_; rintro e w' ⟨rfl, hb'⟩)
  go_ret
  exact ⟨rfl, Below.trans (Below.alloc (bi _ _) (bj _) _) (hb'.mono (fg))⟩
 rw [if_neg hl] at h; cases h
def cn.l0 : Nat -> List ByteArray -> ByteArray -> Int -> Int -> Option (Int)
 | 0, _, _, _, _ => none
 | k + 1, x0, x1, x7, x8 => if x8 < x7 then (if 0 <= x8 then (if x8 < (x0.length : Int) then (if x1.toList = (gb ByteArray.empty x0 x8).toList then (some x8) else (cn.l0 k x0 x1 x7 (wrap64 (x8 + 1)))) else (none)) else (none)) else (some (-1))
def cn.f (k : Nat) (l0 : List ByteArray) (a1 : ByteArray) : Option (Int) := cn.l0 k l0 a1 (l0.length : Int) 0
theorem cn.calls (k : Nat) (J : Option Addr) (c0 : Nat) (l0 : List ByteArray) (a1 : ByteArray) (r : Int) (w : World) (hr0 : Kd.C Kd.string w J l0.length l0) (M : l0.length <= c0) (h : cn.f k l0 a1 = some r) :
  Calls prog 133 #[.slice J l0.length c0, .string a1] w fun e w' => e = .returned (.int .i64 r) /\ ew w w' := by
 replace hr0 := aM hr0
 replace M := aM M
 have H := h
 clear h
 unfold cn.f at H
 have H' := aM H
 clear H
 go_enter func133, ntmps133
 go_wp2
 go_loopg [8] k (fun kq O w' => ∃ (s : Int), O = .int .i64 s /\ ap (cn.l0 kq l0 a1 (l0.length : Int) s = some r) /\ ap (kq <= k) /\ ew w w')
 case atStart => exact ⟨(0), (Z3), H', ⟨bj _⟩, Z12⟩
 case round =>
  clear H'
  obtain ⟨s, rfl, HA, HK1, ⟨m1, rfl⟩⟩ := hrel
  cases gk with
  | zero => exact absurd HA.out (by simp [cn.l0])
  | succ U =>
   have H := HA.out
   clear HA
   simp only [cn.l0] at H
   by_cases c3 : s < (l0.length : Int)
   ·rw [if_pos c3] at H
    have X := az c3
    clear c3
    obtain ⟨c4, H⟩ := ifS H
    have aC := az c4
    clear c4
    obtain ⟨c5, H⟩ := ifS H
    have aD := az c5
    clear c5
    by_cases c6 : a1.toList = (gb ByteArray.empty l0 s).toList
    ·rw [if_pos c6] at H
     have Y := bf c6
     have Z := bc c6
     clear c6
     obtain rfl := oI H
     have y : 0 <= (s : Int) := dT (Z4)
     have D : s < (l0.length : Int) := dT (Z4)
     obtain ⟨aA, I, aB⟩ := Kd.at_string hr0.out s y D
     cases I
     replace y := bh y
     replace D := bh D
     go_wp2
     go_ret
     exact ⟨Z3, Z12⟩
    rw [if_neg c6] at H
    have Y := bb c6
    have Z := bg c6
    have H' := aM H
    clear H
    have y : 0 <= (s : Int) := dT (Z4)
    have D : s < (l0.length : Int) := dT (Z4)
    obtain ⟨aA, I, aB⟩ := Kd.at_string hr0.out s y D
    cases I
    replace y := bh y
    replace D := bh D
    go_wp2
    go_roundg U
    case measure => have := HK1.out; omega
    case rel => exact ⟨(wrap64 (s + 1)), (Z3), H', ⟨Z85⟩, Z12⟩
   rw [if_neg c3] at H
   have X := ba c3
   clear c3
   obtain rfl := oI H
   go_wp2
   go_ret
   exact ⟨Z3, Z12⟩
def dc.f (k : Nat) (l0 : List ByteArray) (a1 : ByteArray) : Option (Bool) := (cn.f k l0 a1).bind fun s => (some (decide (s ≥ 0)))
theorem dc.calls (k : Nat) (s : Option Addr) (c0 : Nat) (l0 : List ByteArray) (a1 : ByteArray) (r : Bool) (w : World) (hr0 : Kd.C Kd.string w s l0.length l0) (y : l0.length <= c0) (h : dc.f k l0 a1 = some r) :
  Calls prog 115 #[.slice s l0.length c0, .string a1] w fun e w' => e = .returned (.bool r) /\ ew w w' := by
 replace hr0 := aM hr0
 replace y := aM y
 have H := h
 clear h
 unfold dc.f at H
 obtain ⟨D, I, H⟩ := cz H
 try dsimp only at H
 obtain rfl := oI H
 go_enter func115, ntmps115
 go_wp2_with (first | ((with_reducible refine gC 133 ?_); refine gL 7 func133 #[.slice s l0.length c0, .string a1] ?_; (with_reducible refine (cn.calls k _ _ l0 a1 D _ ?Y1 ?Y2 I.out).mono ?_); (case Y1 => repeat (first | exact hr0.out | (with_reducible refine Kd.C_alloc ?_ _) | (with_reducible refine Kd.C_drewN ?_ _) | (with_reducible refine Kd.C_drew ?_))); (case Y2 => exact y.out); rintro e w' ⟨rfl, ⟨nd, rfl⟩⟩; refine ⟨_, rfl, ?_⟩))
 go_ret
 exact ⟨Z3, Z12⟩
def gf (w0 W : World) (g : Nat) (f0 : ByteArray) (f1 : Int) (f2 : Int) (f3 : List (S113)) (f4 : List ByteArray) : Prop := ∃ s c3, ∃ y c4, W.heap[g]? = some (.cells #[.string f0, .int .i64 f1, .int .i64 f2, .slice s f3.length c3, .slice y f4.length c4] 82 (0, 0)) /\ w0.heap.size <= g /\ Kd.C k113 w0 s f3.length f3 /\ Kd.C Kd.string w0 y f4.length f4
theorem gf.grown {w0 W : World} {g : Nat} {f0 : ByteArray} {f1 : Int} {f2 : Int} {f3 : List (S113)} {f4 : List ByteArray} {W1 : World} {row : Option Nat} (h : gf w0 W g f0 f1 f2 f3 f4) (hw : W.grownBy W1 row) (hne : some g ≠ row) : gf w0 W1 g f0 f1 f2 f3 f4 := by
 obtain ⟨s, c3, y, c4, hb, hg, D, I⟩ := h
 exact ⟨s, c3, y, c4, fm hb hw hne, hg, D, I⟩
theorem gf.kept {w0 W : World} {g : Nat} {f0 : ByteArray} {f1 : Int} {f2 : Int} {f3 : List (S113)} {f4 : List ByteArray} {W1 : World} {S : Nat -> Prop} (h : gf w0 W g f0 f1 f2 f3 f4) (hk : Kept W W1 S) (hne : ¬ S g) : gf w0 W1 g f0 f1 f2 f3 f4 := by
 obtain ⟨s, c3, y, c4, hb, hg, D, I⟩ := h
 exact ⟨s, c3, y, c4, blk_kept hb hk hne, hg, D, I⟩
theorem gf.below {w0 W : World} {g : Nat} {f0 : ByteArray} {f1 : Int} {f2 : Int} {f3 : List (S113)} {f4 : List ByteArray} {W1 : World} (h : gf w0 W g f0 f1 f2 f3 f4) (hw : Below W.heap.size W W1) : gf w0 W1 g f0 f1 f2 f3 f4 := h.grown (grown_of_below hw none) (fg)
theorem gf.alloc {w0 W : World} {g : Nat} {f0 : ByteArray} {f1 : Int} {f2 : Int} {f3 : List (S113)} {f4 : List ByteArray} (h : gf w0 W g f0 f1 f2 f3 f4) (o : Obj) : gf w0 (W.alloc o) g f0 f1 f2 f3 f4 := h.below (ab (bi _ _) o)
theorem gf.drewN {w0 W : World} {g : Nat} {f0 : ByteArray} {f1 : Int} {f2 : Int} {f3 : List (S113)} {f4 : List ByteArray} (h : gf w0 W g f0 f1 f2 f3 f4) (m : Nat) : gf w0 (W.drewN m) g f0 f1 f2 f3 f4 := h
theorem gf.drew {w0 W : World} {g : Nat} {f0 : ByteArray} {f1 : Int} {f2 : Int} {f3 : List (S113)} {f4 : List ByteArray} (h : gf w0 W g f0 f1 f2 f3 f4) : gf w0 W.drew g f0 f1 f2 f3 f4 := h
theorem gf.at_ {w0 W : World} {g : Nat} {f0 : ByteArray} {f1 : Int} {f2 : Int} {f3 : List (S113)} {f4 : List ByteArray} {w' : World} {m : Nat} (hq : W.drewN m = w') (h : gf w0 W g f0 f1 f2 f3 f4) : gf w0 w' g f0 f1 f2 f3 f4 := by subst hq; exact gf.drewN h m
theorem gf.apart {w0 W : World} {g : Nat} {f0 : ByteArray} {f1 : Int} {f2 : Int} {f3 : List (S113)} {f4 : List ByteArray} {α : Type} {d : Kd α} {e : Nat} {base : Nat} {ok : Nat -> Prop} {v : Value} {xs : List α} (h : gf w0 W g f0 f1 f2 f3 f4) (ho : d.R e W base ok v xs) (ht : ∀ q, q ∈ e :: d.E -> q ≠ 82) : d.R e W base (fun k => ok k /\ k ≠ g) v xs := by
 obtain ⟨s, c3, y, c4, hb, hg, D, I⟩ := h
 exact Kd.R_types ho hb ht
theorem gf.own_ne {w0 W : World} {g : Nat} {f0 : ByteArray} {f1 : Int} {f2 : Int} {f3 : List (S113)} {f4 : List ByteArray} {α : Type} {d : Kd α} {e : Nat} {base : Nat} {ok : Nat -> Prop} {v : Value} {xs : List α} (h : gf w0 W g f0 f1 f2 f3 f4) (ho : d.R e W base ok v xs) (ht : e ≠ 82) : some g ≠ v.ownBlock := by
 obtain ⟨s, c3, y, c4, hb, hg, D, I⟩ := h
 exact Kd.R_ne ho hb ht
theorem gf.lt {w0 W : World} {g : Nat} {f0 : ByteArray} {f1 : Int} {f2 : Int} {f3 : List (S113)} {f4 : List ByteArray} (h : gf w0 W g f0 f1 f2 f3 f4) : g < W.heap.size := by
 obtain ⟨s, c3, y, c4, hb, hg, D, I⟩ := h
 exact en hb
theorem gf.ge {w0 W : World} {g : Nat} {f0 : ByteArray} {f1 : Int} {f2 : Int} {f3 : List (S113)} {f4 : List ByteArray} (h : gf w0 W g f0 f1 f2 f3 f4) : w0.heap.size <= g := by
 obtain ⟨s, c3, y, c4, hb, hg, D, I⟩ := h
 exact hg
theorem gf.far {w0 W : World} {g : Nat} {f0 : ByteArray} {f1 : Int} {f2 : Int} {f3 : List (S113)} {f4 : List ByteArray} {p : Addr} (h : gf w0 W g f0 f1 f2 f3 f4) (hne : g ≠ p.block) (u : Value) : gf w0 (W.setCell p u) g f0 f1 f2 f3 f4 := by
 obtain ⟨s, c3, y, c4, hb, hg, D, I⟩ := h
 exact ⟨s, c3, y, c4, blk_far hb hne u, hg, D, I⟩
theorem gf.set_0 {w0 W : World} {g : Nat} {f0 : ByteArray} {f1 : Int} {f2 : Int} {f3 : List (S113)} {f4 : List ByteArray} (h : gf w0 W g f0 f1 f2 f3 f4) (x : ByteArray) : gf w0 (W.setCell ⟨g, 0, none⟩ (.string x)) g x f1 f2 f3 f4 := by
 obtain ⟨s, c3, y, c4, hb, hg, D, I⟩ := h
 exact ⟨s, c3, y, c4, by simpa using blk_set hb 0 (.string x), hg, D, I⟩
theorem gf.set_1 {w0 W : World} {g : Nat} {f0 : ByteArray} {f1 : Int} {f2 : Int} {f3 : List (S113)} {f4 : List ByteArray} (h : gf w0 W g f0 f1 f2 f3 f4) (x : Int) : gf w0 (W.setCell ⟨g, 1, none⟩ (.int .i64 x)) g f0 x f2 f3 f4 := by
 obtain ⟨s, c3, y, c4, hb, hg, D, I⟩ := h
 exact ⟨s, c3, y, c4, by simpa using blk_set hb 1 (.int .i64 x), hg, D, I⟩
theorem gf.new (w0 W : World) (s : Option Addr) (c3 : Nat) (y : Option Addr) (c4 : Nat) (f0 : ByteArray) (f1 : Int) (f2 : Int) (f3 : List (S113)) (f4 : List ByteArray) (hB : Below w0.heap.size w0 W) (D : Kd.C k113 w0 s f3.length f3) (I : Kd.C Kd.string w0 y f4.length f4) : gf w0 (W.alloc (.cells #[.string f0, .int .i64 f1, .int .i64 f2, .slice s f3.length c3, .slice y f4.length c4] 82)) W.heap.size f0 f1 f2 f3 f4 := ⟨s, c3, y, c4, by simpa using heap_alloc_new W _, hB.size, D, I⟩
def idxU (u : Int) : List S113 -> Int -> Int
 | [], _ => -1
 | m :: r, i => if m.f0 = u then i else idxU u r (i + 1)
theorem idxU_drop (u : Int) (l : List S113) (k : Nat) (h : k < l.length) : idxU u (l.drop k) k = if (ar l (k : Int)).f0 = u then (k : Int) else idxU u (l.drop (k + 1)) ((k + 1 : Nat) : Int) := by
 rw [List.drop_eq_getElem_cons h, idxU]
 have e : ar l (k : Int) = l[k] := by unfold ar; simp [List.getD, List.getElem?_eq_getElem h]
 rw [e]; rfl
theorem mailIs (x y : Int) (z : ByteArray) (B : Nat) (u : Int) (w : World) (hB : B < w.heap.size) (hc : w.cell? ⟨B, 0, none⟩ = some (.int .i64 u)) :
  Calls prog 135 #[.agg #[.int .i64 x, .int .i64 y, .string z], .pointer (some ⟨B, 0, none⟩)] w fun e w' => e = .returned (.bool (x == u)) /\ Below w.heap.size w w' := by
 have s : ∀ o, (w.alloc o).cell? ⟨B, 0, none⟩ = some (.int .i64 u) := fun o => (World.cell?_alloc_past _ _ _ hB).trans hc
 go_enter func135, ntmps135
 go_wp2
 go_ret
 exact ⟨by first | rfl | (simp; done) | (simp [*]; done), Z6⟩
theorem mailsIndex (A : Option Addr) (c : Nat) (l : List S113) (u : Int) (B : Nat) (w : World) (hC : Kd.C k113 w A l.length l) (hB : B < w.heap.size) (hc : w.cell? ⟨B, 0, none⟩ = some (.int .i64 u)) (hl : l.length <= 1099511627776) :
  Calls prog 126 #[.slice A l.length c, .func (.func 135) #[] #[.pointer (some ⟨B, 0, none⟩)]] w fun e w' => e = .returned (.int .i64 (idxU u l 0)) /\ Below w.heap.size w w' := by
 have eg := enters_of func135 (Z16) rfl
 have HC := aM hC
 have HQ := aM hc
 clear hC hc
 go_enter func126, ntmps126
 go_wp2
 go_loopg [5, 8] l.length (fun gg _ D wr => ∃ kk : Nat, kk <= l.length /\ l.length - kk <= gg /\ D = .int .i64 kk /\ ap (Below w.heap.size w wr) /\ ap (idxU u l 0 = idxU u (l.drop kk) kk))
 case atStart => exact ⟨0, Nat.zero_le _, Z31, rfl, ⟨bi _ w⟩, ⟨rfl⟩⟩
 case round =>
  obtain ⟨kk, hkk, hg, rfl, BW, AI⟩ := hrel
  by_cases hlt : kk < l.length
  ·have hltz : (kk : Int) < (l.length : Int) := by omega
   have I : 0 <= (kk : Int) := by omega
   obtain ⟨ad, e, s, hx1, y⟩ := ed HC.out kk I hltz
   cases e
   simp only [Int.toNat_natCast] at s hx1 y
   replace s := (BW.out.cell (World.block_lt_of_cell? w _ s)).trans s
   replace hx1 := (BW.out.cell (World.block_lt_of_cell? w _ hx1)).trans hx1
   replace y := (BW.out.cell (World.block_lt_of_cell? w _ y)).trans y
   have hstep := idxU_drop u l kk hlt
   have hcall := mailIs (ar l (kk : Int)).f0 (ar l (kk : Int)).f1 (ar l (kk : Int)).f2 B u wr (Nat.lt_of_lt_of_le hB BW.out.size) ((BW.out.cell (p := ⟨B, 0, none⟩) hB).trans HQ.out)
   by_cases hq : (ar l (kk : Int)).f0 = u
   ·rw [if_pos hq] at hstep
    rw [show ((ar l (kk : Int)).f0 == u) = true from bf hq] at hcall
    have HS := aM hstep
    clear hstep hq
    go_wp2_with (go_at_call 135; refine hcall.mono ?_; rintro e w' ⟨rfl, hb'⟩)
    go_ret
    exact ⟨by rw [AI.out, HS.out]; rfl, Below.trans BW.out (hb'.mono BW.out.size)⟩
   rw [if_neg hq] at hstep
   rw [show ((ar l (kk : Int)).f0 == u) = false from bb hq] at hcall
   have HS := aM hstep
   clear hstep hq
   go_wp2_with (go_at_call 135; refine hcall.mono ?_; rintro e w' ⟨rfl, hb'⟩)
   go_roundg (l.length - (kk + 1))
   case measure => omega
   case rel => exact ⟨kk + 1, Z31, Z31, by go_num, ⟨Below.trans BW.out (hb'.mono BW.out.size)⟩, ⟨AI.out.trans HS.out⟩⟩
  have hltz : ¬ (kk : Int) < (l.length : Int) := by omega
  obtain rfl : kk = l.length := by omega
  go_wp2
  go_ret
  exact ⟨Z197, BW.out⟩
def impl_Box_mailIndex.f (y : ByteArray) (D I : Int) (s : List S113) (J : List ByteArray) (u : Int) : Option (Int × ByteArray × Int × Int) := if s.length <= 1099511627776 then some (idxU u s 0, y, D, I) else none
theorem impl_Box_mailIndex.calls (g : Nat) (I : ByteArray) (J M : Int) (s : List S113) (y : List ByteArray) (u : Int) (r : Int) (O : ByteArray) (U X : Int) (w0 w : World) (hI : gf w0 w g I J M s y) (hB : Below w0.heap.size w0 w) (h : impl_Box_mailIndex.f I J M s y u = some (r, O, U, X)) :
  Calls prog 125 #[.pointer (some ⟨g, 0, none⟩), .int .i64 u] w fun e w' => e = .returned (.int .i64 r) /\ gf w0 w' g O U X s y /\ Below w0.heap.size w0 w' /\ dd w w' g none := by
 unfold impl_Box_mailIndex.f at h
 by_cases hl : s.length <= 1099511627776
 ·rw [if_pos hl] at h
  simp only [Option.some.injEq, Prod.mk.injEq] at h
  obtain ⟨rfl, rfl, rfl, rfl⟩ := h
  have HI := aM hI
  have HB := aM hB
  have hlt := hI.lt
  obtain ⟨D, c3, A4, c4, hb, hge, Y, Z⟩ := hI
  have hC : Kd.C k113 w D s.length s := Kd.C_below Y hB
  have HC := aM (Kd.C_alloc hC (.cells #[.int .i64 u] 3))
  have aB : (w.alloc (.cells #[.int .i64 u] 3)).cell? ⟨g, 3, none⟩ = some (.slice D s.length c3) := (World.cell?_alloc_past _ _ _ hlt).trans ((al hb 3).trans rfl)
  clear hb Y Z hC hB
  go_enter func125, ntmps125
  go_wp2_with (go_at_call 126; refine (mailsIndex D c3 s u w.heap.size _ HC.out (fg) (by simp [go_sem]) hl).mono ?_; rintro e w' ⟨rfl, hb'⟩)
  go_ret
  have B' : Below w.heap.size w w' := Below.trans (Below.alloc (bi _ _) (bj _) _) (hb'.mono (fg))
  exact ⟨rfl, HI.out.below B', Below.trans HB.out (B'.mono HB.out.size), ⟨B'.size, fun k hk _ _ => B'.block k hk⟩⟩
 rw [if_neg hl] at h; cases h
mutual
def ci.j0 : Nat -> Bool -> Int -> Int -> Int -> Int -> ByteArray -> List (S84) -> Option (Bool)
 | 0, _, _, _, _, _, _, _ => none
 | k + 1, s, y, D, I, J, M, O => if s = true then (some false) else (ci.l0 k 0 y D I J M O)
def ci.l0 : Nat -> Int -> Int -> Int -> Int -> Int -> ByteArray -> List (S84) -> Option (Bool)
 | 0, _, _, _, _, _, _, _ => none
 | k + 1, x3, s, D, I, J, M, y => if x3 < (y.length : Int) then (if 0 <= x3 then ((cf.f (((ay y x3).f0).size : Int) 1 200).bind fun O => (if O = true then (if (((ay y x3).f1).size : Int) > 4000 then (some false) else (ci.l0 k (wrap64 (x3 + 1)) s D I J M y)) else (some false))) else (none)) else (if s = 1 then (ci.j2 k s (s == 1) s D I J M y) else (ci.j2 k s (s == 4) s D I J M y))
def ci.j2 : Nat -> Int -> Bool -> Int -> Int -> Int -> Int -> ByteArray -> List (S84) -> Option (Bool)
 | 0, _, _, _, _, _, _, _, _ => none
 | k + 1, J, M, Y, s, y, D, Z, I => if M = true then (if s = 0 then (if y = 0 then (if D = 0 then (some ((I.length : Int) == 0)) else (some false)) else (some false)) else (some false)) else (if J = 2 then (if s = 0 then (if y = 0 then (if D = 0 then (some (decide ((I.length : Int) > 0))) else (some false)) else (some false)) else (some false)) else (if J = 3 then ((cf.f s 1 1000).bind fun O => (if O = true then ((cf.f y 1 3).bind fun U => (if U = true then ((cf.f D 0 31).bind fun X => (if X = true then (some ((I.length : Int) == 0)) else (some false))) else (some false))) else (some false))) else (some false)))
end
def ci.f (k : Nat) (D : Int) (I : Int) (J : Int) (M : Int) (s : ByteArray) (y : List (S84)) : Option (Bool) := (fq.f k s).bind fun O => (if O = true then (ci.j0 k (decide ((y.length : Int) > 20)) D I J M s y) else (ci.j0 k true D I J M s y))
theorem ci.calls (k : Nat) (D : Int) (y : Int) (I : Int) (J : Int) (M : ByteArray) (aL : Option Addr) (aN : Nat) (s : List (S84)) (r : Bool) (w : World) (Z : Kd.C k84 w aL s.length s) (bD : s.length <= aN) (h : ci.f k D y I J M s = some r) :
  Calls prog 37 #[.agg #[.int .i64 D, .int .i64 y, .int .i64 I, .int .i64 J, .string M, .slice aL s.length aN]] w fun e w' => e = .returned (.bool r) /\ Below w.heap.size w w' := by
 have cD := underlying41
 replace Z := aM Z
 replace bD := aM bD
 have HB := aM (bi w.heap.size w)
 have H := h
 clear h
 unfold ci.f at H
 have a5 := aM H
 clear H
 go_enter func37, ntmps37
 go_upto_region 1 with (first | ((with_reducible refine gD 1 ?_); (try (refine dl (Z96) ?_; dsimp only)); refine bxF w 1 #[.int .i64 D, .int .i64 y, .int .i64 I, .int .i64 J, .string M, .slice aL s.length aN] 41 (Z0) ?_; intro a6 hg w3 BK202 cG GE202 HB hb; clear hb hg))
 (try simp only [Act.put, List.setIfInBounds_toArray, List.set_cons_zero, List.set_cons_succ])
 go_cut [13] (fun bJ wc => ∃ (kq : Nat) (aT : Bool), bJ = .bool aT /\ ap (ci.j0 kq aT D y I J M s = some r) /\ ap (kq <= k) /\ ap (wc.heap[a6]? = some (.cells #[.int .i64 D, .int .i64 y, .int .i64 I, .int .i64 J, .string M, (.slice aL s.length aN)] 41 (0, 0))) /\ ap (Below w.heap.size w wc))
 case first =>
  have H := a5.out
  clear a5
  obtain ⟨bK, A4, H⟩ := cz H
  try dsimp only at H
  by_cases c5 : bK = true
  ·subst c5
   replace H := ifT H
   have H' := aM H
   clear H
   refine bD6 BK202 ?_
   intros
   go_wp2_with (first | ((with_reducible refine gC 74 ?_); refine gL 6 func74 #[.string M] ?_; (with_reducible refine (fq.calls k M true _ A4.out).mono ?_); rintro e w' ⟨rfl, ⟨nd, rfl⟩⟩; refine ⟨_, rfl, ?_⟩))
   go_meet
   case rel => exact ⟨_, (decide ((s.length : Int) > 20)), (Z3), H', ⟨Z82⟩, ⟨Z99⟩, ⟨Z22⟩⟩
  replace c5 := be c5
  subst c5
  replace H := ifF H
  have H' := aM H
  clear H
  refine bD6 BK202 ?_
  intros
  go_wp2_with (first | ((with_reducible refine gC 74 ?_); refine gL 6 func74 #[.string M] ?_; (with_reducible refine (fq.calls k M false _ A4.out).mono ?_); rintro e w' ⟨rfl, ⟨nd, rfl⟩⟩; refine ⟨_, rfl, ?_⟩))
  go_meet
  case rel => exact ⟨_, (true), (Z3), H', ⟨Z82⟩, ⟨Z99⟩, ⟨Z22⟩⟩
 case rest =>
  clear a5
  obtain ⟨kq, aT, rfl, HA, HJ1, BK202, HB⟩ := hcut
  cases kq with
  | zero => exact absurd HA.out (by simp [ci.j0])
  | succ bF =>
   have H := HA.out
   clear HA
   simp only [ci.j0] at H
   by_cases c8 : aT = true
   ·subst c8
    replace H := ifT H
    obtain rfl := oI H
    go_wp2
    go_ret
    exact ⟨Z1, Z22⟩
   replace c8 := be c8
   subst c8
   replace H := ifF H
   have H' := aM H
   clear H
   go_wp2
   go_loopg [3] bF (fun kq v3 w' => ∃ (x3_2 : Int), v3 = .int .i64 x3_2 /\ ap (ci.l0 kq x3_2 D y I J M s = some r) /\ ap (kq <= bF) /\ ap (w'.heap[a6]? = some (.cells #[.int .i64 D, .int .i64 y, .int .i64 I, .int .i64 J, .string M, (.slice aL s.length aN)] 41 (0, 0))) /\ ap (Below w.heap.size w w'))
   case atStart => exact ⟨(0), (Z3), H', ⟨bj _⟩, ⟨Z99⟩, ⟨Z22⟩⟩
   case round =>
    clear H'
    (try clear c8)
    obtain ⟨x3_2, rfl, HA, HK2, BK202, HB⟩ := hrel
    cases gk with
    | zero => exact absurd HA.out (by simp [ci.l0])
    | succ k2 =>
     have H := HA.out
     clear HA
     simp only [ci.l0] at H
     by_cases c9 : x3_2 < (s.length : Int)
     ·rw [if_pos c9] at H
      have bH := az c9
      clear c9
      obtain ⟨c10, H⟩ := ifS H
      have cH := az c10
      clear c10
      obtain ⟨bM, a7, H⟩ := cz H
      try dsimp only at H
      by_cases aU : bM = true
      ·subst aU
       replace H := ifT H
       by_cases aO : (((ay s x3_2).f1).size : Int) > 4000
       ·rw [if_pos aO] at H
        have bN : decide (4000 < (((ay s x3_2).f1).size : Int)) = true := az aO
        have bO : decide (4000 < ((ay s x3_2).f1).size) = true := az (Z31)
        clear aO
        obtain rfl := oI H
        refine bD6 BK202 ?_
        intros
        have O : 0 <= (x3_2 : Int) := dT (Z4)
        have U : x3_2 < (s.length : Int) := dT (Z4)
        obtain ⟨aV, aP, X, Y⟩ := at_T84 Z.out x3_2 O U
        cases aP
        replace X := cB HB.out X
        replace Y := cB HB.out Y
        replace O := bh O
        replace U := bh U
        go_wp2_with (first | ((with_reducible refine gC 75 ?_); refine gL 28 func75 #[.int .i64 (((ay s x3_2).f0).size : Int), .int .i64 1, .int .i64 200] ?_; (with_reducible refine (cf.calls (((ay s x3_2).f0).size : Int) 1 200 true _ a7.out).mono ?_); rintro e w' ⟨rfl, ⟨nd, rfl⟩⟩; refine ⟨_, rfl, ?_⟩; have aA : 0 <= (x3_2 : Int) := dT (Z4); have aB : x3_2 < (s.length : Int) := dT (Z4); obtain ⟨a8, a9, aQ, aR⟩ := at_T84 Z.out x3_2 aA aB; obtain rfl : aV = a8 := (by injection a9); replace aQ := cB HB.out aQ; replace aR := cB HB.out aR; replace aA := bh aA; replace aB := bh aB))
        go_ret
        exact ⟨Z1, Z22⟩
       rw [if_neg aO] at H
       have bN : decide (4000 < (((ay s x3_2).f1).size : Int)) = false := ba aO
       have bO : decide (4000 < ((ay s x3_2).f1).size) = false := ba (Z31)
       clear aO
       have H' := aM H
       clear H
       refine bD6 BK202 ?_
       intros
       have O : 0 <= (x3_2 : Int) := dT (Z4)
       have U : x3_2 < (s.length : Int) := dT (Z4)
       obtain ⟨aV, aP, X, Y⟩ := at_T84 Z.out x3_2 O U
       cases aP
       replace X := cB HB.out X
       replace Y := cB HB.out Y
       replace O := bh O
       replace U := bh U
       go_wp2_with (first | ((with_reducible refine gC 75 ?_); refine gL 28 func75 #[.int .i64 (((ay s x3_2).f0).size : Int), .int .i64 1, .int .i64 200] ?_; (with_reducible refine (cf.calls (((ay s x3_2).f0).size : Int) 1 200 true _ a7.out).mono ?_); rintro e w' ⟨rfl, ⟨nd, rfl⟩⟩; refine ⟨_, rfl, ?_⟩; have aA : 0 <= (x3_2 : Int) := dT (Z4); have aB : x3_2 < (s.length : Int) := dT (Z4); obtain ⟨a8, a9, aQ, aR⟩ := at_T84 Z.out x3_2 aA aB; obtain rfl : aV = a8 := (by injection a9); replace aQ := cB HB.out aQ; replace aR := cB HB.out aR; replace aA := bh aA; replace aB := bh aB))
       go_roundg k2
       case measure => have := HJ1.out; have := HK2.out; omega
       case rel => exact ⟨(wrap64 (x3_2 + 1)), (Z3), H', ⟨Z172⟩, ⟨Z99⟩, ⟨Z22⟩⟩
      replace aU := be aU
      subst aU
      replace H := ifF H
      obtain rfl := oI H
      refine bD6 BK202 ?_
      intros
      have O : 0 <= (x3_2 : Int) := dT (Z4)
      have U : x3_2 < (s.length : Int) := dT (Z4)
      obtain ⟨aV, aP, X, Y⟩ := at_T84 Z.out x3_2 O U
      cases aP
      replace X := cB HB.out X
      replace Y := cB HB.out Y
      replace O := bh O
      replace U := bh U
      go_wp2_with (first | ((with_reducible refine gC 75 ?_); refine gL 28 func75 #[.int .i64 (((ay s x3_2).f0).size : Int), .int .i64 1, .int .i64 200] ?_; (with_reducible refine (cf.calls (((ay s x3_2).f0).size : Int) 1 200 false _ a7.out).mono ?_); rintro e w' ⟨rfl, ⟨nd, rfl⟩⟩; refine ⟨_, rfl, ?_⟩))
      go_ret
      exact ⟨Z1, Z22⟩
     rw [if_neg c9] at H
     have bH := ba c9
     clear c9
     have bA := aM H
     clear H
     refine bD6 BK202 ?_
     intros
     go_upto_if 42 with (fail)
     go_cut [42] (fun bP wc => ∃ (kq : Nat) (aW : Bool), bP = .bool aW /\ ap (ci.j2 kq D aW D y I J M s = some r) /\ ap (kq <= k2) /\ ap (wc.heap[a6]? = some (.cells #[.int .i64 D, .int .i64 y, .int .i64 I, .int .i64 J, .string M, (.slice aL s.length aN)] 41 (0, 0))) /\ ap (Below w.heap.size w wc))
     case first =>
      have H := bA.out
      clear bA
      by_cases aC : D = 1
      ·rw [if_pos aC] at H
       have aS := bf aC
       have bB := bc aC
       clear aC
       (first | rw [aS] | rw [bB] | (simp only [i64_w, i32_w]; rw [aS]) | skip)
       have H' := aM H
       clear H
       go_wp2
       go_meet
       case rel => exact ⟨_, ((D == 1)), (Z3), H', ⟨by have := HJ1.out; have := HK2.out; first | omega | exact bj _⟩, ⟨Z99⟩, ⟨Z22⟩⟩
      rw [if_neg aC] at H
      have aS := bb aC
      have bB := bg aC
      (first | rw [aS] | rw [bB] | (simp only [i64_w, i32_w]; rw [aS]) | skip)
      have H' := aM H
      clear H
      go_wp2
      go_meet
      case rel => exact ⟨_, ((D == 4)), (Z3), H', ⟨by have := HJ1.out; have := HK2.out; first | omega | exact bj _⟩, ⟨Z99⟩, ⟨Z22⟩⟩
     case rest =>
      clear bA
      (try clear c8); (try clear c9); (try clear bH)
      obtain ⟨kq, aW, rfl, HA, cI, BK202, HB⟩ := hcut
      cases kq with
      | zero => exact absurd HA.out (by simp [ci.j2])
      | succ cJ =>
       have H := HA.out
       clear HA
       simp only [ci.j2] at H
       by_cases aX : aW = true
       ·subst aX
        replace H := ifT H
        by_cases aD : y = 0
        ·rw [if_pos aD] at H
         have bQ := bf aD
         have bR := bc aD
         clear aD
         by_cases aE : I = 0
         ·rw [if_pos aE] at H
          have bS := bf aE
          have bT := bc aE
          clear aE
          by_cases aF : J = 0
          ·rw [if_pos aF] at H
           have bU := bf aF
           have bV := bc aF
           clear aF
           obtain rfl := oI H
           refine bD6 BK202 ?_
           intros
           go_wp2
           go_ret
           exact ⟨Z1, Z22⟩
          rw [if_neg aF] at H
          have bU := bb aF
          have bV := bg aF
          obtain rfl := oI H
          refine bD6 BK202 ?_
          intros
          go_wp2
          go_ret
          exact ⟨Z1, Z22⟩
         rw [if_neg aE] at H
         have bS := bb aE
         have bT := bg aE
         obtain rfl := oI H
         refine bD6 BK202 ?_
         intros
         go_wp2
         go_ret
         exact ⟨Z1, Z22⟩
        rw [if_neg aD] at H
        have bQ := bb aD
        have bR := bg aD
        obtain rfl := oI H
        refine bD6 BK202 ?_
        intros
        go_wp2
        go_ret
        exact ⟨Z1, Z22⟩
       replace aX := be aX
       subst aX
       replace H := ifF H
       by_cases aG : D = 2
       ·rw [if_pos aG] at H
        have bW := bf aG
        have bX := bc aG
        clear aG
        by_cases aH : y = 0
        ·rw [if_pos aH] at H
         have bY := bf aH
         have bZ := bc aH
         clear aH
         by_cases aI : I = 0
         ·rw [if_pos aI] at H
          have b0 := bf aI
          have b1 := bc aI
          clear aI
          by_cases aJ : J = 0
          ·rw [if_pos aJ] at H
           have b2 := bf aJ
           have b6 := bc aJ
           clear aJ
           obtain rfl := oI H
           refine bD6 BK202 ?_
           intros
           go_wp2
           go_ret
           exact ⟨Z1, Z22⟩
          rw [if_neg aJ] at H
          have b2 := bb aJ
          have b6 := bg aJ
          obtain rfl := oI H
          refine bD6 BK202 ?_
          intros
          go_wp2
          go_ret
          exact ⟨Z1, Z22⟩
         rw [if_neg aI] at H
         have b0 := bb aI
         have b1 := bg aI
         obtain rfl := oI H
         refine bD6 BK202 ?_
         intros
         go_wp2
         go_ret
         exact ⟨Z1, Z22⟩
        rw [if_neg aH] at H
        have bY := bb aH
        have bZ := bg aH
        obtain rfl := oI H
        refine bD6 BK202 ?_
        intros
        go_wp2
        go_ret
        exact ⟨Z1, Z22⟩
       rw [if_neg aG] at H
       have bW := bb aG
       have bX := bg aG
       by_cases aK : D = 3
       ·rw [if_pos aK] at H
        have b7 := bf aK
        have b8 := bc aK
        clear aK
        obtain ⟨b9, aY, H⟩ := cz H
        try dsimp only at H
        by_cases aZ : b9 = true
        ·subst aZ
         replace H := ifT H
         obtain ⟨cA, bC, H⟩ := cz H
         try dsimp only at H
         by_cases a2 : cA = true
         ·subst a2
          replace H := ifT H
          obtain ⟨cC, bI, H⟩ := cz H
          try dsimp only at H
          by_cases a3 : cC = true
          ·subst a3
           replace H := ifT H
           obtain rfl := oI H
           refine bD6 BK202 ?_
           intros
           go_wp2_with (first | ((with_reducible refine gC 75 ?_); refine gL 89 func75 #[.int .i64 y, .int .i64 1, .int .i64 1000] ?_; (with_reducible refine (cf.calls y 1 1000 true _ aY.out).mono ?_); rintro e w' ⟨rfl, ⟨nd, rfl⟩⟩; refine ⟨_, rfl, ?_⟩) | (go_at_call 75; (with_reducible refine (cf.calls I 1 3 true _ bC.out).mono ?_); rintro e w' ⟨rfl, ⟨nd, rfl⟩⟩) | (go_at_call 75; (with_reducible refine (cf.calls J 0 31 true _ bI.out).mono ?_); rintro e w' ⟨rfl, ⟨nd, rfl⟩⟩))
           go_ret
           exact ⟨Z1, Z22⟩
          replace a3 := be a3
          subst a3
          replace H := ifF H
          obtain rfl := oI H
          refine bD6 BK202 ?_
          intros
          go_wp2_with (first | ((with_reducible refine gC 75 ?_); refine gL 89 func75 #[.int .i64 y, .int .i64 1, .int .i64 1000] ?_; (with_reducible refine (cf.calls y 1 1000 true _ aY.out).mono ?_); rintro e w' ⟨rfl, ⟨nd, rfl⟩⟩; refine ⟨_, rfl, ?_⟩) | (go_at_call 75; (with_reducible refine (cf.calls I 1 3 true _ bC.out).mono ?_); rintro e w' ⟨rfl, ⟨nd, rfl⟩⟩) | (go_at_call 75; (with_reducible refine (cf.calls J 0 31 false _ bI.out).mono ?_); rintro e w' ⟨rfl, ⟨nd, rfl⟩⟩))
          go_ret
          exact ⟨Z1, Z22⟩
         replace a2 := be a2
         subst a2
         replace H := ifF H
         obtain rfl := oI H
         refine bD6 BK202 ?_
         intros
         go_wp2_with (first | ((with_reducible refine gC 75 ?_); refine gL 89 func75 #[.int .i64 y, .int .i64 1, .int .i64 1000] ?_; (with_reducible refine (cf.calls y 1 1000 true _ aY.out).mono ?_); rintro e w' ⟨rfl, ⟨nd, rfl⟩⟩; refine ⟨_, rfl, ?_⟩) | (go_at_call 75; (with_reducible refine (cf.calls I 1 3 false _ bC.out).mono ?_); rintro e w' ⟨rfl, ⟨nd, rfl⟩⟩))
         go_ret
         exact ⟨Z1, Z22⟩
        replace aZ := be aZ
        subst aZ
        replace H := ifF H
        obtain rfl := oI H
        refine bD6 BK202 ?_
        intros
        go_wp2_with (first | ((with_reducible refine gC 75 ?_); refine gL 89 func75 #[.int .i64 y, .int .i64 1, .int .i64 1000] ?_; (with_reducible refine (cf.calls y 1 1000 false _ aY.out).mono ?_); rintro e w' ⟨rfl, ⟨nd, rfl⟩⟩; refine ⟨_, rfl, ?_⟩))
        go_ret
        exact ⟨Z1, Z22⟩
       rw [if_neg aK] at H
       have b7 := bb aK
       have b8 := bg aK
       obtain rfl := oI H
       go_wp2
       go_ret
       exact ⟨Z1, Z22⟩
mutual
def bz.j0 : Nat -> ByteArray -> Bool -> Option (Int × Int × Int × Int × ByteArray × (List (S84)) × Bool)
 | 0, _, _ => none
 | k + 1, x0, s => if s = true then (some (0, 0, 0, 0, (⟨#[]⟩ : ByteArray), ([] : List (S84)), false)) else (if 4 < (x0.size : Int) then (if 0 < (x0.size : Int) then (if 1 < (x0.size : Int) then (if 2 < (x0.size : Int) then (if 5 <= 7 then (if 7 <= (x0.size : Int) then ((cr.f k (x0.extract 5 7)).bind fun y => (if 7 <= (wrap64 (7 + (wrap64 (bt x0 4)))) then (if (wrap64 (7 + (wrap64 (bt x0 4)))) <= (x0.size : Int) then (if 3 < (x0.size : Int) then (bz.l0 k x0 (wrap64 (7 + (wrap64 (bt x0 4)))) (wrap64 (bt x0 3)) (wrap64 (bt x0 0)) y (wrap64 (bt x0 1)) (wrap64 (bt x0 2)) (x0.extract 7 ((wrap64 (7 + (wrap64 (bt x0 4)))) : Int).toNat) (([] : List (S84)))) else (none)) else (none)) else (none))) else (none)) else (none)) else (none)) else (none)) else (none)) else (none))
def bz.l0 : Nat -> ByteArray -> Int -> Int -> Int -> Int -> Int -> Int -> ByteArray -> List (S84) -> Option (Int × Int × Int × Int × ByteArray × (List (S84)) × Bool)
 | 0, _, _, _, _, _, _, _, _, _ => none
 | k + 1, x0, x4, x6, I, J, M, O, U, y => if x6 > 0 then (if (wrap64 (x4 + 4)) > (x0.size : Int) then (some (0, 0, 0, 0, (⟨#[]⟩ : ByteArray), ([] : List (S84)), false)) else (if 0 <= x4 then (if x4 <= (wrap64 (x4 + 2)) then (if (wrap64 (x4 + 2)) <= (x0.size : Int) then ((cr.f k (x0.extract (x4 : Int).toNat ((wrap64 (x4 + 2)) : Int).toNat)).bind fun s => (if 0 <= (wrap64 (x4 + 2)) then (if (wrap64 (x4 + 2)) <= (wrap64 (x4 + 4)) then (if (wrap64 (x4 + 4)) <= (x0.size : Int) then ((cr.f k (x0.extract ((wrap64 (x4 + 2)) : Int).toNat ((wrap64 (x4 + 4)) : Int).toNat)).bind fun D => (if (wrap64 ((wrap64 ((wrap64 (x4 + 4)) + s)) + D)) > (x0.size : Int) then (some (0, 0, 0, 0, (⟨#[]⟩ : ByteArray), ([] : List (S84)), false)) else (if 0 <= (wrap64 (x4 + 4)) then (if (wrap64 (x4 + 4)) <= (wrap64 ((wrap64 (x4 + 4)) + s)) then (if (wrap64 ((wrap64 (x4 + 4)) + s)) <= (x0.size : Int) then (if 0 <= (wrap64 ((wrap64 (x4 + 4)) + s)) then (if (wrap64 ((wrap64 (x4 + 4)) + s)) <= (wrap64 ((wrap64 ((wrap64 (x4 + 4)) + s)) + D)) then (if (wrap64 ((wrap64 ((wrap64 (x4 + 4)) + s)) + D)) <= (x0.size : Int) then (if y.length < 4398046511104 then (bz.l0 k x0 (wrap64 ((wrap64 (x4 + 4)) + (wrap64 (s + D)))) (wrap64 (x6 - 1)) I J M O U (y ++ [(⟨x0.extract ((wrap64 (x4 + 4)) : Int).toNat ((wrap64 ((wrap64 (x4 + 4)) + s)) : Int).toNat, x0.extract ((wrap64 ((wrap64 (x4 + 4)) + s)) : Int).toNat ((wrap64 ((wrap64 ((wrap64 (x4 + 4)) + s)) + D)) : Int).toNat⟩ : S84)])) else (none)) else (none)) else (none)) else (none)) else (none)) else (none)) else (none)))) else (none)) else (none)) else (none))) else (none)) else (none)) else (none))) else (if x4 = (x0.size : Int) then ((ci.f k I J M O U y).bind fun X => (some (I, J, M, O, U, y, X))) else (some (I, J, M, O, U, y, false)))
end
def bz.f (k : Nat) (a0 : ByteArray) : Option (Int × Int × Int × Int × ByteArray × (List (S84)) × Bool) := if (a0.size : Int) < 7 then (bz.j0 k a0 true) else (if 4 < (a0.size : Int) then (bz.j0 k a0 (decide ((a0.size : Int) < (wrap64 (7 + (wrap64 (bt a0 4))))))) else (none))
def bz.T4 : Bool × List (List Nat × List Nat) := (true, [([], []), ([0], [0]), ([1], [1]), ([], []), ([3], [3]), ([4], [4]), ([], []), ([6], [6]), ([7], [7]), ([], []), ([9], [9]), ([10], [10]), ([], []), ([], []), ([12, 13], [12, 13]), ([], []), ([2, 5, 8, 11, 14, 15], [2, 5, 8, 11, 14, 15]), ([], []), ([17, 16, 11, 0, 1, 2, 3, 4, 5, 6, 7, 8, 9, 10, 11, 12, 13, 14, 15, 16, 17], [16, 17])])
def bz.B4 : List Nat := [0, 1, 3, 0, 8, 24, 0, 64, 192, 0, 512, 1536, 0, 0, 12288, 0, 65535, 0, 262143]
theorem bz.tab4 : rtab .any (opsOf Tryz.f111 4) = bz.T4 := by kernel_rfl
theorem bz.bits4 : waitsOk bz.T4.2 bz.B4 = true := by kernel_rfl
def bz.T15 : Bool × List (List Nat × List Nat) := (true, [([], []), ([0], [0]), ([], []), ([], []), ([], []), ([], []), ([4, 5], [4, 5]), ([2, 3, 6], [2, 3, 6]), ([], []), ([], []), ([], []), ([9, 10], [9, 10]), ([], []), ([], []), ([12, 13], [12, 13]), ([], []), ([14, 15], [14, 15]), ([8, 11, 16], [8, 11, 16]), ([7, 17], [7, 17]), ([18], [18]), ([1, 19], [1, 19]), ([0, 1, 2, 3, 4, 5, 6, 7, 8, 9, 10, 11, 12, 13, 14, 15, 16, 17, 18, 19, 20], []), ([21, 20, 20, 0, 1, 2, 3, 4, 5, 6, 7, 8, 9, 10, 11, 12, 13, 14, 15, 16, 17, 18, 19, 20], [20, 21])])
def bz.B15 : List Nat := [0, 1, 0, 0, 0, 0, 48, 124, 0, 0, 0, 1536, 0, 0, 12288, 0, 61440, 130816, 262140, 524284, 1048575, 2097151, 4194303]
theorem bz.tab15 : rtab .any (opsOf Tryz.f111 15) = bz.T15 := by kernel_rfl
theorem bz.bits15 : waitsOk bz.T15.2 bz.B15 = true := by kernel_rfl
def bz.T17 : Bool × List (List Nat × List Nat) := (true, [([], []), ([], []), ([], []), ([2], [2]), ([1, 3], [1, 3]), ([4], [4]), ([5], [5]), ([6, 5, 5], [5, 6]), ([5, 7], [5, 7]), ([0, 7, 0], [0]), ([8, 9, 0, 1, 2, 3, 4, 5, 6, 7, 8, 9], [8])])
def bz.B17 : List Nat := [0, 0, 0, 4, 14, 30, 62, 126, 254, 255, 1023]
theorem bz.tab17 : rtab .any (opsOf Tryz.f111 17) = bz.T17 := by kernel_rfl
theorem bz.bits17 : waitsOk bz.T17.2 bz.B17 = true := by kernel_rfl
theorem bz.calls (k : Nat) (a0 : ByteArray) (r1 : Int) (r2 : Int) (r3 : Int) (r4 : Int) (r5 : ByteArray) (r6 : List (S84)) (r7 : Bool) (w : World) (h : bz.f k a0 = some (r1, r2, r3, r4, r5, r6, r7)) :
  Calls prog 111 #[.string a0] w fun e w' => ∃ v5_ : Value, e = .returned (.tuple #[.agg #[.int .i64 r1, .int .i64 r2, .int .i64 r3, .int .i64 r4, .string r5, v5_], .bool r7]) /\ Kd.R k84 84 w' w.heap.size (fun _ => True) v5_ r6 /\ Below w.heap.size w w' := by
 have eJ := underlying41
 have eK := underlying84
 have HB := aM (bi w.heap.size w)
 have H := h
 clear h
 unfold bz.f at H
 have bQ := aM H
 clear H
 go_enter func111, ntmps111
 go_upto_region 1 with (first | ((with_reducible refine gD 2 ?_); (try (refine dl (Z96) ?_; dsimp only)); refine bxF w 2 #[.int .i64 0, .int .i64 0, .int .i64 0, .int .i64 0, .string (⟨#[]⟩ : ByteArray), .slice none 0 0] 41 (Z0) ?_; intro y hg w3 BK210 eL GE210 HB hb; clear hb hg))
 (try simp only [Act.put, List.setIfInBounds_toArray, List.set_cons_zero, List.set_cons_succ])
 go_cut [20] (fun dI wc => ∃ (kq : Nat) (bM : Bool), dI = .bool bM /\ ap (bz.j0 kq a0 bM = some (r1, r2, r3, r4, r5, r6, r7)) /\ ap (kq <= k) /\ ap (wc.heap[y]? = some (.cells #[.int .i64 0, .int .i64 0, .int .i64 0, .int .i64 0, .string (⟨#[]⟩ : ByteArray), (.slice none 0 0)] 41 (0, 0))) /\ ap (Below w.heap.size w wc))
 case first =>
  have H := bQ.out
  clear bQ
  by_cases c4 : (a0.size : Int) < 7
  ·rw [if_pos c4] at H
   have bC := az c4
   have bR : decide (a0.size < 7) = true := az (Z31)
   clear c4
   (first | rw [bC] | rw [bR] | (simp only [i64_w, i32_w]; rw [bC]) | skip)
   have H' := aM H
   clear H
   go_wp2
   go_meet
   case rel => exact ⟨_, (true), (Z3), H', ⟨Z82⟩, ⟨Z17⟩, ⟨Z21⟩⟩
  rw [if_neg c4] at H
  have bC := ba c4
  have bR : decide (a0.size < 7) = false := ba (Z31)
  clear c4
  (first | rw [bC] | rw [bR] | (simp only [i64_w, i32_w]; rw [bC]) | skip)
  obtain ⟨c5, H⟩ := ifS H
  have eM := az c5
  have eN : decide (4 < a0.size) = true := az (Z31)
  clear c5
  have H' := aM H
  clear H
  have p6 : 0 <= (4 : Int) := (Z31)
  have q6 : 4 < a0.size := (by have : (4 : Int) < (a0.size : Int) := dT (Z4); omega)
  have eO : ∀ h : 4 < a0.size, ((a0[4]'h).toNat : Int) = bt a0 4 := bt_at a0 4
  clear p6
  have eP : (4 < (a0.size : Int)) = True := bh (dT (Z4))
  replace q6 := bh q6
  go_wp2
  go_meet
  case rel => exact ⟨_, (decide ((a0.size : Int) < (wrap64 (7 + (wrap64 (bt a0 4)))))), (Z3), H', ⟨Z82⟩, ⟨Z17⟩, ⟨Z21⟩⟩
 case rest =>
  clear bQ
  obtain ⟨kq, bM, rfl, HA, HJ1, BK210, HB⟩ := hcut
  cases kq with
  | zero => exact absurd HA.out (by simp [bz.j0])
  | succ a5 =>
   have H := HA.out
   clear HA
   simp only [bz.j0] at H
   by_cases c7 : bM = true
   ·subst c7
    replace H := ifT H
    simp only [Option.some.injEq, Prod.mk.injEq] at H
    obtain ⟨rfl, rfl, rfl, rfl, rfl, rfl, rfl⟩ := H
    refine bD6 BK210 ?_
    intros
    go_wp2
    refine bodyPost_ret (fk rfl _ _ y 41 #[.int .i64 0, .int .i64 0, .int .i64 0, .int .i64 0, .string (⟨#[]⟩ : ByteArray), .slice none 0 0] (0, 0) _ rfl zB underlying41 rfl (Z16)) rfl ?_
    exact ⟨_, Z1, Z105, Z21⟩
   replace c7 := be c7
   subst c7
   replace H := ifF H
   obtain ⟨c9, H⟩ := ifS H
   have eQ := az c9
   have eR : decide (4 < a0.size) = true := az (Z31)
   clear c9
   obtain ⟨bS, H⟩ := ifS H
   have eS := az bS
   have eT : decide (0 < a0.size) = true := az (Z31)
   clear bS
   obtain ⟨cJ, H⟩ := ifS H
   have eU := az cJ
   have eV : decide (1 < a0.size) = true := az (Z31)
   clear cJ
   obtain ⟨cK, H⟩ := ifS H
   have eW := az cK
   have eX : decide (2 < a0.size) = true := az (Z31)
   clear cK
   obtain ⟨bT, H⟩ := ifS H
   have eY := bh bT
   have eZ : decide (5 <= 7) = true := az bT
   clear bT
   obtain ⟨bU, H⟩ := ifS H
   have e0 := bh bU
   have e1 : decide (7 <= (a0.size : Int)) = true := az bU
   clear bU
   obtain ⟨J, bN, H⟩ := cz H
   try dsimp only at H
   obtain ⟨cL, H⟩ := ifS H
   have e2 := bh cL
   have e3 : decide (7 <= (wrap64 (7 + (wrap64 (bt a0 4))))) = true := az cL
   obtain ⟨cM, H⟩ := ifS H
   have e4 := bh cM
   have e5 : decide ((wrap64 (7 + (wrap64 (bt a0 4)))) <= (a0.size : Int)) = true := az cM
   obtain ⟨aA, bD⟩ : ∃ y_ : List (S84), y_ = (([] : List (S84))) := ⟨_, rfl⟩
   replace H : (if 3 < (a0.size : Int) then (bz.l0 a5 a0 (wrap64 (7 + (wrap64 (bt a0 4)))) (wrap64 (bt a0 3)) (wrap64 (bt a0 0)) J (wrap64 (bt a0 1)) (wrap64 (bt a0 2)) (a0.extract 7 ((wrap64 (7 + (wrap64 (bt a0 4)))) : Int).toNat) aA) else (none)) = some (r1, r2, r3, r4, r5, r6, r7) := by first | (rw [bD]; with_reducible exact H) | (have H2_ := (Option.bind_some _ _).symm.trans H; rw [bD]; with_reducible exact H2_) | (have H2_ := (Option.bind_some _ _).symm.trans H; with_reducible exact H2_) | with_reducible exact H | (rw [bD]; exact H) | exact H
   have a2 := aM bD
   clear bD
   obtain ⟨cN, H⟩ := ifS H
   have e6 := az cN
   have e7 : decide (3 < a0.size) = true := az (Z31)
   clear cN
   have H' := aM H
   clear H
   have p10 : 0 <= (4 : Int) := (Z31)
   have cO : 4 < a0.size := (by have : (4 : Int) < (a0.size : Int) := dT (Z4); omega)
   have e8 : ∀ h : 4 < a0.size, ((a0[4]'h).toNat : Int) = bt a0 4 := bt_at a0 4
   clear p10
   have e9 : (4 < (a0.size : Int)) = True := bh (dT (Z4))
   replace cO := bh cO
   try go_wp2
   replace BK210 := aM (ag BK210.out)
   replace HB := aM (ac HB.out)
   have p12 : 0 <= (0 : Int) := (Z31)
   have cP : 0 < a0.size := (by have : (0 : Int) < (a0.size : Int) := dT (Z4); omega)
   have fA : ∀ h : 0 < a0.size, ((a0[0]'h).toNat : Int) = bt a0 0 := bt_at a0 0
   clear p12
   have fB : (0 < (a0.size : Int)) = True := bh (dT (Z4))
   replace cP := bh cP
   have dJ : 0 <= (1 : Int) := (Z31)
   have cQ : 1 < a0.size := (by have : (1 : Int) < (a0.size : Int) := dT (Z4); omega)
   have fC : ∀ h : 1 < a0.size, ((a0[1]'h).toNat : Int) = bt a0 1 := bt_at a0 1
   clear dJ
   have fD : (1 < (a0.size : Int)) = True := bh (dT (Z4))
   replace cQ := bh cQ
   have dK : 0 <= (2 : Int) := (Z31)
   have cR : 2 < a0.size := (by have : (2 : Int) < (a0.size : Int) := dT (Z4); omega)
   have fE : ∀ h : 2 < a0.size, ((a0[2]'h).toNat : Int) = bt a0 2 := bt_at a0 2
   clear dK
   have fF : (2 < (a0.size : Int)) = True := bh (dT (Z4))
   replace cR := bh cR
   refine fe (n := 19) (S := fun w' => True) (ds := []) #[false, false, false, false, false, false, false, false, false, false, false, false, false, false, false, false, false, false, false] (Z16) rfl rfl trivial (fun hHeld => ?_); refine df bz.tab4 bz.bits4 (fun HT_ HW_ => ?_)
   generalize wc.drew = fG at BK210 HB hHeld ⊢
   refine pA 0 26 ?_
   refine pA 3 29 ?_
   refine pA 6 32 ?_
   refine pA 9 35 ?_
   refine pA 10 36 ?_
   refine pA 12 38 ?_
   refine pA 13 39 ?_
   refine pA 14 40 ?_
   refine take_ (i := 1) (N := some 27) (v := ?_) (a' := ?_) #[true, true, false, true, false, false, true, false, false, true, true, false, true, true, true, false, false, false, false] rfl rfl (take_ofW HT_.out HW_.out (Z16)) (fun _ _ _ h => h) (Or.inl ⟨Z96, ?_⟩) hHeld ?_ ?_
   rotate_left
   ·intro w' _
    go_simp
    with_reducible rfl
   rotate_left
   ·simp only [Act.put, List.setIfInBounds_toArray, List.set_cons_zero, List.set_cons_succ, i64_w, i32_w]
    rfl
   refine pA 2 28 ?_
   refine take_ (i := 4) (N := some 30) (v := ?_) (a' := ?_) #[true, true, true, true, true, false, true, false, false, true, true, false, true, true, true, false, false, false, false] rfl rfl (take_ofW HT_.out HW_.out (Z16)) (fun _ _ _ h => h) (Or.inl ⟨Z96, ?_⟩) hHeld ?_ ?_
   rotate_left
   ·intro w' _
    go_simp
    with_reducible rfl
   rotate_left
   ·simp only [Act.put, List.setIfInBounds_toArray, List.set_cons_zero, List.set_cons_succ, i64_w, i32_w]
    rfl
   refine pA 5 31 ?_
   refine take_ (i := 7) (N := some 33) (v := ?_) (a' := ?_) #[true, true, true, true, true, true, true, true, false, true, true, false, true, true, true, false, false, false, false] rfl rfl (take_ofW HT_.out HW_.out (Z16)) (fun _ _ _ h => h) (Or.inl ⟨Z96, ?_⟩) hHeld ?_ ?_
   rotate_left
   ·intro w' _
    go_simp
    with_reducible rfl
   rotate_left
   ·simp only [Act.put, List.setIfInBounds_toArray, List.set_cons_zero, List.set_cons_succ, i64_w, i32_w]
    rfl
   refine pA 8 34 ?_
   refine join_ (σ := Value × Nat) 1 #[true, true, true, true, true, true, true, true, true, true, true, true, true, true, true, true, true, true, false] (fun s_ => [(37, .int .i64 J), (41, s_.1), (5, .pointer (some ⟨s_.2, 0, none⟩)), (42, .agg #[.int .i64 (wrap64 (bt a0 0)), .int .i64 J, .int .i64 (wrap64 (bt a0 1)), .int .i64 (wrap64 (bt a0 2)), .string (a0.extract 7 ((wrap64 (7 + (wrap64 (bt a0 4)))) : Int).toNat), s_.1])]) (fun s_ w' => (Kd.R k84 84 w' w.heap.size (fun _ => True) s_.1 aA) /\ (w'.heap[y]? = some (.cells #[.int .i64 0, .int .i64 0, .int .i64 0, .int .i64 0, .string (⟨#[]⟩ : ByteArray), .slice none 0 0] 41 (0, 0))) /\ (w'.heap[s_.2]? = some (.cells #[.int .i64 0, .int .i64 0, .int .i64 0, .int .i64 0, .string (⟨#[]⟩ : ByteArray), .slice none 0 0] 41 (0, 0))) /\ (w.heap.size <= s_.2) /\ (w.heap.size <= s_.2) /\ (y ≠ s_.2) /\ (s_.2 ≠ y) /\ (Below w.heap.size w w')) ?_ ?_
   rotate_left
   ·intro bV
    refine join_ (σ := Value) 2 #[true, true, true, true, true, true, true, true, true, true, true, true, true, true, true, true, true, false, false] (fun s_ => [(37, .int .i64 J), (41, s_), (42, .agg #[.int .i64 (wrap64 (bt a0 0)), .int .i64 J, .int .i64 (wrap64 (bt a0 1)), .int .i64 (wrap64 (bt a0 2)), .string (a0.extract 7 ((wrap64 (7 + (wrap64 (bt a0 4)))) : Int).toNat), s_])]) (fun s_ w' => (Kd.R k84 84 w' w.heap.size (fun _ => True) s_ aA) /\ (w'.heap[y]? = some (.cells #[.int .i64 0, .int .i64 0, .int .i64 0, .int .i64 0, .string (⟨#[]⟩ : ByteArray), .slice none 0 0] 41 (0, 0))) /\ (Below w.heap.size w w')) ?_ ?_
    rotate_left
    ·intro cS
     refine join_ (σ := Nat) 3 #[true, true, true, true, true, true, true, true, true, true, true, true, true, true, true, false, false, true, false] (fun s_ => [(37, .int .i64 J), (5, .pointer (some ⟨s_, 0, none⟩))]) (fun s_ w' => (w'.heap[y]? = some (.cells #[.int .i64 0, .int .i64 0, .int .i64 0, .int .i64 0, .string (⟨#[]⟩ : ByteArray), .slice none 0 0] 41 (0, 0))) /\ (w'.heap[s_]? = some (.cells #[.int .i64 0, .int .i64 0, .int .i64 0, .int .i64 0, .string (⟨#[]⟩ : ByteArray), .slice none 0 0] 41 (0, 0))) /\ (w.heap.size <= s_) /\ (w.heap.size <= s_) /\ (y ≠ s_) /\ (s_ ≠ y) /\ (Below w.heap.size w w')) ?_ ?_
     rotate_left
     ·intro cT
      refine join_ (σ := Value × Nat) 3 #[true, true, true, true, true, true, true, true, true, true, true, false, true, true, true, true, false, true, false] (fun s_ => [(41, s_.1), (5, .pointer (some ⟨s_.2, 0, none⟩))]) (fun s_ w' => (Kd.R k84 84 w' w.heap.size (fun _ => True) s_.1 aA) /\ (w'.heap[y]? = some (.cells #[.int .i64 0, .int .i64 0, .int .i64 0, .int .i64 0, .string (⟨#[]⟩ : ByteArray), .slice none 0 0] 41 (0, 0))) /\ (w'.heap[s_.2]? = some (.cells #[.int .i64 0, .int .i64 0, .int .i64 0, .int .i64 0, .string (⟨#[]⟩ : ByteArray), .slice none 0 0] 41 (0, 0))) /\ (w.heap.size <= s_.2) /\ (w.heap.size <= s_.2) /\ (y ≠ s_.2) /\ (s_.2 ≠ y) /\ (Below w.heap.size w w')) ?_ ?_
      rotate_left
      ·intro cU
       refine join_ (σ := Unit) 4 #[true, true, true, true, true, true, true, true, true, true, true, true, true, true, true, false, false, false, false] (fun s_ => [(37, .int .i64 J)]) (fun s_ w' => (w'.heap[y]? = some (.cells #[.int .i64 0, .int .i64 0, .int .i64 0, .int .i64 0, .string (⟨#[]⟩ : ByteArray), .slice none 0 0] 41 (0, 0))) /\ (Below w.heap.size w w')) ?_ ?_
       rotate_left
       ·intro dL
        refine join_ (σ := Value) 4 #[true, true, true, true, true, true, true, true, true, true, true, false, true, true, true, true, false, false, false] (fun s_ => [(41, s_)]) (fun s_ w' => (Kd.R k84 84 w' w.heap.size (fun _ => True) s_ aA) /\ (w'.heap[y]? = some (.cells #[.int .i64 0, .int .i64 0, .int .i64 0, .int .i64 0, .string (⟨#[]⟩ : ByteArray), .slice none 0 0] 41 (0, 0))) /\ (Below w.heap.size w w')) ?_ ?_
        rotate_left
        ·intro dM
         refine join_ (σ := Nat) 4 #[true, true, true, true, true, true, true, true, true, true, true, false, true, true, true, false, false, true, false] (fun s_ => [(5, .pointer (some ⟨s_, 0, none⟩))]) (fun s_ w' => (w'.heap[y]? = some (.cells #[.int .i64 0, .int .i64 0, .int .i64 0, .int .i64 0, .string (⟨#[]⟩ : ByteArray), .slice none 0 0] 41 (0, 0))) /\ (w'.heap[s_]? = some (.cells #[.int .i64 0, .int .i64 0, .int .i64 0, .int .i64 0, .string (⟨#[]⟩ : ByteArray), .slice none 0 0] 41 (0, 0))) /\ (w.heap.size <= s_) /\ (w.heap.size <= s_) /\ (y ≠ s_) /\ (s_ ≠ y) /\ (Below w.heap.size w w')) ?_ ?_
         rotate_left
         ·intro dN
          refine three_ (i := 11) (j := 15) (k := 17) (Ni := some 37) (Nj := some 41) (Nk := some 5) #[true, true, true, true, true, true, true, true, true, true, true, true, true, true, true, false, false, false, false] #[true, true, true, true, true, true, true, true, true, true, true, false, true, true, true, true, false, false, false] #[true, true, true, true, true, true, true, true, true, true, true, false, true, true, true, false, false, true, false] rfl rfl rfl rfl rfl rfl (three_of HT_.out (Z16)) (Z68) (Z68) (Z68) (fun K hK => ?_) (fun K hK => ?_) (fun K hK => ?_)
          ·skip
           refine fl func110 (Z16) rfl #[.string (a0.extract 5 7)] (Z96) rfl rfl (Z2) ?_
           with_reducible refine (cr.calls a5 (a0.extract 5 7) J _ bN.out).mono ?_
           rintro e w' ⟨rfl, ⟨nd, rfl⟩⟩
           refine ⟨_, rfl, ?_⟩
           refine hK.out _ _ trivial (fun hHeld => ?_)
           clear hK K
           refine nB 37 ?_
           exact norm_ (Z32) (dL () _ ⟨(Z17), (Z21)⟩)
          ·skip
           refine Kd.R_lit_step k84 _ 84 ?hg (N := 41) ?hd (xs := ([] : List (S84))) (inner := []) (ok := fun _ => True) (okp := fun _ => True) ?hr ?hp (fun _ hk => hk) trivial (bi _ _) (bj _) (fg) ?_; (case hd => rfl); (case hg => rfl); (case hr => first | (go_simp; done) | (go_simp; rfl)); (case hp => exact (fc.none _ _))
           intro aE bO bE hb hg_ hnew_
           clear hg_ hnew_
           (first | rw [← a2.out] at bE | (simp only [Int.reduceToNat] at bE; rw [← a2.out] at bE))
           have HO214 := aM (Kd.R_lower bE (ct (Z21)))
           replace BK210 := aM (kB BK210 (Z17) hb)
           replace HB := aM (ae (Z21) hb)
           clear hb bE
           refine hK.out _ _ trivial (fun hHeld => ?_)
           clear hK K
           refine nB 41 ?_
           exact norm_ (Z32) (dM (aE) _ ⟨(Z75), (Z17), (Z21)⟩)
          skip
          refine box_step ?hg (N := 5) ?hd (cs := #[.int .i64 0, .int .i64 0, .int .i64 0, .int .i64 0, .string (⟨#[]⟩ : ByteArray), .slice none 0 0]) (t := 41) ?hr ?_; (case hd => rfl); (case hg => rfl); (case hr => first | (go_simp; done) | (go_simp; rfl))
          intro D hg bO hbox hb
          have BK215 := aM (hbox)
          have aC := aM ((szE w hg (Z21)))
          have GE215 := aM ((szE w hg (Z21)))
          replace HB := aM (ae (Z21) hb)
          have M := aM ((nL BK210 hg (Z17)))
          have s := aM ((nG BK210 hg (Z17)))
          replace BK210 := aM (kB BK210 (Z17) hb)
          clear hb hbox hg
          refine hK.out _ _ trivial (fun hHeld => ?_)
          clear hK K
          refine nB 5 ?_
          exact norm_ (Z32) (dN (D) _ ⟨(Z17), (Z42), aC.out, GE215.out, M.out, s.out, (Z11)⟩)
         skip
         rintro D aY ⟨h0_, h1_, h2_, h3_, h4_, h5_, h6_⟩
         have n0_ : ap (aY.heap[y]? = some (.cells #[.int .i64 0, .int .i64 0, .int .i64 0, .int .i64 0, .string (⟨#[]⟩ : ByteArray), .slice none 0 0] 41 (0, 0))) := ⟨h0_⟩
         have n1_ : ap (aY.heap[D]? = some (.cells #[.int .i64 0, .int .i64 0, .int .i64 0, .int .i64 0, .string (⟨#[]⟩ : ByteArray), .slice none 0 0] 41 (0, 0))) := ⟨h1_⟩
         have n2_ : ap (w.heap.size <= D) := ⟨h2_⟩
         have n3_ : ap (w.heap.size <= D) := ⟨h3_⟩
         have n4_ : ap (y ≠ D) := ⟨h4_⟩
         have n5_ : ap (D ≠ y) := ⟨h5_⟩
         have n6_ : ap (Below w.heap.size w aY) := ⟨h6_⟩
         clear BK210
         clear HB
         clear h0_ h1_ h2_ h3_ h4_ h5_ h6_
         have BK210 := n0_
         have BK215 := n1_
         have aC := n2_
         have GE215 := n3_
         have M := n4_
         have s := n5_
         have HB := n6_
         clear n0_ n1_ n2_ n3_ n4_ n5_ n6_
         have hHeld := trivial
         refine norm_ (a' := ?_) ?_ ?_
         rotate_left
         ·simp only [putAll, Act.put, List.setIfInBounds_toArray, List.set_cons_zero, List.set_cons_succ]
          rfl
         refine two_ (i := 11) (j := 15) (Ni := some 37) (Nj := some 41) #[true, true, true, true, true, true, true, true, true, true, true, true, true, true, true, false, false, true, false] #[true, true, true, true, true, true, true, true, true, true, true, false, true, true, true, true, false, true, false] rfl rfl rfl rfl (two_of HT_.out (Z16)) (Z68) (Z68) (fun K hK => ?_) (fun K hK => ?_)
         ·skip
          refine fl func110 (Z16) rfl #[.string (a0.extract 5 7)] (Z96) rfl rfl (Z2) ?_
          with_reducible refine (cr.calls a5 (a0.extract 5 7) J _ bN.out).mono ?_
          rintro e w' ⟨rfl, ⟨nd, rfl⟩⟩
          refine ⟨_, rfl, ?_⟩
          refine hK.out _ _ trivial (fun hHeld => ?_)
          clear hK K
          refine nB 37 ?_
          exact norm_ (Z32) (cT (D) _ ⟨(Z17), (Z42), aC.out, GE215.out, M.out, s.out, (Z11)⟩)
         skip
         refine Kd.R_lit_step k84 _ 84 ?hg (N := 41) ?hd (xs := ([] : List (S84))) (inner := []) (ok := fun _ => True) (okp := fun _ => True) ?hr ?hp (fun _ hk => hk) trivial (bi _ _) (bj _) (fg) ?_; (case hd => rfl); (case hg => rfl); (case hr => first | (go_simp; done) | (go_simp; rfl)); (case hp => exact (fc.none _ _))
         intro aE bF aH hb hg_ hnew_
         clear hg_ hnew_
         (first | rw [← a2.out] at aH | (simp only [Int.reduceToNat] at aH; rw [← a2.out] at aH))
         have HO214 := aM (Kd.R_lower aH (ct (Z11)))
         replace BK210 := aM (kB BK210 (Z17) hb)
         replace BK215 := aM (kB BK215 (Z42) hb)
         replace HB := aM (ae (Z11) hb)
         clear hb aH
         refine hK.out _ _ trivial (fun hHeld => ?_)
         clear hK K
         refine nB 41 ?_
         exact norm_ (Z32) (cU (aE, D) _ ⟨(Z75), (Z17), (Z42), aC.out, GE215.out, M.out, s.out, (Z11)⟩)
        skip
        rintro aE bF ⟨h0_, h1_, h2_⟩
        have n0_ : ap (Kd.R k84 84 bF w.heap.size (fun _ => True) aE aA) := ⟨h0_⟩
        have n1_ : ap (bF.heap[y]? = some (.cells #[.int .i64 0, .int .i64 0, .int .i64 0, .int .i64 0, .string (⟨#[]⟩ : ByteArray), .slice none 0 0] 41 (0, 0))) := ⟨h1_⟩
        have n2_ : ap (Below w.heap.size w bF) := ⟨h2_⟩
        clear BK210
        clear HB
        clear h0_ h1_ h2_
        have HO214 := n0_
        have BK210 := n1_
        have HB := n2_
        clear n0_ n1_ n2_
        have hHeld := trivial
        refine norm_ (a' := ?_) ?_ ?_
        rotate_left
        ·simp only [putAll, Act.put, List.setIfInBounds_toArray, List.set_cons_zero, List.set_cons_succ]
         rfl
        refine two_ (i := 11) (j := 17) (Ni := some 37) (Nj := some 5) #[true, true, true, true, true, true, true, true, true, true, true, true, true, true, true, true, false, false, false] #[true, true, true, true, true, true, true, true, true, true, true, false, true, true, true, true, false, true, false] rfl rfl rfl rfl (two_of HT_.out (Z16)) (Z68) (Z68) (fun K hK => ?_) (fun K hK => ?_)
        ·skip
         refine fl func110 (Z16) rfl #[.string (a0.extract 5 7)] (Z96) rfl rfl (Z2) ?_
         with_reducible refine (cr.calls a5 (a0.extract 5 7) J _ bN.out).mono ?_
         rintro e w' ⟨rfl, ⟨nd, rfl⟩⟩
         refine ⟨_, rfl, ?_⟩
         obtain ⟨bW, bX, bG⟩ := Kd.R_slice HO214.out
         (first | subst bG | (injection bG with f1_ f2_ f3_; have f4_ := f1_.symm; have f5_ := f3_.symm; clear f1_ f2_ f3_; subst f4_; subst f5_))
         refine hK.out _ _ trivial (fun hHeld => ?_)
         clear hK K
         refine nB 37 ?_
         refine pA 16 42 ?_
         exact norm_ (Z32) (cS (.slice bW aA.length bX) _ ⟨(Z75), (Z17), (Z21)⟩)
        skip
        refine box_step ?hg (N := 5) ?hd (cs := #[.int .i64 0, .int .i64 0, .int .i64 0, .int .i64 0, .string (⟨#[]⟩ : ByteArray), .slice none 0 0]) (t := 41) ?hr ?_; (case hd => rfl); (case hg => rfl); (case hr => first | (go_simp; done) | (go_simp; rfl))
        intro D hg aZ hbox hb
        replace HO214 := aM (Kd.R_below (Z75) hb)
        have BK215 := aM (hbox)
        have aC := aM ((szE w hg (Z21)))
        have GE215 := aM ((szE w hg (Z21)))
        replace HB := aM (ae (Z21) hb)
        have M := aM ((nL BK210 hg (Z17)))
        have s := aM ((nG BK210 hg (Z17)))
        replace BK210 := aM (kB BK210 (Z17) hb)
        clear hb hbox hg
        refine hK.out _ _ trivial (fun hHeld => ?_)
        clear hK K
        refine nB 5 ?_
        exact norm_ (Z32) (cU (aE, D) _ ⟨(Z75), (Z17), (Z42), aC.out, GE215.out, M.out, s.out, (Z11)⟩)
       skip
       rintro _ bO ⟨h0_, h1_⟩
       have n0_ : ap (bO.heap[y]? = some (.cells #[.int .i64 0, .int .i64 0, .int .i64 0, .int .i64 0, .string (⟨#[]⟩ : ByteArray), .slice none 0 0] 41 (0, 0))) := ⟨h0_⟩
       have n1_ : ap (Below w.heap.size w bO) := ⟨h1_⟩
       clear BK210
       clear HB
       clear h0_ h1_
       have BK210 := n0_
       have HB := n1_
       clear n0_ n1_
       have hHeld := trivial
       refine norm_ (a' := ?_) ?_ ?_
       rotate_left
       ·simp only [putAll, Act.put, List.setIfInBounds_toArray, List.set_cons_zero, List.set_cons_succ]
        rfl
       refine two_ (i := 15) (j := 17) (Ni := some 41) (Nj := some 5) #[true, true, true, true, true, true, true, true, true, true, true, true, true, true, true, true, false, false, false] #[true, true, true, true, true, true, true, true, true, true, true, true, true, true, true, false, false, true, false] rfl rfl rfl rfl (two_of HT_.out (Z16)) (Z68) (Z68) (fun K hK => ?_) (fun K hK => ?_)
       ·skip
        refine Kd.R_lit_step k84 _ 84 ?hg (N := 41) ?hd (xs := ([] : List (S84))) (inner := []) (ok := fun _ => True) (okp := fun _ => True) ?hr ?hp (fun _ hk => hk) trivial (bi _ _) (bj _) (fg) ?_; (case hd => rfl); (case hg => rfl); (case hr => first | (go_simp; done) | (go_simp; rfl)); (case hp => exact (fc.none _ _))
        intro aE aY bH hb hg_ hnew_
        clear hg_ hnew_
        (first | rw [← a2.out] at bH | (simp only [Int.reduceToNat] at bH; rw [← a2.out] at bH))
        have HO214 := aM (Kd.R_lower bH (ct (Z21)))
        replace BK210 := aM (kB BK210 (Z17) hb)
        replace HB := aM (ae (Z21) hb)
        clear hb bH
        obtain ⟨bW, bX, bG⟩ := Kd.R_slice HO214.out
        (first | subst bG | (injection bG with f1_ f2_ f3_; have f4_ := f1_.symm; have f5_ := f3_.symm; clear f1_ f2_ f3_; subst f4_; subst f5_))
        refine hK.out _ _ trivial (fun hHeld => ?_)
        clear hK K
        refine nB 41 ?_
        refine pA 16 42 ?_
        exact norm_ (Z32) (cS (.slice bW aA.length bX) _ ⟨(Z75), (Z17), (Z21)⟩)
       skip
       refine box_step ?hg (N := 5) ?hd (cs := #[.int .i64 0, .int .i64 0, .int .i64 0, .int .i64 0, .string (⟨#[]⟩ : ByteArray), .slice none 0 0]) (t := 41) ?hr ?_; (case hd => rfl); (case hg => rfl); (case hr => first | (go_simp; done) | (go_simp; rfl))
       intro D hg aY hbox hb
       have BK215 := aM (hbox)
       have aC := aM ((szE w hg (Z21)))
       have GE215 := aM ((szE w hg (Z21)))
       replace HB := aM (ae (Z21) hb)
       have M := aM ((nL BK210 hg (Z17)))
       have s := aM ((nG BK210 hg (Z17)))
       replace BK210 := aM (kB BK210 (Z17) hb)
       clear hb hbox hg
       refine hK.out _ _ trivial (fun hHeld => ?_)
       clear hK K
       refine nB 5 ?_
       exact norm_ (Z32) (cT (D) _ ⟨(Z17), (Z42), aC.out, GE215.out, M.out, s.out, (Z11)⟩)
      skip
      rintro ⟨aE, D⟩ aZ ⟨h0_, h1_, h2_, h3_, h4_, h5_, h6_, h7_⟩
      have n0_ : ap (Kd.R k84 84 aZ w.heap.size (fun _ => True) aE aA) := ⟨h0_⟩
      have n1_ : ap (aZ.heap[y]? = some (.cells #[.int .i64 0, .int .i64 0, .int .i64 0, .int .i64 0, .string (⟨#[]⟩ : ByteArray), .slice none 0 0] 41 (0, 0))) := ⟨h1_⟩
      have n2_ : ap (aZ.heap[D]? = some (.cells #[.int .i64 0, .int .i64 0, .int .i64 0, .int .i64 0, .string (⟨#[]⟩ : ByteArray), .slice none 0 0] 41 (0, 0))) := ⟨h2_⟩
      have n3_ : ap (w.heap.size <= D) := ⟨h3_⟩
      have n4_ : ap (w.heap.size <= D) := ⟨h4_⟩
      have n5_ : ap (y ≠ D) := ⟨h5_⟩
      have n6_ : ap (D ≠ y) := ⟨h6_⟩
      have n7_ : ap (Below w.heap.size w aZ) := ⟨h7_⟩
      clear BK210
      clear HB
      clear h0_ h1_ h2_ h3_ h4_ h5_ h6_ h7_
      have HO214 := n0_
      have BK210 := n1_
      have BK215 := n2_
      have aC := n3_
      have GE215 := n4_
      have M := n5_
      have s := n6_
      have HB := n7_
      clear n0_ n1_ n2_ n3_ n4_ n5_ n6_ n7_
      have hHeld := trivial
      refine norm_ (a' := ?_) ?_ ?_
      rotate_left
      ·simp only [putAll, Act.put, List.setIfInBounds_toArray, List.set_cons_zero, List.set_cons_succ]
       rfl
      refine oA 11 37 (fun K hK => ?_)
      refine fl func110 (Z16) rfl #[.string (a0.extract 5 7)] (Z96) rfl rfl (Z2) ?_
      with_reducible refine (cr.calls a5 (a0.extract 5 7) J _ bN.out).mono ?_
      rintro e w' ⟨rfl, ⟨nd, rfl⟩⟩
      refine ⟨_, rfl, ?_⟩
      obtain ⟨bI, bJ, a3⟩ := Kd.R_slice HO214.out
      (first | subst a3 | (injection a3 with f1_ f2_ f3_; have f4_ := f1_.symm; have f5_ := f3_.symm; clear f1_ f2_ f3_; subst f4_; subst f5_))
      refine hK.out _ _ trivial (fun hHeld => ?_)
      clear hK K
      refine nB 37 ?_
      refine pA 16 42 ?_
      exact norm_ (Z32) (bV (.slice bI aA.length bJ, D) _ ⟨(Z75), (Z17), (Z42), aC.out, GE215.out, M.out, s.out, (Z11)⟩)
     skip
     rintro D aY ⟨h0_, h1_, h2_, h3_, h4_, h5_, h6_⟩
     have n0_ : ap (aY.heap[y]? = some (.cells #[.int .i64 0, .int .i64 0, .int .i64 0, .int .i64 0, .string (⟨#[]⟩ : ByteArray), .slice none 0 0] 41 (0, 0))) := ⟨h0_⟩
     have n1_ : ap (aY.heap[D]? = some (.cells #[.int .i64 0, .int .i64 0, .int .i64 0, .int .i64 0, .string (⟨#[]⟩ : ByteArray), .slice none 0 0] 41 (0, 0))) := ⟨h1_⟩
     have n2_ : ap (w.heap.size <= D) := ⟨h2_⟩
     have n3_ : ap (w.heap.size <= D) := ⟨h3_⟩
     have n4_ : ap (y ≠ D) := ⟨h4_⟩
     have n5_ : ap (D ≠ y) := ⟨h5_⟩
     have n6_ : ap (Below w.heap.size w aY) := ⟨h6_⟩
     clear BK210
     clear HB
     clear h0_ h1_ h2_ h3_ h4_ h5_ h6_
     have BK210 := n0_
     have BK215 := n1_
     have aC := n2_
     have GE215 := n3_
     have M := n4_
     have s := n5_
     have HB := n6_
     clear n0_ n1_ n2_ n3_ n4_ n5_ n6_
     have hHeld := trivial
     refine norm_ (a' := ?_) ?_ ?_
     rotate_left
     ·simp only [putAll, Act.put, List.setIfInBounds_toArray, List.set_cons_zero, List.set_cons_succ]
      rfl
     refine oA 15 41 (fun K hK => ?_)
     refine Kd.R_lit_step k84 _ 84 ?hg (N := 41) ?hd (xs := ([] : List (S84))) (inner := []) (ok := fun _ => True) (okp := fun _ => True) ?hr ?hp (fun _ hk => hk) trivial (bi _ _) (bj _) (fg) ?_; (case hd => rfl); (case hg => rfl); (case hr => first | (go_simp; done) | (go_simp; rfl)); (case hp => exact (fc.none _ _))
     intro aE bF aH hb hg_ hnew_
     clear hg_ hnew_
     (first | rw [← a2.out] at aH | (simp only [Int.reduceToNat] at aH; rw [← a2.out] at aH))
     have HO214 := aM (Kd.R_lower aH (ct (Z11)))
     replace BK210 := aM (kB BK210 (Z17) hb)
     replace BK215 := aM (kB BK215 (Z42) hb)
     replace HB := aM (ae (Z11) hb)
     clear hb aH
     obtain ⟨bI, bJ, a3⟩ := Kd.R_slice HO214.out
     (first | subst a3 | (injection a3 with f1_ f2_ f3_; have f4_ := f1_.symm; have f5_ := f3_.symm; clear f1_ f2_ f3_; subst f4_; subst f5_))
     refine hK.out _ _ trivial (fun hHeld => ?_)
     clear hK K
     refine nB 41 ?_
     refine pA 16 42 ?_
     exact norm_ (Z32) (bV (.slice bI aA.length bJ, D) _ ⟨(Z75), (Z17), (Z42), aC.out, GE215.out, M.out, s.out, (Z11)⟩)
    skip
    rintro aE aZ ⟨h0_, h1_, h2_⟩
    have n0_ : ap (Kd.R k84 84 aZ w.heap.size (fun _ => True) aE aA) := ⟨h0_⟩
    have n1_ : ap (aZ.heap[y]? = some (.cells #[.int .i64 0, .int .i64 0, .int .i64 0, .int .i64 0, .string (⟨#[]⟩ : ByteArray), .slice none 0 0] 41 (0, 0))) := ⟨h1_⟩
    have n2_ : ap (Below w.heap.size w aZ) := ⟨h2_⟩
    clear BK210
    clear HB
    clear h0_ h1_ h2_
    have HO214 := n0_
    have BK210 := n1_
    have HB := n2_
    clear n0_ n1_ n2_
    have hHeld := trivial
    obtain ⟨bI, bJ, a3⟩ := Kd.R_slice HO214.out
    (first | subst a3 | (injection a3 with f1_ f2_ f3_; have f4_ := f1_.symm; have f5_ := f3_.symm; clear f1_ f2_ f3_; subst f4_; subst f5_))
    refine norm_ (a' := ?_) ?_ ?_
    rotate_left
    ·simp only [putAll, Act.put, List.setIfInBounds_toArray, List.set_cons_zero, List.set_cons_succ]
     rfl
    refine oA 17 5 (fun K hK => ?_)
    refine box_step ?hg (N := 5) ?hd (cs := #[.int .i64 0, .int .i64 0, .int .i64 0, .int .i64 0, .string (⟨#[]⟩ : ByteArray), .slice none 0 0]) (t := 41) ?hr ?_; (case hd => rfl); (case hg => rfl); (case hr => first | (go_simp; done) | (go_simp; rfl))
    intro D hg fH hbox hb
    replace HO214 := aM (Kd.R_below (Z75) hb)
    have BK215 := aM (hbox)
    have aC := aM ((szE w hg (Z21)))
    have GE215 := aM ((szE w hg (Z21)))
    replace HB := aM (ae (Z21) hb)
    have M := aM ((nL BK210 hg (Z17)))
    have s := aM ((nG BK210 hg (Z17)))
    replace BK210 := aM (kB BK210 (Z17) hb)
    clear hb hbox hg
    refine hK.out _ _ trivial (fun hHeld => ?_)
    clear hK K
    refine nB 5 ?_
    exact norm_ (Z32) (bV (.slice bI aA.length bJ, D) _ ⟨(Z75), (Z17), (Z42), aC.out, GE215.out, M.out, s.out, (Z11)⟩)
   rintro ⟨aE, D⟩ aN ⟨h0_, h1_, h2_, h3_, h4_, h5_, h6_, h7_⟩
   have n0_ : ap (Kd.R k84 84 aN w.heap.size (fun _ => True) aE aA) := ⟨h0_⟩
   have n1_ : ap (aN.heap[y]? = some (.cells #[.int .i64 0, .int .i64 0, .int .i64 0, .int .i64 0, .string (⟨#[]⟩ : ByteArray), .slice none 0 0] 41 (0, 0))) := ⟨h1_⟩
   have n2_ : ap (aN.heap[D]? = some (.cells #[.int .i64 0, .int .i64 0, .int .i64 0, .int .i64 0, .string (⟨#[]⟩ : ByteArray), .slice none 0 0] 41 (0, 0))) := ⟨h2_⟩
   have n3_ : ap (w.heap.size <= D) := ⟨h3_⟩
   have n4_ : ap (w.heap.size <= D) := ⟨h4_⟩
   have n5_ : ap (y ≠ D) := ⟨h5_⟩
   have n6_ : ap (D ≠ y) := ⟨h6_⟩
   have n7_ : ap (Below w.heap.size w aN) := ⟨h7_⟩
   clear BK210
   clear HB
   clear h0_ h1_ h2_ h3_ h4_ h5_ h6_ h7_
   have HO214 := n0_
   have BK210 := n1_
   have BK215 := n2_
   have aC := n3_
   have GE215 := n4_
   have M := n5_
   have s := n6_
   have HB := n7_
   clear n0_ n1_ n2_ n3_ n4_ n5_ n6_ n7_
   have hHeld := trivial
   obtain ⟨dO, dP, cV⟩ := Kd.R_slice HO214.out
   (first | subst cV | (injection cV with f1_ f2_ f3_; have f4_ := f1_.symm; have f5_ := f3_.symm; clear f1_ f2_ f3_; subst f4_; subst f5_))
   refine norm_ (a' := ?_) ?_ ?_
   rotate_left
   ·simp only [putAll, Act.put, List.setIfInBounds_toArray, List.set_cons_zero, List.set_cons_succ]
    rfl
   refine one_ (i := 18) (N := none) #[true, true, true, true, true, true, true, true, true, true, true, true, true, true, true, true, true, true, true] rfl rfl (one_of HT_.out (Z16)) (Z68) (fun K hK => ?_)
   have fJ := cl1 BK215.out
   have fK := am BK215.out 0
   have fL := M.out
   have fM := s.out
   obtain ⟨-, fN⟩ := cl2 BK215.out
   have fO := am BK215.out 1
   have fP := M.out
   have fQ := s.out
   obtain ⟨-, -, fR⟩ := cl3 BK215.out
   have fS := am BK215.out 2
   have fU := M.out
   have fV := s.out
   obtain ⟨-, -, -, fW⟩ := cl4 BK215.out
   have fX := am BK215.out 3
   have fY := M.out
   have fZ := s.out
   obtain ⟨-, -, -, -, f4⟩ := cl5 BK215.out
   have f5 := am BK215.out 4
   have f6 := M.out
   have f7 := s.out
   obtain ⟨-, -, -, -, -, f8⟩ := cl6 BK215.out
   have f9 := am BK215.out 5
   have gA := M.out
   have gB := s.out
   refine skip_ (w1 := ?_) (Z96) rfl ?_ ?_
   rotate_left
   ·go_simp
    rfl
   refine hK.out _ _ trivial (fun hHeld => ?_)
   clear hK K
   refine gh (ei HT_.out (Z16)) ?_
   have bY : 0 <= (3 : Int) := (Z31)
   have q23 : 3 < a0.size := (by have : (3 : Int) < (a0.size : Int) := dT (Z4); omega)
   have dQ : ∀ h : 3 < a0.size, ((a0[3]'h).toNat : Int) = bt a0 3 := bt_at a0 3
   clear bY
   have dR : (3 < (a0.size : Int)) = True := bh (dT (Z4))
   replace q23 := bh q23
   try go_wp2
   go_loopg [4, 6] a5 (fun kq v4 v6 w' => ∃ (I : Int) (aI : Int) (x211000_2 : Int) (x211001_2 : Int) (x211002_2 : Int) (x211003_2 : Int) (x211004_2 : ByteArray) (Z : List (S84)) (u216005 : Value), v4 = .int .i64 I /\ v6 = .int .i64 aI /\ ap (bz.l0 kq a0 I aI (wrap64 (bt a0 0)) J (wrap64 (bt a0 1)) (wrap64 (bt a0 2)) (a0.extract 7 ((wrap64 (7 + (wrap64 (bt a0 4)))) : Int).toNat) Z = some (r1, r2, r3, r4, r5, r6, r7)) /\ ap (kq <= a5) /\ ap (Kd.R k84 84 w' w.heap.size (fun _ => True) u216005 Z) /\ ap (w'.heap[y]? = some (.cells #[.int .i64 x211000_2, .int .i64 x211001_2, .int .i64 x211002_2, .int .i64 x211003_2, .string x211004_2, (.slice none 0 0)] 41 (0, 0))) /\ ap (w'.heap[D]? = some (.cells #[.int .i64 (wrap64 (bt a0 0)), .int .i64 J, .int .i64 (wrap64 (bt a0 1)), .int .i64 (wrap64 (bt a0 2)), .string (a0.extract 7 ((wrap64 (7 + (wrap64 (bt a0 4)))) : Int).toNat), u216005] 41 (0, 0))) /\ ap (Below w.heap.size w w'))
   case atStart => exact ⟨(wrap64 (7 + (wrap64 (bt a0 4)))), (wrap64 (bt a0 3)), (0), (0), (0), (0), ((⟨#[]⟩ : ByteArray)), (aA), (.slice dO aA.length dP), (Z3), (Z3), H', ⟨bj _⟩, ⟨by (with_reducible repeat (first | apply Kd.R_alloc | apply Kd.R_drewN | apply Kd.R_drew)); exact Kd.R_mono (rF 5 (rF 4 (rF 3 (rF 2 (rF 1 (rF 0 (Kd.R_types HO214.out BK215.out (Z68)))))))) (fun _ hk => trivial)⟩, ⟨zB⟩, ⟨by (with_reducible repeat (first | refine aj ?_ _ | refine ag ?_ | refine ah ?_ _)); refine ch (cs := #[.int .i64 (wrap64 (bt a0 0)), .int .i64 J, .int .i64 (wrap64 (bt a0 1)), .int .i64 (wrap64 (bt a0 2)), .string (a0.extract 7 ((wrap64 (7 + (wrap64 (bt a0 4)))) : Int).toNat), .slice none 0 0]) ?_ 5 _ rfl; (with_reducible repeat (first | refine aj ?_ _ | refine ag ?_ | refine ah ?_ _)); refine ch (cs := #[.int .i64 (wrap64 (bt a0 0)), .int .i64 J, .int .i64 (wrap64 (bt a0 1)), .int .i64 (wrap64 (bt a0 2)), .string (⟨#[]⟩ : ByteArray), .slice none 0 0]) ?_ 4 _ rfl; (with_reducible repeat (first | refine aj ?_ _ | refine ag ?_ | refine ah ?_ _)); refine ch (cs := #[.int .i64 (wrap64 (bt a0 0)), .int .i64 J, .int .i64 (wrap64 (bt a0 1)), .int .i64 0, .string (⟨#[]⟩ : ByteArray), .slice none 0 0]) ?_ 3 _ rfl; (with_reducible repeat (first | refine aj ?_ _ | refine ag ?_ | refine ah ?_ _)); refine ch (cs := #[.int .i64 (wrap64 (bt a0 0)), .int .i64 J, .int .i64 0, .int .i64 0, .string (⟨#[]⟩ : ByteArray), .slice none 0 0]) ?_ 2 _ rfl; (with_reducible repeat (first | refine aj ?_ _ | refine ag ?_ | refine ah ?_ _)); refine ch (cs := #[.int .i64 (wrap64 (bt a0 0)), .int .i64 0, .int .i64 0, .int .i64 0, .string (⟨#[]⟩ : ByteArray), .slice none 0 0]) ?_ 1 _ rfl; (with_reducible repeat (first | refine aj ?_ _ | refine ag ?_ | refine ah ?_ _)); refine ch (cs := #[.int .i64 0, .int .i64 0, .int .i64 0, .int .i64 0, .string (⟨#[]⟩ : ByteArray), .slice none 0 0]) ?_ 0 _ rfl; (with_reducible repeat (first | refine aj ?_ _ | refine ag ?_ | refine ah ?_ _)); exact BK215.out⟩, ⟨Z11⟩⟩
   case round =>
    clear H'
    (try clear bS); (try clear bY); (try clear q23); (try clear dQ); (try clear dR); (try clear bY); (try clear q23)
    obtain ⟨I, aI, x211000_2, x211001_2, x211002_2, x211003_2, x211004_2, Z, u216005, rfl, rfl, HA, HK2, HO_216005, BK210, BK215, HB⟩ := hrel
    cases gk with
    | zero => exact absurd HA.out (by simp [bz.l0])
    | succ k2 =>
     have H := HA.out
     clear HA
     simp only [bz.l0] at H
     by_cases a7 : aI > 0
     ·rw [if_pos a7] at H
      have dU : decide (0 < aI) = true := az a7
      clear a7
      by_cases a8 : (wrap64 (I + 4)) > (a0.size : Int)
      ·rw [if_pos a8] at H
       have cX : decide ((a0.size : Int) < (wrap64 (I + 4))) = true := az a8
       clear a8
       simp only [Option.some.injEq, Prod.mk.injEq] at H
       obtain ⟨rfl, rfl, rfl, rfl, rfl, rfl, rfl⟩ := H
       have gG := M.out
       have gI := s.out
       refine bD6 BK210 ?_
       intros
       go_wp2
       refine bodyPost_ret (fk rfl _ _ y 41 #[.int .i64 0, .int .i64 0, .int .i64 0, .int .i64 0, .string (⟨#[]⟩ : ByteArray), .slice none 0 0] (0, 0) _ rfl (Z27) underlying41 rfl (Z16)) rfl ?_
       exact ⟨_, Z1, Z105, Z11⟩
      rw [if_neg a8] at H
      have cX : decide ((a0.size : Int) < (wrap64 (I + 4))) = false := ba a8
      clear a8
      obtain ⟨bZ, H⟩ := ifS H
      have gJ := bh bZ
      have gK : decide (0 <= I) = true := az bZ
      clear bZ
      obtain ⟨b0, H⟩ := ifS H
      have dV := bh b0
      have dW : decide (I <= (wrap64 (I + 2))) = true := az b0
      obtain ⟨b1, H⟩ := ifS H
      have dX := bh b1
      have dY : decide ((wrap64 (I + 2)) <= (a0.size : Int)) = true := az b1
      obtain ⟨O, bK, H⟩ := cz H
      try dsimp only at H
      obtain ⟨aG, hji45⟩ : ∃ j_ : Int, (wrap64 (I + 2)) = j_ := ⟨_, rfl⟩
      replace H : (if 0 <= (aG) then (if (aG) <= (wrap64 (I + 4)) then (if (wrap64 (I + 4)) <= (a0.size : Int) then ((cr.f k2 (a0.extract ((aG) : Int).toNat ((wrap64 (I + 4)) : Int).toNat)).bind fun X => (if (wrap64 ((wrap64 ((wrap64 (I + 4)) + O)) + X)) > (a0.size : Int) then (some (0, 0, 0, 0, (⟨#[]⟩ : ByteArray), ([] : List (S84)), false)) else (if 0 <= (wrap64 (I + 4)) then (if (wrap64 (I + 4)) <= (wrap64 ((wrap64 (I + 4)) + O)) then (if (wrap64 ((wrap64 (I + 4)) + O)) <= (a0.size : Int) then (if 0 <= (wrap64 ((wrap64 (I + 4)) + O)) then (if (wrap64 ((wrap64 (I + 4)) + O)) <= (wrap64 ((wrap64 ((wrap64 (I + 4)) + O)) + X)) then (if (wrap64 ((wrap64 ((wrap64 (I + 4)) + O)) + X)) <= (a0.size : Int) then (if Z.length < 4398046511104 then (bz.l0 k2 a0 (wrap64 ((wrap64 (I + 4)) + (wrap64 (O + X)))) (wrap64 (aI - 1)) (wrap64 (bt a0 0)) J (wrap64 (bt a0 1)) (wrap64 (bt a0 2)) (a0.extract 7 ((wrap64 (7 + (wrap64 (bt a0 4)))) : Int).toNat) (Z ++ [(⟨a0.extract ((wrap64 (I + 4)) : Int).toNat ((wrap64 ((wrap64 (I + 4)) + O)) : Int).toNat, a0.extract ((wrap64 ((wrap64 (I + 4)) + O)) : Int).toNat ((wrap64 ((wrap64 ((wrap64 (I + 4)) + O)) + X)) : Int).toNat⟩ : S84)])) else (none)) else (none)) else (none)) else (none)) else (none)) else (none)) else (none)))) else (none)) else (none)) else (none)) = some (r1, r2, r3, r4, r5, r6, r7) := by first | (rw [hji45] at H; exact H) | (simp only [hji45] at H ⊢; exact H)
      (try rw [hji45] at dV)
      (try rw [hji45] at dW)
      (try rw [hji45] at b0)
      (try rw [hji45] at dX)
      (try rw [hji45] at dY)
      (try rw [hji45] at b1)
      (try rw [hji45] at bK)
      have hji45w : (IntKind.i64.wrap (I + 2)) = aG := (i64_w _).trans hji45
      obtain ⟨b2, H⟩ := ifS H
      have gP := bh b2
      have gQ : decide (0 <= (aG)) = true := az b2
      clear b2
      obtain ⟨b6, H⟩ := ifS H
      have dZ := bh b6
      have d0 : decide ((aG) <= (wrap64 (I + 4))) = true := az b6
      obtain ⟨b7, H⟩ := ifS H
      have d1 := bh b7
      have d2 : decide ((wrap64 (I + 4)) <= (a0.size : Int)) = true := az b7
      obtain ⟨X, bP, H⟩ := cz H
      try dsimp only at H
      by_cases a9 : (wrap64 ((wrap64 ((wrap64 (I + 4)) + O)) + X)) > (a0.size : Int)
      ·rw [if_pos a9] at H
       have cY : decide ((a0.size : Int) < (wrap64 ((wrap64 ((wrap64 (I + 4)) + O)) + X))) = true := az a9
       clear a9
       simp only [Option.some.injEq, Prod.mk.injEq] at H
       obtain ⟨rfl, rfl, rfl, rfl, rfl, rfl, rfl⟩ := H
       go_wp2_with (first | ((with_reducible refine gC 110 ?_); refine gL 61 func110 #[.string (a0.extract (I : Int).toNat ((aG) : Int).toNat)] ?_; (with_reducible refine (cr.calls k2 (a0.extract (I : Int).toNat ((aG) : Int).toNat) O _ bK.out).mono ?_); rintro e w' ⟨rfl, ⟨nd, rfl⟩⟩; refine ⟨_, rfl, ?_⟩; (try (rw [drewN_self wr]; generalize hq_ : World.drewN wr _ = wr; have n0_ : ap (Kd.R k84 84 wr w.heap.size (fun _ => True) u216005 Z) := ⟨Z134⟩; have n1_ : ap (wr.heap[y]? = some (.cells #[.int .i64 x211000_2, .int .i64 x211001_2, .int .i64 x211002_2, .int .i64 x211003_2, .string x211004_2, .slice none 0 0] 41 (0, 0))) := ⟨Z127⟩; have n2_ : ap (wr.heap[D]? = some (.cells #[.int .i64 (wrap64 (bt a0 0)), .int .i64 J, .int .i64 (wrap64 (bt a0 1)), .int .i64 (wrap64 (bt a0 2)), .string (a0.extract 7 ((wrap64 (7 + (wrap64 (bt a0 4)))) : Int).toNat), u216005] 41 (0, 0))) := ⟨Z128⟩; have n3_ : ap (Below w.heap.size w wr) := ⟨Z84⟩; clear HO_216005 BK210 BK215 HB hq_; have HO_216005 := n0_; have BK210 := n1_; have BK215 := n2_; have HB := n3_; clear n0_ n1_ n2_ n3_))) | ((with_reducible refine gC 110 ?_); refine gL 68 func110 #[.string (a0.extract ((aG) : Int).toNat ((wrap64 (I + 4)) : Int).toNat)] ?_; (with_reducible refine (cr.calls k2 (a0.extract ((aG) : Int).toNat ((wrap64 (I + 4)) : Int).toNat) X _ bP.out).mono ?_); rintro e w' ⟨rfl, ⟨nd, rfl⟩⟩; refine ⟨_, rfl, ?_⟩; (try (rw [drewN_self wr]; generalize hq_ : World.drewN wr _ = wr; have n0_ : ap (Kd.R k84 84 wr w.heap.size (fun _ => True) u216005 Z) := ⟨Z134⟩; have n1_ : ap (wr.heap[y]? = some (.cells #[.int .i64 x211000_2, .int .i64 x211001_2, .int .i64 x211002_2, .int .i64 x211003_2, .string x211004_2, .slice none 0 0] 41 (0, 0))) := ⟨Z127⟩; have n2_ : ap (wr.heap[D]? = some (.cells #[.int .i64 (wrap64 (bt a0 0)), .int .i64 J, .int .i64 (wrap64 (bt a0 1)), .int .i64 (wrap64 (bt a0 2)), .string (a0.extract 7 ((wrap64 (7 + (wrap64 (bt a0 4)))) : Int).toNat), u216005] 41 (0, 0))) := ⟨Z128⟩; have n3_ : ap (Below w.heap.size w wr) := ⟨Z84⟩; clear HO_216005 BK210 BK215 HB hq_; have HO_216005 := n0_; have BK210 := n1_; have BK215 := n2_; have HB := n3_; clear n0_ n1_ n2_ n3_)); have gR := M.out; have gU := s.out; refine bD6 BK210 ?_; intros))
       refine bodyPost_ret (fk rfl _ _ y 41 #[.int .i64 0, .int .i64 0, .int .i64 0, .int .i64 0, .string (⟨#[]⟩ : ByteArray), .slice none 0 0] (0, 0) _ rfl (Z27) underlying41 rfl (Z16)) rfl ?_
       exact ⟨_, by first | rfl | (simp only [nil_beq, nil_bne]; rfl) | (simp [nil_beq, nil_bne]; done) | (simp [errW_none, errW_some] <;> rfl) | (simp only [← hji45]; first | rfl | (simp [errW_none, errW_some] <;> rfl)) | (simp [*, errW_none, errW_some] <;> rfl), Z105, Z11⟩
      rw [if_neg a9] at H
      have cY : decide ((a0.size : Int) < (wrap64 ((wrap64 ((wrap64 (I + 4)) + O)) + X))) = false := ba a9
      clear a9
      obtain ⟨U, aD⟩ : ∃ j_ : Int, (wrap64 (I + 4)) = j_ := ⟨_, rfl⟩
      replace H : (if 0 <= (U) then (if (U) <= (wrap64 ((U) + O)) then (if (wrap64 ((U) + O)) <= (a0.size : Int) then (if 0 <= (wrap64 ((U) + O)) then (if (wrap64 ((U) + O)) <= (wrap64 ((wrap64 ((U) + O)) + X)) then (if (wrap64 ((wrap64 ((U) + O)) + X)) <= (a0.size : Int) then (if Z.length < 4398046511104 then (bz.l0 k2 a0 (wrap64 ((U) + (wrap64 (O + X)))) (wrap64 (aI - 1)) (wrap64 (bt a0 0)) J (wrap64 (bt a0 1)) (wrap64 (bt a0 2)) (a0.extract 7 ((wrap64 (7 + (wrap64 (bt a0 4)))) : Int).toNat) (Z ++ [(⟨a0.extract ((U) : Int).toNat ((wrap64 ((U) + O)) : Int).toNat, a0.extract ((wrap64 ((U) + O)) : Int).toNat ((wrap64 ((wrap64 ((U) + O)) + X)) : Int).toNat⟩ : S84)])) else (none)) else (none)) else (none)) else (none)) else (none)) else (none)) else (none)) = some (r1, r2, r3, r4, r5, r6, r7) := by first | (rw [aD] at H; exact H) | (simp only [aD] at H ⊢; exact H)
      (try rw [aD] at cX)
      (try rw [aD] at dZ)
      (try rw [aD] at d0)
      (try rw [aD] at b6)
      (try rw [aD] at d1)
      (try rw [aD] at d2)
      (try rw [aD] at b7)
      (try rw [aD] at cY)
      (try rw [aD] at bK)
      (try rw [aD] at bP)
      have hji53w : (IntKind.i64.wrap (I + 4)) = U := (i64_w _).trans aD
      obtain ⟨b8, H⟩ := ifS H
      have gV := bh b8
      have gW : decide (0 <= (U)) = true := az b8
      clear b8
      obtain ⟨b9, H⟩ := ifS H
      have d3 := bh b9
      have d4 : decide ((U) <= (wrap64 ((U) + O))) = true := az b9
      obtain ⟨cA, H⟩ := ifS H
      have d5 := bh cA
      have d6 : decide ((wrap64 ((U) + O)) <= (a0.size : Int)) = true := az cA
      obtain ⟨Y, aK⟩ : ∃ j_ : Int, (wrap64 ((U) + O)) = j_ := ⟨_, rfl⟩
      replace H : (if 0 <= (Y) then (if (Y) <= (wrap64 ((Y) + X)) then (if (wrap64 ((Y) + X)) <= (a0.size : Int) then (if Z.length < 4398046511104 then (bz.l0 k2 a0 (wrap64 ((U) + (wrap64 (O + X)))) (wrap64 (aI - 1)) (wrap64 (bt a0 0)) J (wrap64 (bt a0 1)) (wrap64 (bt a0 2)) (a0.extract 7 ((wrap64 (7 + (wrap64 (bt a0 4)))) : Int).toNat) (Z ++ [(⟨a0.extract ((U) : Int).toNat ((Y) : Int).toNat, a0.extract ((Y) : Int).toNat ((wrap64 ((Y) + X)) : Int).toNat⟩ : S84)])) else (none)) else (none)) else (none)) else (none)) = some (r1, r2, r3, r4, r5, r6, r7) := by first | (rw [aK] at H; exact H) | (simp only [aK] at H ⊢; exact H)
      (try rw [aK] at d3)
      (try rw [aK] at d4)
      (try rw [aK] at b9)
      (try rw [aK] at d5)
      (try rw [aK] at d6)
      (try rw [aK] at cA)
      (try rw [aK] at bK)
      (try rw [aK] at bP)
      have hji57w : (IntKind.i64.wrap ((U) + O)) = Y := (i64_w _).trans aK
      obtain ⟨cC, H⟩ := ifS H
      have gX := bh cC
      have gY : decide (0 <= (Y)) = true := az cC
      clear cC
      obtain ⟨cZ, H⟩ := ifS H
      have gZ := bh cZ
      have g0 : decide ((Y) <= (wrap64 ((Y) + X))) = true := az cZ
      obtain ⟨dA, H⟩ := ifS H
      have g1 := bh dA
      have g3 : decide ((wrap64 ((Y) + X)) <= (a0.size : Int)) = true := az dA
      obtain ⟨dB, H⟩ := ifS H
      have eA := aM dB
      clear dB
      obtain ⟨cD, bL⟩ : ∃ y_ : List (S84), y_ = (Z ++ [(⟨a0.extract ((U) : Int).toNat ((Y) : Int).toNat, a0.extract ((Y) : Int).toNat ((wrap64 ((Y) + X)) : Int).toNat⟩ : S84)]) := ⟨_, rfl⟩
      replace H : (bz.l0 k2 a0 (wrap64 ((U) + (wrap64 (O + X)))) (wrap64 (aI - 1)) (wrap64 (bt a0 0)) J (wrap64 (bt a0 1)) (wrap64 (bt a0 2)) (a0.extract 7 ((wrap64 (7 + (wrap64 (bt a0 4)))) : Int).toNat) cD) = some (r1, r2, r3, r4, r5, r6, r7) := by first | (rw [bL]; with_reducible exact H) | (have H2_ := (Option.bind_some _ _).symm.trans H; rw [bL]; with_reducible exact H2_) | (have H2_ := (Option.bind_some _ _).symm.trans H; with_reducible exact H2_) | with_reducible exact H | (rw [bL]; exact H) | exact H
      have eB := aM bL
      clear bL
      have H' := aM H
      clear H
      try go_wp2_with (first | ((with_reducible refine gC 110 ?_); refine gL 61 func110 #[.string (a0.extract (I : Int).toNat ((aG) : Int).toNat)] ?_; (with_reducible refine (cr.calls k2 (a0.extract (I : Int).toNat ((aG) : Int).toNat) O _ bK.out).mono ?_); rintro e w' ⟨rfl, ⟨nd, rfl⟩⟩; refine ⟨_, rfl, ?_⟩; (try (rw [drewN_self wr]; generalize hq_ : World.drewN wr _ = wr; have n0_ : ap (Kd.R k84 84 wr w.heap.size (fun _ => True) u216005 Z) := ⟨Z134⟩; have n1_ : ap (wr.heap[y]? = some (.cells #[.int .i64 x211000_2, .int .i64 x211001_2, .int .i64 x211002_2, .int .i64 x211003_2, .string x211004_2, .slice none 0 0] 41 (0, 0))) := ⟨Z127⟩; have n2_ : ap (wr.heap[D]? = some (.cells #[.int .i64 (wrap64 (bt a0 0)), .int .i64 J, .int .i64 (wrap64 (bt a0 1)), .int .i64 (wrap64 (bt a0 2)), .string (a0.extract 7 ((wrap64 (7 + (wrap64 (bt a0 4)))) : Int).toNat), u216005] 41 (0, 0))) := ⟨Z128⟩; have n3_ : ap (Below w.heap.size w wr) := ⟨Z84⟩; clear HO_216005 BK210 BK215 HB hq_; have HO_216005 := n0_; have BK210 := n1_; have BK215 := n2_; have HB := n3_; clear n0_ n1_ n2_ n3_))) | ((with_reducible refine gC 110 ?_); refine goesL_ (some 68) rfl rfl func110 (Z16) rfl #[.string (a0.extract ((aG) : Int).toNat ((U) : Int).toNat)] rfl (by (try simp only [List.map_toArray, List.map_cons, List.map_nil]); first | done | (simp only [hji45, aD]; rfl) | rfl | (simp only [List.length_drop, List.length_take]; rfl)) ?_; (with_reducible refine (cr.calls k2 (a0.extract ((aG) : Int).toNat ((U) : Int).toNat) X _ bP.out).mono ?_); rintro e w' ⟨rfl, ⟨nd, rfl⟩⟩; refine ⟨_, rfl, ?_⟩; (try (rw [drewN_self wr]; generalize hq_ : World.drewN wr _ = wr; have n0_ : ap (Kd.R k84 84 wr w.heap.size (fun _ => True) u216005 Z) := ⟨Z134⟩; have n1_ : ap (wr.heap[y]? = some (.cells #[.int .i64 x211000_2, .int .i64 x211001_2, .int .i64 x211002_2, .int .i64 x211003_2, .string x211004_2, .slice none 0 0] 41 (0, 0))) := ⟨Z127⟩; have n2_ : ap (wr.heap[D]? = some (.cells #[.int .i64 (wrap64 (bt a0 0)), .int .i64 J, .int .i64 (wrap64 (bt a0 1)), .int .i64 (wrap64 (bt a0 2)), .string (a0.extract 7 ((wrap64 (7 + (wrap64 (bt a0 4)))) : Int).toNat), u216005] 41 (0, 0))) := ⟨Z128⟩; have n3_ : ap (Below w.heap.size w wr) := ⟨Z84⟩; clear HO_216005 BK210 BK215 HB hq_; have HO_216005 := n0_; have BK210 := n1_; have BK215 := n2_; have HB := n3_; clear n0_ n1_ n2_ n3_))))
      replace HO_216005 := aM (Kd.R_drew HO_216005.out)
      replace BK210 := aM (ag BK210.out)
      replace BK215 := aM (ag BK215.out)
      replace HB := aM (ac HB.out)
      refine fe (n := 23) (S := fun w' => qc6 D (.int .i64 (wrap64 (bt a0 0))) (.int .i64 J) (.int .i64 (wrap64 (bt a0 1))) (.int .i64 (wrap64 (bt a0 2))) (.string (a0.extract 7 ((wrap64 (7 + (wrap64 (bt a0 4)))) : Int).toNat)) (u216005) w') (ds := [22]) #[false, false, false, false, false, false, false, false, false, false, false, false, false, false, false, false, false, false, false, false, false, false, false] (Z16) rfl rfl (bc6 BK215.out) (fun hHeld => ?_); refine df bz.tab15 bz.bits15 (fun HT_ HW_ => ?_)
      generalize wr.drew = g4 at HO_216005 BK210 BK215 HB hHeld ⊢
      refine pA 0 80 ?_
      refine pA 2 82 ?_
      refine pA 3 83 ?_
      refine pA 4 84 ?_
      refine pA 5 85 ?_
      refine pA 6 86 ?_
      refine pA 7 87 ?_
      refine pA 8 88 ?_
      refine pA 9 89 ?_
      refine pA 10 90 ?_
      refine pA 11 91 ?_
      refine pA 12 92 ?_
      refine pA 13 93 ?_
      refine pA 14 94 ?_
      refine pA 15 95 ?_
      refine pA 16 96 ?_
      refine pA 17 97 ?_
      refine pA 18 98 ?_
      refine tA 1 81 ?_
      refine oA 19 99 (fun K hK => ?_)
      refine value_ (w1 := ?_) (v := ?_) (Z96) rfl ?_ ?_
      rotate_left 2
      ·go_simp
       constructor
       ·rfl
       rfl
      refine hK.out _ _ (bc6 (ah BK215.out _)) (fun hHeld => ?_)
      clear hK K
      refine nB 99 ?_
      refine oA 20 100 (fun K hK => ?_)
      refine Kd.R_append_step k84 (w0 := w) w.heap.size (Z96) (.tmp 81) (.tmp 99) 39 84 (.agg #[(.string ⟨#[]⟩), (.string ⟨#[]⟩)]) 32 rfl underlying39 info84 rfl (Z68) (Z31) u216005 Z (⟨a0.extract ((U) : Int).toNat ((Y) : Int).toNat, a0.extract ((Y) : Int).toNat ((wrap64 ((Y) + X)) : Int).toNat⟩ : S84) [.string (a0.extract ((U) : Int).toNat ((Y) : Int).toNat), .string (a0.extract ((Y) : Int).toNat ((wrap64 ((Y) + X)) : Int).toNat)] (fun _ => True) (fun _ => False) rfl rfl ?aP (fun _ hk => hk.elim) ?aF ?aO ?aB ?aS ?aL ?_
      (case aP => exact k84_mkM _ _ _ (⟨a0.extract ((U) : Int).toNat ((Y) : Int).toNat, a0.extract ((Y) : Int).toNat ((wrap64 ((Y) + X)) : Int).toNat⟩ : S84))
      (case aB => exact (Z11))
      (case aF => exact (fun _ _ => trivial))
      (case aO => exact (Z108))
      (case aS => exact (ct (Z11)))
      (case aL => have := eA.out; omega)
      intro g5 eC ho hb hg hat
      rw [← eB.out] at ho
      have n0_ := aM (fm (g := y) (o := .cells #[.int .i64 x211000_2, .int .i64 x211001_2, .int .i64 x211002_2, .int .i64 x211003_2, .string x211004_2, .slice none 0 0] 41 (0, 0)) (Z17) hg (Kd.R_ne HO_216005.out BK210.out (Z68)))
      have n1_ := aM (fm (g := D) (o := .cells #[.int .i64 (wrap64 (bt a0 0)), .int .i64 J, .int .i64 (wrap64 (bt a0 1)), .int .i64 (wrap64 (bt a0 2)), .string (a0.extract 7 ((wrap64 (7 + (wrap64 (bt a0 4)))) : Int).toNat), u216005] 41 (0, 0)) (Z42) hg (Kd.R_ne HO_216005.out BK215.out (Z68)))
      have n2_ := aM (hb)
      have n3_ := aM (ho)
      clear BK210
      clear BK215
      clear HB
      clear HO_216005
      have BK210 := n0_
      have BK215 := n1_
      have HB := n2_
      have dC := n3_
      clear n0_ n1_ n2_ n3_
      clear ho hb hg hat
      obtain ⟨eD, eE, dD⟩ := Kd.R_slice dC.out
      (first | subst dD | (injection dD with f1_ f2_ f3_; have f4_ := f1_.symm; have f5_ := f3_.symm; clear f1_ f2_ f3_; subst f4_; subst f5_))
      refine hK.out _ _ (bc6 BK215.out) (fun hHeld => ?_)
      clear hK K
      refine nB 100 ?_
      refine pA 21 101 ?_
      refine last_ (i := 22) (N := none) #[true, true, true, true, true, true, true, true, true, true, true, true, true, true, true, true, true, true, true, true, true, true, true] rfl rfl (one_of HT_.out (Z16)) (Z68) (fun K hK => ?_)
      obtain ⟨-, -, -, -, -, g6⟩ := cl6 BK215.out
      have g7 := am BK215.out 5
      have g8 := M.out
      have g9 := s.out
      refine skip_ (w1 := ?_) (Z96) rfl ?_ ?_
      rotate_left
      ·go_simp
       rfl
      refine hK.out _ _ ?_
      clear hK K
      refine gh (ei HT_.out (Z16)) ?_
      try go_wp2
      go_roundg k2
      case measure => have := HJ1.out; have := HK2.out; omega
      case rel => exact ⟨(wrap64 ((U) + (wrap64 (O + X)))), (wrap64 (aI - 1)), (x211000_2), (x211001_2), (x211002_2), (x211003_2), (x211004_2), (cD), (.slice eD cD.length eE), (by first | rfl | (simp; done) | (simp only [← aD] <;> (first | rfl | simp)) | (simp [*]; done)), (Z3), H', ⟨Z172⟩, ⟨by (with_reducible repeat (first | apply Kd.R_alloc | apply Kd.R_drewN | apply Kd.R_drew)); exact Kd.R_mono (rF 5 (Kd.R_types dC.out BK215.out (Z68))) (fun _ hk => trivial)⟩, ⟨zB⟩, ⟨by (with_reducible repeat (first | refine aj ?_ _ | refine ag ?_ | refine ah ?_ _)); refine ch (cs := #[.int .i64 (wrap64 (bt a0 0)), .int .i64 J, .int .i64 (wrap64 (bt a0 1)), .int .i64 (wrap64 (bt a0 2)), .string (a0.extract 7 ((wrap64 (7 + (wrap64 (bt a0 4)))) : Int).toNat), u216005]) ?_ 5 _ rfl; (with_reducible repeat (first | refine aj ?_ _ | refine ag ?_ | refine ah ?_ _)); exact BK215.out⟩, ⟨Z11⟩⟩
     rw [if_neg a7] at H
     have dU : decide (0 < aI) = false := ba a7
     clear a7
     by_cases a6 : I = (a0.size : Int)
     ·rw [if_pos a6] at H
      have eF := bf a6
      have eG := bc a6
      clear a6
      obtain ⟨eH, eI, H⟩ := cz H
      try dsimp only at H
      simp only [Option.some.injEq, Prod.mk.injEq] at H
      obtain ⟨rfl, rfl, rfl, rfl, rfl, rfl, rfl⟩ := H
      try go_wp2
      replace HO_216005 := aM (Kd.R_drew HO_216005.out)
      replace BK210 := aM (ag BK210.out)
      replace BK215 := aM (ag BK215.out)
      replace HB := aM (ac HB.out)
      obtain ⟨cG, cH, dE⟩ := Kd.R_slice HO_216005.out
      (first | subst dE | (injection dE with f1_ f2_ f3_; have f4_ := f1_.symm; have f5_ := f3_.symm; clear f1_ f2_ f3_; subst f4_; subst f5_))
      refine fe (n := 11) (S := fun w' => qc6 D (.int .i64 (wrap64 (bt a0 0))) (.int .i64 J) (.int .i64 (wrap64 (bt a0 1))) (.int .i64 (wrap64 (bt a0 2))) (.string (a0.extract 7 ((wrap64 (7 + (wrap64 (bt a0 4)))) : Int).toNat)) (.slice cG Z.length cH) w') (ds := []) #[false, false, false, false, false, false, false, false, false, false, false] (Z16) rfl rfl (bc6 BK215.out) (fun hHeld => ?_); refine df bz.tab17 bz.bits17 (fun HT_ HW_ => ?_)
      generalize wr.drew = hC at HO_216005 BK210 BK215 HB hHeld ⊢
      refine pA 1 108 ?_
      refine pA 2 109 ?_
      refine pA 3 110 ?_
      refine pA 4 111 ?_
      refine pA 5 112 ?_
      refine tA 0 107 ?_
      refine tA 6 113 ?_
      refine oA 7 114 (fun K hK => ?_)
      refine fl func37 (Z16) rfl #[.agg #[.int .i64 (wrap64 (bt a0 0)), .int .i64 J, .int .i64 (wrap64 (bt a0 1)), .int .i64 (wrap64 (bt a0 2)), .string (a0.extract 7 ((wrap64 (7 + (wrap64 (bt a0 4)))) : Int).toNat), .slice cG Z.length cH]] (Z96) rfl rfl (Z2) ?_
      with_reducible refine (ci.calls k2 (wrap64 (bt a0 0)) J (wrap64 (bt a0 1)) (wrap64 (bt a0 2)) (a0.extract 7 ((wrap64 (7 + (wrap64 (bt a0 4)))) : Int).toNat) _ _ Z eH _ ?Y1 ?Y2 eI.out).mono ?_
      (case Y1 => have h_ := (Kd.R_reads' HO_216005.out).2.2; exact tC)
      (case Y2 => exact (Kd.R_reads' HO_216005.out).2.1)
      rintro e bA ⟨rfl, hb⟩
      refine ⟨_, rfl, ?_⟩
      replace HO_216005 := aM (Kd.R_below (Z108) hb)
      replace BK210 := aM (kB BK210 (Z17) hb)
      replace BK215 := aM (kB BK215 (Z42) hb)
      replace HB := aM (ae (Z11) hb)
      (try clear hb); (try clear hk)
      refine hK.out _ _ (bc6 BK215.out) (fun hHeld => ?_)
      clear hK K
      refine nB 114 ?_
      refine pA 8 115 ?_
      refine one_ (i := 9) (N := none) #[true, true, true, true, true, true, true, true, true, true, false] rfl rfl (one_of HT_.out (Z16)) (Z68) (fun K hK => ?_)
      have hD := cl1 BK210.out
      have hE := am BK210.out 0
      have hF := s.out
      have hG := M.out
      obtain ⟨-, hH⟩ := cl2 BK210.out
      have hI := am BK210.out 1
      have hJ := s.out
      have hL := M.out
      obtain ⟨-, -, hM⟩ := cl3 BK210.out
      have hO := am BK210.out 2
      have hP := s.out
      have hR := M.out
      obtain ⟨-, -, -, hT⟩ := cl4 BK210.out
      have hU := am BK210.out 3
      have hV := s.out
      have hW := M.out
      obtain ⟨-, -, -, -, hX⟩ := cl5 BK210.out
      have hY := am BK210.out 4
      have hZ := s.out
      have h0 := M.out
      obtain ⟨-, -, -, -, -, h3⟩ := cl6 BK210.out
      have h4 := am BK210.out 5
      have h5 := s.out
      have h6 := M.out
      refine skip_ (w1 := ?_) (Z96) rfl ?_ ?_
      rotate_left
      ·go_simp
       rfl
      refine hK.out _ _ ⟨(cF s ((cF s ((cF s ((cF s ((cF s ((cF s (hHeld.1)))))))))))), ⟨(cF s ((cF s ((cF s ((cF s ((cF s ((cF s (hHeld.2.1)))))))))))), ⟨(cF s ((cF s ((cF s ((cF s ((cF s ((cF s (hHeld.2.2.1)))))))))))), ⟨(cF s ((cF s ((cF s ((cF s ((cF s ((cF s (hHeld.2.2.2.1)))))))))))), ⟨(cF s ((cF s ((cF s ((cF s ((cF s ((cF s (hHeld.2.2.2.2.1)))))))))))), (cF s ((cF s ((cF s ((cF s ((cF s ((cF s (hHeld.2.2.2.2.2))))))))))))⟩⟩⟩⟩⟩ (fun hHeld => ?_)
      clear hK K
      refine pA 10 3 ?_
      refine gh (ei HT_.out (Z16)) ?_
      try go_wp2
      refine bodyPost_ret (fk rfl _ _ y 41 #[.int .i64 (wrap64 (bt a0 0)), .int .i64 J, .int .i64 (wrap64 (bt a0 1)), .int .i64 (wrap64 (bt a0 2)), .string (a0.extract 7 ((wrap64 (7 + (wrap64 (bt a0 4)))) : Int).toNat), .slice cG Z.length cH] (0, 0) _ rfl (by (with_reducible repeat (first | refine aj ?_ _ | refine ag ?_ | refine ah ?_ _)); refine ch (cs := #[.int .i64 (wrap64 (bt a0 0)), .int .i64 J, .int .i64 (wrap64 (bt a0 1)), .int .i64 (wrap64 (bt a0 2)), .string (a0.extract 7 ((wrap64 (7 + (wrap64 (bt a0 4)))) : Int).toNat), .slice none 0 0]) ?_ 5 _ rfl; (with_reducible repeat (first | refine aj ?_ _ | refine ag ?_ | refine ah ?_ _)); refine ch (cs := #[.int .i64 (wrap64 (bt a0 0)), .int .i64 J, .int .i64 (wrap64 (bt a0 1)), .int .i64 (wrap64 (bt a0 2)), .string x211004_2, .slice none 0 0]) ?_ 4 _ rfl; (with_reducible repeat (first | refine aj ?_ _ | refine ag ?_ | refine ah ?_ _)); refine ch (cs := #[.int .i64 (wrap64 (bt a0 0)), .int .i64 J, .int .i64 (wrap64 (bt a0 1)), .int .i64 x211003_2, .string x211004_2, .slice none 0 0]) ?_ 3 _ rfl; (with_reducible repeat (first | refine aj ?_ _ | refine ag ?_ | refine ah ?_ _)); refine ch (cs := #[.int .i64 (wrap64 (bt a0 0)), .int .i64 J, .int .i64 x211002_2, .int .i64 x211003_2, .string x211004_2, .slice none 0 0]) ?_ 2 _ rfl; (with_reducible repeat (first | refine aj ?_ _ | refine ag ?_ | refine ah ?_ _)); refine ch (cs := #[.int .i64 (wrap64 (bt a0 0)), .int .i64 x211001_2, .int .i64 x211002_2, .int .i64 x211003_2, .string x211004_2, .slice none 0 0]) ?_ 1 _ rfl; (with_reducible repeat (first | refine aj ?_ _ | refine ag ?_ | refine ah ?_ _)); refine ch (cs := #[.int .i64 x211000_2, .int .i64 x211001_2, .int .i64 x211002_2, .int .i64 x211003_2, .string x211004_2, .slice none 0 0]) ?_ 0 _ rfl; (with_reducible repeat (first | refine aj ?_ _ | refine ag ?_ | refine ah ?_ _)); exact BK210.out) underlying41 rfl (Z16)) rfl ?_
      exact ⟨_, Z1, by (with_reducible repeat (first | apply Kd.R_alloc | apply Kd.R_drewN | apply Kd.R_drew)); exact Kd.R_mono (rF 5 (rF 4 (rF 3 (rF 2 (rF 1 (rF 0 (Kd.R_types HO_216005.out BK210.out (Z68)))))))) (fun _ hk => trivial), Z11⟩
     rw [if_neg a6] at H
     have eF := bb a6
     have eG := bg a6
     simp only [Option.some.injEq, Prod.mk.injEq] at H
     obtain ⟨rfl, rfl, rfl, rfl, rfl, rfl, rfl⟩ := H
     try go_wp2
     replace HO_216005 := aM (Kd.R_drew HO_216005.out)
     replace BK210 := aM (ag BK210.out)
     replace BK215 := aM (ag BK215.out)
     replace HB := aM (ac HB.out)
     obtain ⟨dF, dG, dH⟩ := Kd.R_slice HO_216005.out
     (first | subst dH | (injection dH with f1_ f2_ f3_; have f4_ := f1_.symm; have f5_ := f3_.symm; clear f1_ f2_ f3_; subst f4_; subst f5_))
     refine fe (n := 11) (S := fun w' => qc6 D (.int .i64 (wrap64 (bt a0 0))) (.int .i64 J) (.int .i64 (wrap64 (bt a0 1))) (.int .i64 (wrap64 (bt a0 2))) (.string (a0.extract 7 ((wrap64 (7 + (wrap64 (bt a0 4)))) : Int).toNat)) (.slice dF Z.length dG) w') (ds := []) #[false, false, false, false, false, false, false, false, false, false, false] (Z16) rfl rfl (bc6 BK215.out) (fun hHeld => ?_); refine df bz.tab17 bz.bits17 (fun HT_ HW_ => ?_)
     generalize wr.drew = bB at HO_216005 BK210 BK215 HB hHeld ⊢
     refine pA 1 108 ?_
     refine pA 2 109 ?_
     refine pA 3 110 ?_
     refine pA 4 111 ?_
     refine pA 5 112 ?_
     refine pU 6 113 ?_
     refine pU 7 114 ?_
     refine pA 8 115 ?_
     refine tA 0 107 ?_
     refine one_ (i := 9) (N := none) #[true, true, true, true, true, true, true, true, true, true, false] rfl rfl (one_of HT_.out (Z16)) (Z68) (fun K hK => ?_)
     have h7 := cl1 BK210.out
     have h8 := am BK210.out 0
     have h9 := s.out
     have iC := M.out
     obtain ⟨-, iD⟩ := cl2 BK210.out
     have iE := am BK210.out 1
     have iF := s.out
     have iG := M.out
     obtain ⟨-, -, iH⟩ := cl3 BK210.out
     have iI := am BK210.out 2
     have iJ := s.out
     have iK := M.out
     obtain ⟨-, -, -, iL⟩ := cl4 BK210.out
     have iM := am BK210.out 3
     have iN := s.out
     have iO := M.out
     obtain ⟨-, -, -, -, iP⟩ := cl5 BK210.out
     have iQ := am BK210.out 4
     have iR := s.out
     have iS := M.out
     obtain ⟨-, -, -, -, -, iT⟩ := cl6 BK210.out
     have iU := am BK210.out 5
     have iV := s.out
     have iW := M.out
     refine skip_ (w1 := ?_) (Z96) rfl ?_ ?_
     rotate_left
     ·go_simp
      rfl
     refine hK.out _ _ ⟨(cF s ((cF s ((cF s ((cF s ((cF s ((cF s (hHeld.1)))))))))))), ⟨(cF s ((cF s ((cF s ((cF s ((cF s ((cF s (hHeld.2.1)))))))))))), ⟨(cF s ((cF s ((cF s ((cF s ((cF s ((cF s (hHeld.2.2.1)))))))))))), ⟨(cF s ((cF s ((cF s ((cF s ((cF s ((cF s (hHeld.2.2.2.1)))))))))))), ⟨(cF s ((cF s ((cF s ((cF s ((cF s ((cF s (hHeld.2.2.2.2.1)))))))))))), (cF s ((cF s ((cF s ((cF s ((cF s ((cF s (hHeld.2.2.2.2.2))))))))))))⟩⟩⟩⟩⟩ (fun hHeld => ?_)
     clear hK K
     refine pA 10 3 ?_
     refine gh (ei HT_.out (Z16)) ?_
     try go_wp2
     refine bodyPost_ret (fk rfl _ _ y 41 #[.int .i64 (wrap64 (bt a0 0)), .int .i64 J, .int .i64 (wrap64 (bt a0 1)), .int .i64 (wrap64 (bt a0 2)), .string (a0.extract 7 ((wrap64 (7 + (wrap64 (bt a0 4)))) : Int).toNat), .slice dF Z.length dG] (0, 0) _ rfl (by (with_reducible repeat (first | refine aj ?_ _ | refine ag ?_ | refine ah ?_ _)); refine ch (cs := #[.int .i64 (wrap64 (bt a0 0)), .int .i64 J, .int .i64 (wrap64 (bt a0 1)), .int .i64 (wrap64 (bt a0 2)), .string (a0.extract 7 ((wrap64 (7 + (wrap64 (bt a0 4)))) : Int).toNat), .slice none 0 0]) ?_ 5 _ rfl; (with_reducible repeat (first | refine aj ?_ _ | refine ag ?_ | refine ah ?_ _)); refine ch (cs := #[.int .i64 (wrap64 (bt a0 0)), .int .i64 J, .int .i64 (wrap64 (bt a0 1)), .int .i64 (wrap64 (bt a0 2)), .string x211004_2, .slice none 0 0]) ?_ 4 _ rfl; (with_reducible repeat (first | refine aj ?_ _ | refine ag ?_ | refine ah ?_ _)); refine ch (cs := #[.int .i64 (wrap64 (bt a0 0)), .int .i64 J, .int .i64 (wrap64 (bt a0 1)), .int .i64 x211003_2, .string x211004_2, .slice none 0 0]) ?_ 3 _ rfl; (with_reducible repeat (first | refine aj ?_ _ | refine ag ?_ | refine ah ?_ _)); refine ch (cs := #[.int .i64 (wrap64 (bt a0 0)), .int .i64 J, .int .i64 x211002_2, .int .i64 x211003_2, .string x211004_2, .slice none 0 0]) ?_ 2 _ rfl; (with_reducible repeat (first | refine aj ?_ _ | refine ag ?_ | refine ah ?_ _)); refine ch (cs := #[.int .i64 (wrap64 (bt a0 0)), .int .i64 x211001_2, .int .i64 x211002_2, .int .i64 x211003_2, .string x211004_2, .slice none 0 0]) ?_ 1 _ rfl; (with_reducible repeat (first | refine aj ?_ _ | refine ag ?_ | refine ah ?_ _)); refine ch (cs := #[.int .i64 x211000_2, .int .i64 x211001_2, .int .i64 x211002_2, .int .i64 x211003_2, .string x211004_2, .slice none 0 0]) ?_ 0 _ rfl; (with_reducible repeat (first | refine aj ?_ _ | refine ag ?_ | refine ah ?_ _)); exact BK210.out) underlying41 rfl (Z16)) rfl ?_
     exact ⟨_, Z1, by (with_reducible repeat (first | apply Kd.R_alloc | apply Kd.R_drewN | apply Kd.R_drew)); exact Kd.R_mono (rF 5 (rF 4 (rF 3 (rF 2 (rF 1 (rF 0 (Kd.R_types HO_216005.out BK210.out (Z68)))))))) (fun _ hk => trivial), Z11⟩
end Go.Proofs.YtifkmkiljpeaaadGreat.PFnExactCommit
