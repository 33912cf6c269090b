import Derived.Test.YtifkmkiljpeaaadGreatPFnExactCommitxA
import Derived.Test.YtifkmkiljpeaaadGreatPFnExactCommitxB
import Derived.Test.YtifkmkiljpeaaadGreatPFnExactCommitxC
import Derived.Test.YtifkmkiljpeaaadGreatPFnExactCommitxD
set_option maxHeartbeats 40000000
set_option maxRecDepth 100000
namespace Go.Proofs.YtifkmkiljpeaaadGreat.PFnExactCommit
open Go.RowKit Go.Proofs.YtifkmkiljpeaaadGreatW.PrintWords Go.Proofs.YtifkmkiljpeaaadGreatW.PrintLast Go.Proofs.YtifkmkiljpeaaadGreatW.PrintMore Go.Proofs.YtifkmkiljpeaaadGreat.Mac Go.Proofs.Tryz
set_option linter.unusedVariables false
set_option linter.unusedSimpArgs false
attribute [local go_sem high] eqA113
def fy.f (k : Nat) (s : Int) (y : ByteArray) (D : Int) : Option ((List S82) × Int × Int) :=
 (eo.f s y D).bind fun q => if q.1.length <= 1048576 then (replF (br.f k) q.1 []).bind fun o => (match o with
  | none => some ([], 0, 3)
  | some xs => if q.2.2 = 8 then some ([], 0, 8) else some (xs, (q.1.length : Int), 0)) else none
theorem i_replay (k : Nat) (y : Int) (D : ByteArray) (I : Int) (r1 : List S82) (r2 r3 : Int) (w : World) (h : fy.f k y D I = some (r1, r2, r3)) :
  Calls prog 48 #[.agg #[.int .i64 y, .string D, .int .i64 I]] w (ReplRet w r1 r2 r3) := by
 unfold fy.f at h
 obtain ⟨⟨rs, q2, O⟩, hq, h⟩ := Option.bind_eq_some_iff.mp h
 dsimp only at h
 have hrl : rs.length <= 1048576 := by
  by_cases c : rs.length <= 1048576
  ·exact c
  rw [if_neg c] at h; cases h
 rw [if_pos hrl] at h
 obtain ⟨o, ho, h⟩ := Option.bind_eq_some_iff.mp h
 have HQ := aM hq
 have HO := aM ho
 have HH := aM h
 have aE := aM (ab (bi w.heap.size w) (.cells #[.int .i64 y, .string D, .int .i64 I] 32))
 clear h hq ho
 go_enter func48, ntmps48
 go_wp2_with fail
 generalize w.alloc (.cells #[.int .i64 y, .string D, .int .i64 I] 32) = w0 at *
 refine (eo.calls y D I rs q2 O _ HQ.out).mono ?_
 rintro e w1 ⟨v, rfl, hR, hb⟩
 obtain ⟨A, c, rfl, hc, hC⟩ := Kd.R_reads hR
 have HC := aM hC
 have HB := aM (Below.trans aE.out (hb.mono aE.out.size))
 clear hC hb hR
 go_wp2_with fail
 go_loopg [8, 24] rs.length (fun gg s8 aO wr => ∃ (kk : Nat) (xs : List S82), kk <= rs.length /\ rs.length - kk <= gg /\ aO = .int .i64 kk /\ ap (Kd.S k82 82 wr w1.heap.size (fun _ => True) s8 xs) /\ ap (Below w1.heap.size w1 wr) /\ ap (replF (br.f k) (rs.drop kk) xs = some o))
 case atStart => exact ⟨0, [], Nat.zero_le _, Z31, rfl, ⟨S_empty_at _ (blk_made rfl) (bj _) trivial⟩, ⟨ab (bi _ _) _⟩, HO⟩
 case round =>
  obtain ⟨kk, xs, hkk, hgg, rfl, HS, HBW, HR⟩ := hrel
  by_cases hlt : kk < rs.length
  ·have hltz : (kk : Int) < (rs.length : Int) := by omega
   have h0k : 0 <= (kk : Int) := by omega
   obtain ⟨m1, m2, m3, m4, m5, m6, m7, hm, hor⟩ := replF_cons HR.out hlt
   have HM := aM hm
   obtain ⟨ad, e, aF⟩ := Kd.at_string (Kd.C_below HC.out HBW.out) (kk : Int) h0k hltz
   cases e
   simp only [Int.toNat_natCast] at aF
   clear hm HR
   generalize (gb ByteArray.empty rs (kk : Int)) = q0 at *
   have HOR := aM hor
   clear hor
   go_wp2_with fail
   refine (br.calls k q0 m1 m2 m3 m4 m5 m6 m7 _ HM.out).mono ?_
   rintro e w3 ⟨v5, rfl, U, M⟩
   obtain ⟨s, c6, rfl, aY, aQ⟩ := Kd.R_reads U
   have X := aM (Kd.S_below (Kd.S_bound HS.out) M)
   have Y := aM (Below.trans HBW.out (M.mono HBW.out.size))
   have aG := aM U
   have aH := aM M.size
   clear U aQ M HS aF
   rcases HOR.out with ⟨rfl, rfl⟩ | ⟨rfl, hs, aR, hcase⟩
   ·have hh := HH.out
    dsimp only at hh
    simp only [Option.some.injEq, Prod.mk.injEq] at hh
    obtain ⟨rfl, rfl, rfl⟩ := hh
    go_wp2
    go_ret3
    exact ⟨_, rfl, Kd.S_nil _ _ _ _ _, ab (Below.trans HB.out (Y.out.mono HB.out.size)) _⟩
   obtain ⟨AS, cS, rfl⟩ := Kd.S_slice X.out
   have HSM := aM hs
   have HCA := aM hcase
   clear hs hcase HOR
   have aS := aM (Kd.S_alloc X.out (.cells #[.int .i64 m1, .int .i64 m2, .int .i64 m3, .int .i64 m4, .string m5, .slice s m6.length c6] 41))
   have aT := aM (Kd.R_bound (Kd.R_alloc aG.out (.cells #[.int .i64 m1, .int .i64 m2, .int .i64 m3, .int .i64 m4, .string m5, .slice s m6.length c6] 41)))
   have Z := aM (ab Y.out (.cells #[.int .i64 m1, .int .i64 m2, .int .i64 m3, .int .i64 m4, .string m5, .slice s m6.length c6] 41))
   have aU := aM (show wr.heap.size <= (w3.alloc (.cells #[.int .i64 m1, .int .i64 m2, .int .i64 m3, .int .i64 m4, .string m5, .slice s m6.length c6] 41)).heap.size from by have := aH.out; simp; omega)
   clear X aG Y aH
   go_wp2_with fail
   generalize w3.alloc (.cells #[.int .i64 m1, .int .i64 m2, .int .i64 m3, .int .i64 m4, .string m5, .slice s m6.length c6] 41) = w4 at *
   have HZW := aM HBW.out.size
   obtain ⟨ok, hok⟩ : ∃ ok : Nat -> Prop, ok = fun q => (w1.heap.size <= q /\ q < wr.heap.size) ∨ w4.heap.size <= q := ⟨_, rfl⟩
   have hnew : ∀ q, w4.heap.size <= q -> ok q := fun q hq => by rw [hok]; exact .inr hq
   have hold : ∀ q, ok q -> w1.heap.size <= q := fun q hq => by rw [hok] at hq; rcases hq with hq | hq; exact hq.1; have := aU.out; have := HZW.out; omega
   have hitm : ∀ q, wr.heap.size <= q -> q < w4.heap.size -> ¬ ok q := fun q h1 h2 hq => by rw [hok] at hq; rcases hq with hq | hq <;> omega
   refine (i_mutate w1.heap.size ok _ xs m1 m2 m3 m4 m5 s c6 m6 w4 (Kd.S_mono aS.out (fun q hq => by rw [hok]; exact .inl ⟨hq.2.1, hq.2.2.1⟩)) Z.out.size hnew (fun W' hk => (Kd.R_reads' (Kd.R_step aT.out (fun q hq hlt => hk.block q hlt (hitm q hq.2.1 hlt)))).2.2) HSM.out.1 HSM.out.2 aR).mono ?_
   rintro e w5 ⟨v7, rfl, aA, aI⟩
   have aJ := aM (Below.trans Z.out (aI.is_below Z.out.size hold))
   clear hnew hold hitm hok aI
   rcases HCA.out with ⟨hne, rfl⟩ | ⟨h0, hr⟩
   ·have hh := HH.out
    dsimp only at hh
    simp only [Option.some.injEq, Prod.mk.injEq] at hh
    obtain ⟨rfl, rfl, rfl⟩ := hh
    have tne : ((gi xs m1 m2 m3 m4 m5 m6).2 != 0) = true := bg hne
    clear hne aA HCA
    generalize (gi xs m1 m2 m3 m4 m5 m6).2 = cd at *
    go_wp2
    go_ret3
    exact ⟨_, rfl, Kd.S_nil _ _ _ _ _, Below.trans HB.out (aJ.out.mono HB.out.size)⟩
   have aV := aM aA
   have aW := aM hr
   clear aA hr HCA
   generalize (gi xs m1 m2 m3 m4 m5 m6).1 = xs' at *
   rw [h0]
   clear h0
   go_wp2
   go_roundg (rs.length - (kk + 1))
   case measure => omega
   case rel => exact ⟨kk + 1, xs', Z31, Z31, by go_num, ⟨Kd.S_mono aV.out (fun _ _ => trivial)⟩, aJ, aW⟩
  have hltz : ¬ (kk : Int) < (rs.length : Int) := by omega
  obtain rfl : kk = rs.length := by omega
  have hr := HR.out
  rw [List.drop_of_length_le (bj _)] at hr
  have hoe := replF_nil hr
  subst hoe
  have hh := HH.out
  dsimp only at hh
  clear hr
  obtain ⟨AS, cS, rfl⟩ := Kd.S_slice HS.out
  by_cases J : O = 8
  ·rw [if_pos J] at hh
   simp only [Option.some.injEq, Prod.mk.injEq] at hh
   obtain ⟨rfl, rfl, rfl⟩ := hh
   subst J
   go_wp2
   go_ret3
   exact ⟨_, rfl, Kd.S_nil _ _ _ _ _, Below.trans HB.out (HBW.out.mono HB.out.size)⟩
  rw [if_neg J] at hh
  simp only [Option.some.injEq, Prod.mk.injEq] at hh
  obtain ⟨rfl, rfl, rfl⟩ := hh
  have t8 : (O == 8) = false := bb J
  clear J
  go_wp2
  go_ret3
  exact ⟨_, rfl, Kd.S_lower HS.out HB.out.size, Below.trans HB.out (HBW.out.mono HB.out.size)⟩
theorem fy.calls (k : Nat) (s : Int) (y : ByteArray) (D : Int) (I : List S82) (J M : Int) (w : World) (h : fy.f k s y D = some (I, J, M)) :
  Calls prog 48 #[.agg #[.int .i64 s, .string y, .int .i64 D]] w fun e w' => ∃ v0_ : Value, e = .returned (.tuple #[v0_, .int .i64 J, .int .i64 M]) /\ Kd.S k82 82 w' w.heap.size (fun _ => True) v0_ I /\ Below w.heap.size w w' := i_replay k s y D I J M w h
def eb.l0 : Nat -> List (S113) -> List (S113) -> Int -> Int -> Option (Bool)
 | 0, _, _, _, _ => none
 | k + 1, x0, x1, x12, s => if s < x12 then (if 0 <= s then (if s < (x0.length : Int) then (if s < (x1.length : Int) then (if (!(((ar x0 s).f0) == ((ar x1 s).f0)) || (!(((ar x0 s).f1) == ((ar x1 s).f1)) || (!((((ar x0 s).f2).toList) == (((ar x1 s).f2).toList))))) = true then (some false) else (eb.l0 k x0 x1 x12 (wrap64 (s + 1)))) else (none)) else (none)) else (none)) else (some true)
def eb.f (k : Nat) (l0 : List (S113)) (l1 : List (S113)) : Option (Bool) := if (l0.length : Int) = (l1.length : Int) then (eb.l0 k l0 l1 (l0.length : Int) 0) else (some false)
theorem eb.calls (k : Nat) (X : Option Addr) (c0 : Nat) (l0 : List (S113)) (Y : Option Addr) (c1 : Nat) (l1 : List (S113)) (r : Bool) (w : World) (hr0 : Kd.C k113 w X l0.length l0) (Z : l0.length <= c0) (M : Kd.C k113 w Y l1.length l1) (aA : l1.length <= c1) (h : eb.f k l0 l1 = some r) :
  Calls prog 93 #[.slice X l0.length c0, .slice Y l1.length c1] w fun e w' => e = .returned (.bool r) /\ ew w w' := by
 have aR := underlying113
 replace hr0 := aM hr0
 replace Z := aM Z
 replace M := aM M
 replace aA := aM aA
 have H := h
 clear h
 unfold eb.f at H
 by_cases c3 : (l0.length : Int) = (l1.length : Int)
 ·rw [if_pos c3] at H
  have aB := bf c3
  have aC := bc c3
  have aD : (l0.length == l1.length) = true := by first | simpa using c3 | (simp at c3 ⊢; omega)
  clear c3
  have H' := aM H
  clear H
  go_enter func93, ntmps93
  go_wp2
  repeat (go_quiet (fail); try go_wp2)
  go_loopg [13] k (fun kq aE w' => ∃ (s : Int), aE = .int .i64 s /\ ap (eb.l0 kq l0 l1 (l0.length : Int) s = some r) /\ ap (kq <= k) /\ ew w w')
  case atStart => exact ⟨(0), (Z3), H', ⟨bj _⟩, Z12⟩
  case round =>
   clear H'
   (try clear c1); (try clear c3); (try clear aB); (try clear aC); (try clear aD)
   obtain ⟨s, rfl, HA, HK1, ⟨m1, rfl⟩⟩ := hrel
   cases gk with
   | zero => exact absurd HA.out (by simp [eb.l0])
   | succ k1 =>
    have H := HA.out
    clear HA
    simp only [eb.l0] at H
    by_cases c4 : s < (l0.length : Int)
    ·rw [if_pos c4] at H
     have aG := az c4
     clear c4
     obtain ⟨c5, H⟩ := ifS H
     have aS := az c5
     clear c5
     obtain ⟨c6, H⟩ := ifS H
     have aT := az c6
     clear c6
     obtain ⟨c7, H⟩ := ifS H
     have aU := az c7
     clear c7
     by_cases c8 : (!(((ar l0 s).f0) == ((ar l1 s).f0)) || (!(((ar l0 s).f1) == ((ar l1 s).f1)) || (!((((ar l0 s).f2).toList) == (((ar l1 s).f2).toList))))) = true
     ·rw [if_pos c8] at H
      have aH : (!(((ar l0 s).f0) == ((ar l1 s).f0)) || (!(((ar l0 s).f1) == ((ar l1 s).f1)) || (!((((ar l0 s).f2).toList) == (((ar l1 s).f2).toList))))) = true := c8
      clear c8
      obtain rfl := oI H
      have y : 0 <= (s : Int) := dT (Z4)
      have D : s < (l0.length : Int) := dT (Z4)
      obtain ⟨aI, O, aJ, aK, aL⟩ := ed hr0.out s y D
      cases O
      replace y := bh y
      replace D := bh D
      have I : 0 <= (s : Int) := dT (Z4)
      have J : s < (l1.length : Int) := dT (Z4)
      obtain ⟨aN, U, aO, aP, aQ⟩ := ed M.out s I J
      cases U
      replace I := bh I
      replace J := bh J
      go_wp2
      repeat (go_quiet (fail); try go_wp2)
      go_ret
      exact ⟨Z3, Z12⟩
     rw [if_neg c8] at H
     have aH : (!(((ar l0 s).f0) == ((ar l1 s).f0)) || (!(((ar l0 s).f1) == ((ar l1 s).f1)) || (!((((ar l0 s).f2).toList) == (((ar l1 s).f2).toList))))) = false := by simpa using c8
     clear c8
     have H' := aM H
     clear H
     have y : 0 <= (s : Int) := dT (Z4)
     have D : s < (l0.length : Int) := dT (Z4)
     obtain ⟨aI, O, aJ, aK, aL⟩ := ed hr0.out s y D
     cases O
     replace y := bh y
     replace D := bh D
     have I : 0 <= (s : Int) := dT (Z4)
     have J : s < (l1.length : Int) := dT (Z4)
     obtain ⟨aN, U, aO, aP, aQ⟩ := ed M.out s I J
     cases U
     replace I := bh I
     replace J := bh J
     go_wp2
     repeat (go_quiet (fail); try go_wp2)
     go_roundg k1
     case measure => have := HK1.out; omega
     case rel => exact ⟨(wrap64 (s + 1)), (Z3), H', ⟨Z85⟩, Z12⟩
    rw [if_neg c4] at H
    have aG := ba c4
    clear c4
    obtain rfl := oI H
    go_wp2
    repeat (go_quiet (fail); try go_wp2)
    go_ret
    exact ⟨Z3, Z12⟩
 rw [if_neg c3] at H
 have aB := bb c3
 have aC := bg c3
 have aD : (l0.length == l1.length) = false := by first | simpa using c3 | (simp at c3 ⊢; omega)
 obtain rfl := oI H
 go_enter func93, ntmps93
 go_wp2
 repeat (go_quiet (fail); try go_wp2)
 go_ret
 exact ⟨Z3, Z12⟩
def cp.l0 : Nat -> List ByteArray -> List ByteArray -> Int -> Int -> Option (Bool)
 | 0, _, _, _, _ => none
 | k + 1, x0, x1, x12, s => if s < x12 then (if 0 <= s then (if s < (x0.length : Int) then (if s < (x1.length : Int) then (if (gb ByteArray.empty x0 s).toList = (gb ByteArray.empty x1 s).toList then (cp.l0 k x0 x1 x12 (wrap64 (s + 1))) else (some false)) else (none)) else (none)) else (none)) else (some true)
def cp.f (k : Nat) (l0 : List ByteArray) (l1 : List ByteArray) : Option (Bool) := if (l0.length : Int) = (l1.length : Int) then (cp.l0 k l0 l1 (l0.length : Int) 0) else (some false)
theorem cp.calls (k : Nat) (X : Option Addr) (c0 : Nat) (l0 : List ByteArray) (Y : Option Addr) (c1 : Nat) (l1 : List ByteArray) (r : Bool) (w : World) (hr0 : Kd.C Kd.string w X l0.length l0) (Z : l0.length <= c0) (M : Kd.C Kd.string w Y l1.length l1) (aA : l1.length <= c1) (h : cp.f k l0 l1 = some r) :
  Calls prog 94 #[.slice X l0.length c0, .slice Y l1.length c1] w fun e w' => e = .returned (.bool r) /\ ew w w' := by
 replace hr0 := aM hr0
 replace Z := aM Z
 replace M := aM M
 replace aA := aM aA
 have H := h
 clear h
 unfold cp.f at H
 by_cases c3 : (l0.length : Int) = (l1.length : Int)
 ·rw [if_pos c3] at H
  have aB := bf c3
  have aC := bc c3
  have aD : (l0.length == l1.length) = true := by first | simpa using c3 | (simp at c3 ⊢; omega)
  clear c3
  have H' := aM H
  clear H
  go_enter func94, ntmps94
  go_wp2
  repeat (go_quiet (fail); try go_wp2)
  go_loopg [13] k (fun kq aE w' => ∃ (s : Int), aE = .int .i64 s /\ ap (cp.l0 kq l0 l1 (l0.length : Int) s = some r) /\ ap (kq <= k) /\ ew w w')
  case atStart => exact ⟨(0), (Z3), H', ⟨bj _⟩, Z12⟩
  case round =>
   clear H'
   (try clear c1); (try clear c3); (try clear aB); (try clear aC); (try clear aD)
   obtain ⟨s, rfl, HA, HK1, ⟨m1, rfl⟩⟩ := hrel
   cases gk with
   | zero => exact absurd HA.out (by simp [cp.l0])
   | succ k1 =>
    have H := HA.out
    clear HA
    simp only [cp.l0] at H
    by_cases c4 : s < (l0.length : Int)
    ·rw [if_pos c4] at H
     have aG := az c4
     clear c4
     obtain ⟨c5, H⟩ := ifS H
     have aO := az c5
     clear c5
     obtain ⟨c6, H⟩ := ifS H
     have aP := az c6
     clear c6
     obtain ⟨c7, H⟩ := ifS H
     have aQ := az c7
     clear c7
     by_cases c8 : (gb ByteArray.empty l0 s).toList = (gb ByteArray.empty l1 s).toList
     ·rw [if_pos c8] at H
      have aH := bf c8
      have aI := bc c8
      clear c8
      have H' := aM H
      clear H
      have y : 0 <= (s : Int) := dT (Z4)
      have D : s < (l0.length : Int) := dT (Z4)
      obtain ⟨aJ, O, aK⟩ := Kd.at_string hr0.out s y D
      cases O
      replace y := bh y
      replace D := bh D
      have I : 0 <= (s : Int) := dT (Z4)
      have J : s < (l1.length : Int) := dT (Z4)
      obtain ⟨aL, U, aN⟩ := Kd.at_string M.out s I J
      cases U
      replace I := bh I
      replace J := bh J
      go_wp2
      repeat (go_quiet (fail); try go_wp2)
      go_roundg k1
      case measure => have := HK1.out; omega
      case rel => exact ⟨(wrap64 (s + 1)), (Z3), H', ⟨Z85⟩, Z12⟩
     rw [if_neg c8] at H
     have aH := bb c8
     have aI := bg c8
     obtain rfl := oI H
     have y : 0 <= (s : Int) := dT (Z4)
     have D : s < (l0.length : Int) := dT (Z4)
     obtain ⟨aJ, O, aK⟩ := Kd.at_string hr0.out s y D
     cases O
     replace y := bh y
     replace D := bh D
     have I : 0 <= (s : Int) := dT (Z4)
     have J : s < (l1.length : Int) := dT (Z4)
     obtain ⟨aL, U, aN⟩ := Kd.at_string M.out s I J
     cases U
     replace I := bh I
     replace J := bh J
     go_wp2
     repeat (go_quiet (fail); try go_wp2)
     go_ret
     exact ⟨Z3, Z12⟩
    rw [if_neg c4] at H
    have aG := ba c4
    clear c4
    obtain rfl := oI H
    go_wp2
    repeat (go_quiet (fail); try go_wp2)
    go_ret
    exact ⟨Z3, Z12⟩
 rw [if_neg c3] at H
 have aB := bb c3
 have aC := bg c3
 have aD : (l0.length == l1.length) = false := by first | simpa using c3 | (simp at c3 ⊢; omega)
 obtain rfl := oI H
 go_enter func94, ntmps94
 go_wp2
 repeat (go_quiet (fail); try go_wp2)
 go_ret
 exact ⟨Z3, Z12⟩
def sameB (k : Nat) (x y : S82) : Option Bool := if x.f0.toList = y.f0.toList then (if x.f1 = y.f1 then (if x.f2 = y.f2 then (eb.f k x.f3 y.f3).bind fun b => (if b = true then cp.f k x.f4 y.f4 else some false) else some false) else some false) else some false
def sameF (k : Nat) : List S82 -> List S82 -> Option Bool
 | x :: xs, y :: ys => (sameB k x y).bind fun b => if b = true then sameF k xs ys else some false
 | _, _ => some true
def gr.f (k : Nat) (l0 l1 : List S82) : Option Bool := if l0.length = l1.length then (if l0.length <= 1099511627776 then sameF k l0 l1 else none) else some false
theorem sameF_drop {k : Nat} {l0 l1 : List S82} {kk : Nat} {r : Bool} (h : sameF k (l0.drop kk) (l1.drop kk) = some r) (s : kk < l0.length) (h1 : kk < l1.length) :
  ∃ b, sameB k (ax l0 (kk : Int)) (ax l1 (kk : Int)) = some b /\ (b = false /\ r = false ∨ b = true /\ sameF k (l0.drop (kk + 1)) (l1.drop (kk + 1)) = some r) := by
 rw [List.drop_eq_getElem_cons s, List.drop_eq_getElem_cons h1] at h
 unfold sameF at h
 obtain ⟨b, hb, h⟩ := Option.bind_eq_some_iff.mp h
 refine ⟨b, by rw [rdBox l0 kk s, rdBox l1 kk h1]; exact hb, ?_⟩
 cases b with
 | true => rw [if_pos rfl] at h; exact .inr ⟨rfl, h⟩
 | false => rw [if_neg (fg)] at h; injection h with h; exact .inl ⟨rfl, h.symm⟩
theorem same_clo (k : Nat) (x y : S82) (D M B3 B4 : Option Addr) (c3 c4 I O : Nat) (r : Bool) (w : World) (X : Kd.C k113 w D x.f3.length x.f3) (Y : x.f3.length <= c3) (Z : Kd.C Kd.string w M x.f4.length x.f4) (l4 : x.f4.length <= c4)
  (g3 : Kd.C k113 w B3 y.f3.length y.f3) (m3 : y.f3.length <= I) (g4 : Kd.C Kd.string w B4 y.f4.length y.f4) (m4 : y.f4.length <= O) (h : sameB k x y = some r) :
  Calls prog 92 #[.agg #[.string x.f0, .int .i64 x.f1, .int .i64 x.f2, .slice D x.f3.length c3, .slice M x.f4.length c4], .agg #[.string y.f0, .int .i64 y.f1, .int .i64 y.f2, .slice B3 y.f3.length I, .slice B4 y.f4.length O]] w fun e w' => e = .returned (.bool r) /\ Below w.heap.size w w' := by
 have H3 := aM (Kd.C_alloc (Kd.C_alloc X (.cells #[.string x.f0, .int .i64 x.f1, .int .i64 x.f2, .slice D x.f3.length c3, .slice M x.f4.length c4] 82)) (.cells #[.string y.f0, .int .i64 y.f1, .int .i64 y.f2, .slice B3 y.f3.length I, .slice B4 y.f4.length O] 82))
 have H4 := aM (Kd.C_alloc (Kd.C_alloc Z (.cells #[.string x.f0, .int .i64 x.f1, .int .i64 x.f2, .slice D x.f3.length c3, .slice M x.f4.length c4] 82)) (.cells #[.string y.f0, .int .i64 y.f1, .int .i64 y.f2, .slice B3 y.f3.length I, .slice B4 y.f4.length O] 82))
 have G3 := aM (Kd.C_alloc (Kd.C_alloc g3 (.cells #[.string x.f0, .int .i64 x.f1, .int .i64 x.f2, .slice D x.f3.length c3, .slice M x.f4.length c4] 82)) (.cells #[.string y.f0, .int .i64 y.f1, .int .i64 y.f2, .slice B3 y.f3.length I, .slice B4 y.f4.length O] 82))
 have G4 := aM (Kd.C_alloc (Kd.C_alloc g4 (.cells #[.string x.f0, .int .i64 x.f1, .int .i64 x.f2, .slice D x.f3.length c3, .slice M x.f4.length c4] 82)) (.cells #[.string y.f0, .int .i64 y.f1, .int .i64 y.f2, .slice B3 y.f3.length I, .slice B4 y.f4.length O] 82))
 have HH := aM h
 clear X Z g3 g4 h
 unfold sameB at HH
 by_cases s : x.f0.toList = y.f0.toList
 ·have t0 : (x.f0.toList == y.f0.toList) = true := bf s
  by_cases J : x.f1 = y.f1
  ·have t1 : (x.f1 == y.f1) = true := bf J
   by_cases U : x.f2 = y.f2
   ·have t2 : (x.f2 == y.f2) = true := bf U
    have hh := HH.out
    rw [if_pos s, if_pos J, if_pos U] at hh
    obtain ⟨b, hb, hh⟩ := Option.bind_eq_some_iff.mp hh
    have HB := aM hb
    clear hb HH s J U
    cases b with
    | true =>
     rw [if_pos rfl] at hh
     have HS := aM hh
     clear hh
     go_enter func92, ntmps92
     go_wp2_with (first | (go_at_call 93; refine (eb.calls k D c3 x.f3 B3 I y.f3 true _ (by (with_reducible repeat (first | exact H3.out | apply Kd.C_drewN | apply Kd.C_drew))) Y (by (with_reducible repeat (first | exact G3.out | apply Kd.C_drewN | apply Kd.C_drew))) m3 HB.out).mono ?_; rintro e w' ⟨rfl, ⟨n1, rfl⟩⟩) | (go_at_call 94; refine (cp.calls k M c4 x.f4 B4 O y.f4 r _ (by (with_reducible repeat (first | exact H4.out | apply Kd.C_drewN | apply Kd.C_drew))) l4 (by (with_reducible repeat (first | exact G4.out | apply Kd.C_drewN | apply Kd.C_drew))) m4 HS.out).mono ?_; rintro e w' ⟨rfl, ⟨n2, rfl⟩⟩))
     go_ret
     exact ⟨rfl, Z6⟩
    | false =>
     rw [if_neg (fg)] at hh
     injection hh with hh
     subst hh
     go_enter func92, ntmps92
     go_wp2_with (first | (go_at_call 93; refine (eb.calls k D c3 x.f3 B3 I y.f3 false _ (by (with_reducible repeat (first | exact H3.out | apply Kd.C_drewN | apply Kd.C_drew))) Y (by (with_reducible repeat (first | exact G3.out | apply Kd.C_drewN | apply Kd.C_drew))) m3 HB.out).mono ?_; rintro e w' ⟨rfl, ⟨n1, rfl⟩⟩))
     go_ret
     exact ⟨rfl, Z6⟩
   have t2 : (x.f2 == y.f2) = false := bb U
   have hh := HH.out
   rw [if_pos s, if_pos J, if_neg U] at hh
   injection hh with hh
   subst hh
   clear HH s J U
   go_enter func92, ntmps92
   go_wp2
   go_ret
   exact ⟨rfl, Z6⟩
  have t1 : (x.f1 == y.f1) = false := bb J
  have hh := HH.out
  rw [if_pos s, if_neg J] at hh
  injection hh with hh
  subst hh
  clear HH s J
  go_enter func92, ntmps92
  go_wp2
  go_ret
  exact ⟨rfl, Z6⟩
 have t0 : (x.f0.toList == y.f0.toList) = false := bb s
 have hh := HH.out
 rw [if_neg s] at hh
 injection hh with hh
 subst hh
 clear HH s
 go_enter func92, ntmps92
 go_wp2
 go_ret
 exact ⟨rfl, Z6⟩
theorem same_eqf (k : Nat) (U X : Option Addr) (c0 c1 : Nat) (l0 l1 : List S82) (r : Bool) (w : World) (hr0 : Kd.C k82 w U l0.length l0) (O : Kd.C k82 w X l1.length l1) (h : gr.f k l0 l1 = some r) :
  Calls prog 91 #[.slice U l0.length c0, .slice X l1.length c1, .func (.func 92) #[] #[]] w fun e w' => e = .returned (.bool r) /\ Below w.heap.size w w' := by
 have eg := enters_of func92 (Z16) rfl
 unfold gr.f at h
 by_cases hl : l0.length = l1.length
 ·rw [if_pos hl] at h
  have hs : l0.length <= 1099511627776 := by
   by_cases c : l0.length <= 1099511627776
   ·exact c
   rw [if_neg c] at h; cases h
  rw [if_pos hs] at h
  have tn : ((l0.length : Int) != (l1.length : Int)) = false := bc (Z31)
  have aJ := aM hr0
  have aK := aM O
  have HH := aM h
  have HLL := aM hl
  clear hr0 O h hl
  go_enter func91, ntmps91
  go_wp2
  go_loopg [7, 17] l0.length (fun gg _ aL wr => ∃ kk : Nat, kk <= l0.length /\ l0.length - kk <= gg /\ aL = .int .i64 kk /\ ap (Below w.heap.size w wr) /\ ap (sameF k (l0.drop kk) (l1.drop kk) = some r))
  case atStart => exact ⟨0, Nat.zero_le _, Z31, rfl, ⟨bi _ w⟩, HH⟩
  case round =>
   obtain ⟨kk, hkk, hg, rfl, BW, AI⟩ := hrel
   by_cases hlt : kk < l0.length
   ·have aN : kk < l1.length := by have := HLL.out; omega
    have hltz : (kk : Int) < (l0.length : Int) := by omega
    have aO : (kk : Int) < (l1.length : Int) := by omega
    have Y : 0 <= (kk : Int) := by omega
    obtain ⟨b, hb, hcase⟩ := sameF_drop AI.out hlt aN
    obtain ⟨ad, Z, c3, A4, c4, e, aP, hx1, aQ, aR, aS, l3, C3, l4, C4⟩ := em (Kd.C_below aJ.out BW.out) kk Y hltz
    cases e
    obtain ⟨aT, B3, d3, B4, d4, e, s, D, I, J, M, m3, D3, m4, D4⟩ := em (Kd.C_below aK.out BW.out) kk Y aO
    cases e
    simp only [Int.toNat_natCast] at aP hx1 aQ aR aS s D I J M
    generalize ax l0 (kk : Int) = x at *
    generalize ax l1 (kk : Int) = y at *
    have HCC := aM (And.intro C3 (And.intro C4 (And.intro D3 D4)))
    have HBB := aM hb
    have HCA := aM hcase
    have s' := fun o => ((ab (bi wr.heap.size wr) o).cell (World.block_lt_of_cell? wr _ s)).trans s
    have D' := fun o => ((ab (bi wr.heap.size wr) o).cell (World.block_lt_of_cell? wr _ D)).trans D
    have I' := fun o => ((ab (bi wr.heap.size wr) o).cell (World.block_lt_of_cell? wr _ I)).trans I
    have J' := fun o => ((ab (bi wr.heap.size wr) o).cell (World.block_lt_of_cell? wr _ J)).trans J
    have M' := fun o => ((ab (bi wr.heap.size wr) o).cell (World.block_lt_of_cell? wr _ M)).trans M
    clear C3 C4 D3 D4 hb hcase AI
    rcases HCA.out with ⟨rfl, rfl⟩ | ⟨rfl, hnx⟩
    ·clear HCA
     go_wp2_with (go_at_call 92; refine (same_clo k x y Z A4 B3 B4 c3 c4 d3 d4 false _ (by (with_reducible repeat (first | exact HCC.out.1 | apply Kd.C_alloc))) l3 (by (with_reducible repeat (first | exact HCC.out.2.1 | apply Kd.C_alloc))) l4 (by (with_reducible repeat (first | exact HCC.out.2.2.1 | apply Kd.C_alloc))) m3 (by (with_reducible repeat (first | exact HCC.out.2.2.2 | apply Kd.C_alloc))) m4 HBB.out).mono ?_; rintro e w' ⟨rfl, hb'⟩)
     go_ret
     exact ⟨rfl, Below.trans BW.out ((Below.trans (ab (ab (bi _ _) _) _) (hb'.mono (by simp; omega))).mono BW.out.size)⟩
    have HNX := aM hnx
    clear HCA hnx
    go_wp2_with (go_at_call 92; refine (same_clo k x y Z A4 B3 B4 c3 c4 d3 d4 true _ (by (with_reducible repeat (first | exact HCC.out.1 | apply Kd.C_alloc))) l3 (by (with_reducible repeat (first | exact HCC.out.2.1 | apply Kd.C_alloc))) l4 (by (with_reducible repeat (first | exact HCC.out.2.2.1 | apply Kd.C_alloc))) m3 (by (with_reducible repeat (first | exact HCC.out.2.2.2 | apply Kd.C_alloc))) m4 HBB.out).mono ?_; rintro e w' ⟨rfl, hb'⟩)
    go_roundg (l0.length - (kk + 1))
    case measure => omega
    case rel => exact ⟨kk + 1, Z31, Z31, by go_num, ⟨Below.trans BW.out ((Below.trans (ab (ab (bi _ _) _) _) (hb'.mono (by simp; omega))).mono BW.out.size)⟩, HNX⟩
   have hltz : ¬ (kk : Int) < (l0.length : Int) := by omega
   obtain rfl : kk = l0.length := by omega
   have hh := AI.out
   rw [List.drop_of_length_le (bj _)] at hh
   unfold sameF at hh
   injection hh with hh
   subst hh
   go_wp2
   go_ret
   exact ⟨rfl, BW.out⟩
 rw [if_neg hl] at h
 injection h with h
 subst h
 have tn : ((l0.length : Int) != (l1.length : Int)) = true := bg (Z31)
 clear hr0 O
 go_enter func91, ntmps91
 go_wp2
 go_ret
 exact ⟨rfl, bi _ _⟩
theorem gr.calls (k : Nat) (s : Option Addr) (c0 : Nat) (l0 : List S82) (y : Option Addr) (c1 : Nat) (l1 : List S82) (r : Bool) (w : World) (hr0 : Kd.C k82 w s l0.length l0) (I : l0.length <= c0) (D : Kd.C k82 w y l1.length l1) (J : l1.length <= c1) (h : gr.f k l0 l1 = some r) :
  Calls prog 49 #[.slice s l0.length c0, .slice y l1.length c1] w fun e w' => e = .returned (.bool r) /\ Below w.heap.size w w' := by
 replace hr0 := aM hr0
 replace D := aM D
 have HH := aM h
 clear  h
 go_enter func49, ntmps49
 go_wp2_with (go_at_call 91; refine (same_eqf k s y c0 c1 l0 l1 r _ hr0.out D.out HH.out).mono ?_; rintro e w' ⟨rfl, hb'⟩)
 go_ret
 exact ⟨rfl, hb'⟩
end Go.Proofs.YtifkmkiljpeaaadGreat.PFnExactCommit
