import Derived.Test.YtifkmkiljpeaaadGreatPFnExactCommitxA
import Derived.Test.YtifkmkiljpeaaadGreatPFnExactCommitxB
import Derived.Test.YtifkmkiljpeaaadGreatPFnExactCommitxC
import Derived.Test.YtifkmkiljpeaaadGreatPFnExactCommitxD
set_option maxHeartbeats 40000000
set_option maxRecDepth 100000
namespace Go.Proofs.YtifkmkiljpeaaadGreat.PFnExactCommit
open Go.RowKit Go.Proofs.YtifkmkiljpeaaadGreatW.PrintWords Go.Proofs.YtifkmkiljpeaaadGreatW.PrintLast Go.Proofs.YtifkmkiljpeaaadGreatW.PrintMore Go.Proofs.YtifkmkiljpeaaadGreat.Mac Go.Proofs.Tryz
set_option linter.unusedVariables false
set_option linter.unusedSimpArgs false
attribute [local go_sem high] eqA113
def fy.f (k : Nat) (s : Int) (y : ByteArray) (D : Int) : Option ((List S82) × Int × Int) :=
 (eo.f s y D).bind fun q => if q.1.length <= 1048576 then (replF (br.f k) q.1 []).bind fun o => (match o with
  | none => some ([], 0, 3)
  | some xs => if q.2.2 = 8 then some ([], 0, 8) else some (xs, (q.1.length : Int), 0)) else none
theorem i_replay (k : Nat) (y : Int) (D : ByteArray) (I : Int) (r1 : List S82) (r2 r3 : Int) (w : World) (h : fy.f k y D I = some (r1, r2, r3)) :
  Calls prog 48 #[.agg #[.int .i64 y, .string D, .int .i64 I]] w (ReplRet w r1 r2 r3) := by
 unfold fy.f at h
 obtain ⟨⟨rs, q2, O⟩, hq, h⟩ := Option.bind_eq_some_iff.mp h
 dsimp only at h
 have hrl : rs.length <= 1048576 := by
  by_cases c : rs.length <= 1048576
  ·exact c
  rw [if_neg c] at h; cases h
 rw [if_pos hrl] at h
 obtain ⟨o, ho, h⟩ := Option.bind_eq_some_iff.mp h
 have HQ := aM hq
 have HO := aM ho
 have HH := aM h
 have aE := aM (ab (bi w.heap.size w) (.cells #[.int .i64 y, .string D, .int .i64 I] 32))
 clear h hq ho
 go_enter func48, ntmps48
 go_wp2_with fail
 generalize w.alloc (.cells #[.int .i64 y, .string D, .int .i64 I] 32) = w0 at *
 refine (eo.calls y D I rs q2 O _ HQ.out).mono ?_
 rintro e w1 ⟨v, rfl, hR, hb⟩
 obtain ⟨A, c, rfl, hc, hC⟩ := Kd.R_reads hR
 have HC := aM hC
 have HB := aM (Below.trans aE.out (hb.mono aE.out.size))
 clear hC hb hR
 go_wp2_with fail
 go_loopg [8, 24] rs.length (fun gg s8 aO wr => ∃ (kk : Nat) (xs : List S82), kk <= rs.length /\ rs.length - kk <= gg /\ aO = .int .i64 kk /\ ap (Kd.S k82 82 wr w1.heap.size (fun _ => True) s8 xs) /\ ap (Below w1.heap.size w1 wr) /\ ap (replF (br.f k) (rs.drop kk) xs = some o))
 case atStart => exact ⟨0, [], Nat.zero_le _, Z31, rfl, ⟨S_empty_at _ (blk_made rfl) (bj _) trivial⟩, ⟨ab (bi _ _) _⟩, HO⟩
 case round =>
  obtain ⟨kk, xs, hkk, hgg, rfl, HS, HBW, HR⟩ := hrel
  by_cases hlt : kk < rs.length
  ·have hltz : (kk : Int) < (rs.length : Int) := by omega
   have h0k : 0 <= (kk : Int) := by omega
   obtain ⟨m1, m2, m3, m4, m5, m6, m7, hm, hor⟩ := replF_cons HR.out hlt
   have HM := aM hm
   obtain ⟨ad, e, aF⟩ := Kd.at_string (Kd.C_below HC.out HBW.out) (kk : Int) h0k hltz
   cases e
   simp only [Int.toNat_natCast] at aF
   clear hm HR
   generalize (gb ByteArray.empty rs (kk : Int)) = q0 at *
   have HOR := aM hor
   clear hor
   go_wp2_with fail
   refine (br.calls k q0 m1 m2 m3 m4 m5 m6 m7 _ HM.out).mono ?_
   rintro e w3 ⟨v5, rfl, U, M⟩
   obtain ⟨s, c6, rfl, aY, aQ⟩ := Kd.R_reads U
   have X := aM (Kd.S_below (Kd.S_bound HS.out) M)
   have Y := aM (Below.trans HBW.out (M.mono HBW.out.size))
   have aG := aM U
   have aH := aM M.size
   clear U aQ M HS aF
   rcases HOR.out with ⟨rfl, rfl⟩ | ⟨rfl, hs, aR, hcase⟩
   ·have hh := HH.out
    dsimp only at hh
    simp only [Option.some.injEq, Prod.mk.injEq] at hh
    obtain ⟨rfl, rfl, rfl⟩ := hh
    go_wp2
    go_ret3
    exact ⟨_, rfl, Kd.S_nil _ _ _ _ _, ab (Below.trans HB.out (Y.out.mono HB.out.size)) _⟩
   obtain ⟨AS, cS, rfl⟩ := Kd.S_slice X.out
   have HSM := aM hs
   have HCA := aM hcase
   clear hs hcase HOR
   have aS := aM (Kd.S_alloc X.out (.cells #[.int .i64 m1, .int .i64 m2, .int .i64 m3, .int .i64 m4, .string m5, .slice s m6.length c6] 41))
   have aT := aM (Kd.R_bound (Kd.R_alloc aG.out (.cells #[.int .i64 m1, .int .i64 m2, .int .i64 m3, .int .i64 m4, .string m5, .slice s m6.length c6] 41)))
   have Z := aM (ab Y.out (.cells #[.int .i64 m1, .int .i64 m2, .int .i64 m3, .int .i64 m4, .string m5, .slice s m6.length c6] 41))
   have aU := aM (show wr.heap.size <= (w3.alloc (.cells #[.int .i64 m1, .int .i64 m2, .int .i64 m3, .int .i64 m4, .string m5, .slice s m6.length c6] 41)).heap.size from by have := aH.out; simp; omega)
   clear X aG Y aH
   go_wp2_with fail
   generalize w3.alloc (.cells #[.int .i64 m1, .int .i64 m2, .int .i64 m3, .int .i64 m4, .string m5, .slice s m6.length c6] 41) = w4 at *
   have HZW := aM HBW.out.size
   obtain ⟨ok, hok⟩ : ∃ ok : Nat -> Prop, ok = fun q => (w1.heap.size <= q /\ q < wr.heap.size) ∨ w4.heap.size <= q := ⟨_, rfl⟩
   have hnew : ∀ q, w4.heap.size <= q -> ok q := fun q hq => by rw [hok]; exact .inr hq
   have hold : ∀ q, ok q -> w1.heap.size <= q := fun q hq => by rw [hok] at hq; rcases hq with hq | hq; exact hq.1; have := aU.out; have := HZW.out; omega
   have hitm : ∀ q, wr.heap.size <= q -> q < w4.heap.size -> ¬ ok q := fun q h1 h2 hq => by rw [hok] at hq; rcases hq with hq | hq <;> omega
   refine (i_mutate w1.heap.size ok _ xs m1 m2 m3 m4 m5 s c6 m6 w4 (Kd.S_mono aS.out (fun q hq => by rw [hok]; exact .inl ⟨hq.2.1, hq.2.2.1⟩)) Z.out.size hnew (fun W' hk => (Kd.R_reads' (Kd.R_step aT.out (fun q hq hlt => hk.block q hlt (hitm q hq.2.1 hlt)))).2.2) HSM.out.1 HSM.out.2 aR).mono ?_
   rintro e w5 ⟨v7, rfl, aA, aI⟩
   have aJ := aM (Below.trans Z.out (aI.is_below Z.out.size hold))
   clear hnew hold hitm hok aI
   rcases HCA.out with ⟨hne, rfl⟩ | ⟨h0, hr⟩
   ·have hh := HH.out
    dsimp only at hh
    simp only [Option.some.injEq, Prod.mk.injEq] at hh
    obtain ⟨rfl, rfl, rfl⟩ := hh
    have tne : ((gi xs m1 m2 m3 m4 m5 m6).2 != 0) = true := bg hne
    clear hne aA HCA
    generalize (gi xs m1 m2 m3 m4 m5 m6).2 = cd at *
    go_wp2
    go_ret3
    exact ⟨_, rfl, Kd.S_nil _ _ _ _ _, Below.trans HB.out (aJ.out.mono HB.out.size)⟩
   have aV := aM aA
   have aW := aM hr
   clear aA hr HCA
   generalize (gi xs m1 m2 m3 m4 m5 m6).1 = xs' at *
   rw [h0]
   clear h0
   go_wp2
   go_roundg (rs.length - (kk + 1))
   case measure => omega
   case rel => exact ⟨kk + 1, xs', Z31, Z31, by go_num, ⟨Kd.S_mono aV.out (fun _ _ => trivial)⟩, aJ, aW⟩
  have hltz : ¬ (kk : Int) < (rs.length : Int) := by omega
  obtain rfl : kk = rs.length := by omega
  have hr := HR.out
  rw [List.drop_of_length_le (bj _)] at hr
  have hoe := replF_nil hr
  subst hoe
  have hh := HH.out
  dsimp only at hh
  clear hr
  obtain ⟨AS, cS, rfl⟩ := Kd.S_slice HS.out
  by_cases J : O = 8
  ·rw [if_pos J] at hh
   simp only [Option.some.injEq, Prod.mk.injEq] at hh
   obtain ⟨rfl, rfl, rfl⟩ := hh
   subst J
   go_wp2
   go_ret3
   exact ⟨_, rfl, Kd.S_nil _ _ _ _ _, Below.trans HB.out (HBW.out.mono HB.out.size)⟩
  rw [if_neg J] at hh
  simp only [Option.some.injEq, Prod.mk.injEq] at hh
  obtain ⟨rfl, rfl, rfl⟩ := hh
  have t8 : (O == 8) = false := bb J
  clear J
  go_wp2
  go_ret3
  exact ⟨_, rfl, Kd.S_lower HS.out HB.out.size, Below.trans HB.out (HBW.out.mono HB.out.size)⟩
theorem fy.calls (k : Nat) (s : Int) (y : ByteArray) (D : Int) (I : List S82) (J M : Int) (w : World) (h : fy.f k s y D = some (I, J, M)) :
  Calls prog 48 #[.agg #[.int .i64 s, .string y, .int .i64 D]] w fun e w' => ∃ v0_ : Value, e = .returned (.tuple #[v0_, .int .i64 J, .int .i64 M]) /\ Kd.S k82 82 w' w.heap.size (fun _ => True) v0_ I /\ Below w.heap.size w w' := i_replay k s y D I J M w h
def eb.l0 : Nat -> List (S113) -> List (S113) -> Int -> Int -> Option (Bool)
 | 0, _, _, _, _ => none
 | k + 1, x0, x1, x12, s => if s < x12 then (if 0 <= s then (if s < (x0.length : Int) then (if s < (x1.length : Int) then (if (!(((ar x0 s).f0) == ((ar x1 s).f0)) || (!(((ar x0 s).f1) == ((ar x1 s).f1)) || (!((((ar x0 s).f2).toList) == (((ar x1 s).f2).toList))))) = true then (some false) else (eb.l0 k x0 x1 x12 (wrap64 (s + 1)))) else (none)) else (none)) else (none)) else (some true)
def eb.f (k : Nat) (l0 : List (S113)) (l1 : List (S113)) : Option (Bool) := if (l0.length : Int) = (l1.length : Int) then (eb.l0 k l0 l1 (l0.length : Int) 0) else (some false)
theorem eb.calls (k : Nat) (X : Option Addr) (c0 : Nat) (l0 : List (S113)) (Y : Option Addr) (c1 : Nat) (l1 : List (S113)) (r : Bool) (w : World) (hr0 : Kd.C k113 w X l0.length l0) (Z : l0.length <= c0) (M : Kd.C k113 w Y l1.length l1) (aA : l1.length <= c1) (h : eb.f k l0 l1 = some r) :
  Calls prog 93 #[.slice X l0.length c0, .slice Y l1.length c1] w fun e w' => e = .returned (.bool r) /\ ew w w' := by
 have aR := underlying113
 replace hr0 := aM hr0
 replace Z := aM Z
 replace M := aM M
 replace aA := aM aA
 have H := h
 clear h
 unfold eb.f at H
 by_cases c3 : (l0.length : Int) = (l1.length : Int)
 ·rw [if_pos c3] at H
  have aB := bf c3
  have aC := bc c3
  have aD : (l0.length == l1.length) = true := by first | simpa using c3 | (simp at c3 ⊢; omega)
  clear c3
  have H' := aM H
  clear H
  go_enter func93, ntmps93
  go_wp2
  repeat (go_quiet (fail); try go_wp2)
  go_loopg [13] k (fun kq aE w' => ∃ (s : Int), aE = .int .i64 s /\ ap (eb.l0 kq l0 l1 (l0.length : Int) s = some r) /\ ap (kq <= k) /\ ew w w')
  case atStart => exact ⟨(0), (Z3), H', ⟨bj _⟩, Z12⟩
  case round =>
   clear H'
   (try clear c1); (try clear c3); (try clear aB); (try clear aC); (try clear aD)
   obtain ⟨s, rfl, HA, HK1, ⟨m1, rfl⟩⟩ := hrel
   cases gk with
   | zero => exact absurd HA.out (by simp [eb.l0])
   | succ k1 =>
    have H := HA.out
    clear HA
    simp only [eb.l0] at H
    by_cases c4 : s < (l0.length : Int)
    ·rw [if_pos c4] at H
     have aG := az c4
     clear c4
     obtain ⟨c5, H⟩ := ifS H
     have aS := az c5
     clear c5
     obtain ⟨c6, H⟩ := ifS H
     have aT := az c6
     clear c6
     obtain ⟨c7, H⟩ := ifS H
     have aU := az c7
     clear c7
     by_cases c8 : (!(((ar l0 s).f0) == ((ar l1 s).f0)) || (!(((ar l0 s).f1) == ((ar l1 s).f1)) || (!((((ar l0 s).f2).toList) == (((ar l1 s).f2).toList))))) = true
     ·rw [if_pos c8] at H
      have aH : (!(((ar l0 s).f0) == ((ar l1 s).f0)) || (!(((ar l0 s).f1) == ((ar l1 s).f1)) || (!((((ar l0 s).f2).toList) == (((ar l1 s).f2).toList))))) = true := c8
      clear c8
      obtain rfl := oI H
      have y : 0 <= (s : Int) := dT (Z4)
      have D : s < (l0.length : Int) := dT (Z4)
      obtain ⟨aI, O, aJ, aK, aL⟩ := ed hr0.out s y D
      cases O
      replace y := bh y
      replace D := bh D
      have I : 0 <= (s : Int) := dT (Z4)
      have J : s < (l1.length : Int) := dT (Z4)
      obtain ⟨aN, U, aO, aP, aQ⟩ := ed M.out s I J
      cases U
      replace I := bh I
      replace J := bh J
      go_wp2
      repeat (go_quiet (fail); try go_wp2)
      go_ret
      exact ⟨Z3, Z12⟩
     rw [if_neg c8] at H
     have aH : (!(((ar l0 s).f0) == ((ar l1 s).f0)) || (!(((ar l0 s).f1) == ((ar l1 s).f1)) || (!((((ar l0 s).f2).toList) == (((ar l1 s).f2).toList))))) = false := by simpa using c8
     clear c8
     have H' := aM H
     clear H
     have y : 0 <= (s : Int) := dT (Z4)
     have D : s < (l0.length : Int) := dT (Z4)
     obtain ⟨aI, O, aJ, aK, aL⟩ := ed hr0.out s y D
     cases O
     replace y := bh y
     replace D := bh D
     have I : 0 <= (s : Int) := dT (Z4)
     have J : s < (l1.length : Int) := dT (Z4)
     obtain ⟨aN, U, aO, aP, aQ⟩ := ed M.out s I J
     cases U
     replace I := bh I
     replace J := bh J
     go_wp2
     repeat (go_quiet (fail); try go_wp2)
     go_roundg k1
     case measure => have := HK1.out; omega
     case rel => exact ⟨(wrap64 (s + 1)), (Z3), H', ⟨Z85⟩, Z12⟩
    rw [if_neg c4] at H
    have aG := ba c4
    clear c4
    obtain rfl := oI H
    go_wp2
    repeat (go_quiet (fail); try go_wp2)
    go_ret
    exact ⟨Z3, Z12⟩
 rw [if_neg c3] at H
 have aB := bb c3
 have aC := bg c3
 have aD : (l0.length == l1.length) = false := by first | simpa using c3 | (simp at c3 ⊢; omega)
 obtain rfl := oI H
 go_enter func93, ntmps93
 go_wp2
 repeat (go_quiet (fail); try go_wp2)
 go_ret
 exact ⟨Z3, Z12⟩
def cp.l0 : Nat -> List ByteArray -> List ByteArray -> Int -> Int -> Option (Bool)
 | 0, _, _, _, _ => none
 | k + 1, x0, x1, x12, s => if s < x12 then (if 0 <= s then (if s < (x0.length : Int) then (if s < (x1.length : Int) then (if (gb ByteArray.empty x0 s).toList = (gb ByteArray.empty x1 s).toList then (cp.l0 k x0 x1 x12 (wrap64 (s + 1))) else (some false)) else (none)) else (none)) else (none)) else (some true)
def cp.f (k : Nat) (l0 : List ByteArray) (l1 : List ByteArray) : Option (Bool) := if (l0.length : Int) = (l1.length : Int) then (cp.l0 k l0 l1 (l0.length : Int) 0) else (some false)
theorem cp.calls (k : Nat) (X : Option Addr) (c0 : Nat) (l0 : List ByteArray) (Y : Option Addr) (c1 : Nat) (l1 : List ByteArray) (r : Bool) (w : World) (hr0 : Kd.C Kd.string w X l0.length l0) (Z : l0.length <= c0) (M : Kd.C Kd.string w Y l1.length l1) (aA : l1.length <= c1) (h : cp.f k l0 l1 = some r) :
  Calls prog 94 #[.slice X l0.length c0, .slice Y l1.length c1] w fun e w' => e = .returned (.bool r) /\ ew w w' := by
 replace hr0 := aM hr0
 replace Z := aM Z
 replace M := aM M
 replace aA := aM aA
 have H := h
 clear h
 unfold cp.f at H
 by_cases c3 : (l0.length : Int) = (l1.length : Int)
 ·rw [if_pos c3] at H
  have aB := bf c3
  have aC := bc c3
  have aD : (l0.length == l1.length) = true := by first | simpa using c3 | (simp at c3 ⊢; omega)
  clear c3
  have H' := aM H
  clear H
  go_enter func94, ntmps94
  go_wp2
  repeat (go_quiet (fail); try go_wp2)
  go_loopg [13] k (fun kq aE w' => ∃ (s : Int), aE = .int .i64 s /\ ap (cp.l0 kq l0 l1 (l0.length : Int) s = some r) /\ ap (kq <= k) /\ ew w w')
  case atStart => exact ⟨(0), (Z3), H', ⟨bj _⟩, Z12⟩
  case round =>
   clear H'
   (try clear c1); (try clear c3); (try clear aB); (try clear aC); (try clear aD)
   obtain ⟨s, rfl, HA, HK1, ⟨m1, rfl⟩⟩ := hrel
   cases gk with
   | zero => exact absurd HA.out (by simp [cp.l0])
   | succ k1 =>
    have H := HA.out
    clear HA
    simp only [cp.l0] at H
    by_cases c4 : s < (l0.length : Int)
    ·rw [if_pos c4] at H
     have aG := az c4
     clear c4
     obtain ⟨c5, H⟩ := ifS H
     have aO := az c5
     clear c5
     obtain ⟨c6, H⟩ := ifS H
     have aP := az c6
     clear c6
     obtain ⟨c7, H⟩ := ifS H
     have aQ := az c7
     clear c7
     by_cases c8 : (gb ByteArray.empty l0 s).toList = (gb ByteArray.empty l1 s).toList
     ·rw [if_pos c8] at H
      have aH := bf c8
      have aI := bc c8
      clear c8
      have H' := aM H
      clear H
      have y : 0 <= (s : Int) := dT (Z4)
      have D : s < (l0.length : Int) := dT (Z4)
      obtain ⟨aJ, O, aK⟩ := Kd.at_string hr0.out s y D
      cases O
      replace y := bh y
      replace D := bh D
      have I : 0 <= (s : Int) := dT (Z4)
      have J : s < (l1.length : Int) := dT (Z4)
      obtain ⟨aL, U, aN⟩ := Kd.at_string M.out s I J
      cases U
      replace I := bh I
      replace J := bh J
      go_wp2
      repeat (go_quiet (fail); try go_wp2)
      go_roundg k1
      case measure => have := HK1.out; omega
      case rel => exact ⟨(wrap64 (s + 1)), (Z3), H', ⟨Z85⟩, Z12⟩
     rw [if_neg c8] at H
     have aH := bb c8
     have aI := bg c8
     obtain rfl := oI H
     have y : 0 <= (s : Int) := dT (Z4)
     have D : s < (l0.length : Int) := dT (Z4)
     obtain ⟨aJ, O, aK⟩ := Kd.at_string hr0.out s y D
     cases O
     replace y := bh y
     replace D := bh D
     have I : 0 <= (s : Int) := dT (Z4)
     have J : s < (l1.length : Int) := dT (Z4)
     obtain ⟨aL, U, aN⟩ := Kd.at_string M.out s I J
     cases U
     replace I := bh I
     replace J := bh J
     go_wp2
     repeat (go_quiet (fail); try go_wp2)
     go_ret
     exact ⟨Z3, Z12⟩
    rw [if_neg c4] at H
    have aG := ba c4
    clear c4
    obtain rfl := oI H
    go_wp2
    repeat (go_quiet (fail); try go_wp2)
    go_ret
    exact ⟨Z3, Z12⟩
 rw [if_neg c3] at H
 have aB := bb c3
 have aC := bg c3
 have aD : (l0.length == l1.length) = false := by first | simpa using c3 | (simp at c3 ⊢; omega)
 obtain rfl := oI H
 go_enter func94, ntmps94
 go_wp2
 repeat (go_quiet (fail); try go_wp2)
 go_ret
 exact ⟨Z3, Z12⟩
def sameB (k : Nat) (x y : S82) : Option Bool := if x.f0.toList = y.f0.toList then (if x.f1 = y.f1 then (if x.f2 = y.f2 then (eb.f k x.f3 y.f3).bind fun b => (if b = true then cp.f k x.f4 y.f4 else some false) else some false) else some false) else some false
def sameF (k : Nat) : List S82 -> List S82 -> Option Bool
 | x :: xs, y :: ys => (sameB k x y).bind fun b => if b = true then sameF k xs ys else some false
 | _, _ => some true
def gr.f (k : Nat) (l0 l1 : List S82) : Option Bool := if l0.length = l1.length then (if l0.length <= 1099511627776 then sameF k l0 l1 else none) else some false
theorem sameF_drop {k : Nat} {l0 l1 : List S82} {kk : Nat} {r : Bool} (h : sameF k (l0.drop kk) (l1.drop kk) = some r) (s : kk < l0.length) (h1 : kk < l1.length) :
  ∃ b, sameB k (ax l0 (kk : Int)) (ax l1 (kk : Int)) = some b /\ (b = false /\ r = false ∨ b = true /\ sameF k (l0.drop (kk + 1)) (l1.drop (kk + 1)) = some r) := by
 rw [List.drop_eq_getElem_cons s, List.drop_eq_getElem_cons h1] at h
 unfold sameF at h
 obtain ⟨b, hb, h⟩ := Option.bind_eq_some_iff.mp h
 refine ⟨b, by rw [rdBox l0 kk s, rdBox l1 kk h1]; exact hb, ?_⟩
 cases b with
 | true => rw [if_pos rfl] at h; exact .inr ⟨rfl, h⟩
 | false => rw [if_neg (fg)] at h; injection h with h; exact .inl ⟨rfl, h.symm⟩
theorem same_clo (k : Nat) (x y : S82) (D M B3 B4 : Option Addr) (c3 c4 I O : Nat) (r : Bool) (w : World) (X : Kd.C k113 w D x.f3.length x.f3) (Y : x.f3.length <= c3) (Z : Kd.C Kd.string w M x.f4.length x.f4) (l4 : x.f4.length <= c4)
  (g3 : Kd.C k113 w B3 y.f3.length y.f3) (m3 : y.f3.length <= I) (g4 : Kd.C Kd.string w B4 y.f4.length y.f4) (m4 : y.f4.length <= O) (h : sameB k x y = some r) :
  Calls prog 92 #[.agg #[.string x.f0, .int .i64 x.f1, .int .i64 x.f2, .slice D x.f3.length c3, .slice M x.f4.length c4], .agg #[.string y.f0, .int .i64 y.f1, .int .i64 y.f2, .slice B3 y.f3.length I, .slice B4 y.f4.length O]] w fun e w' => e = .returned (.bool r) /\ Below w.heap.size w w' := by
 have H3 := aM (Kd.C_alloc (Kd.C_alloc X (.cells #[.string x.f0, .int .i64 x.f1, .int .i64 x.f2, .slice D x.f3.length c3, .slice M x.f4.length c4] 82)) (.cells #[.string y.f0, .int .i64 y.f1, .int .i64 y.f2, .slice B3 y.f3.length I, .slice B4 y.f4.length O] 82))
 have H4 := aM (Kd.C_alloc (Kd.C_alloc Z (.cells #[.string x.f0, .int .i64 x.f1, .int .i64 x.f2, .slice D x.f3.length c3, .slice M x.f4.length c4] 82)) (.cells #[.string y.f0, .int .i64 y.f1, .int .i64 y.f2, .slice B3 y.f3.length I, .slice B4 y.f4.length O] 82))
 have G3 := aM (Kd.C_alloc (Kd.C_alloc g3 (.cells #[.string x.f0, .int .i64 x.f1, .int .i64 x.f2, .slice D x.f3.length c3, .slice M x.f4.length c4] 82)) (.cells #[.string y.f0, .int .i64 y.f1, .int .i64 y.f2, .slice B3 y.f3.length I, .slice B4 y.f4.length O] 82))
 have G4 := aM (Kd.C_alloc (Kd.C_alloc g4 (.cells #[.string x.f0, .int .i64 x.f1, .int .i64 x.f2, .slice D x.f3.length c3, .slice M x.f4.length c4] 82)) (.cells #[.string y.f0, .int .i64 y.f1, .int .i64 y.f2, .slice B3 y.f3.length I, .slice B4 y.f4.length O] 82))
 have HH := aM h
 clear X Z g3 g4 h
 unfold sameB at HH
 by_cases s : x.f0.toList = y.f0.toList
 ·have t0 : (x.f0.toList == y.f0.toList) = true := bf s
  by_cases J : x.f1 = y.f1
  ·have t1 : (x.f1 == y.f1) = true := bf J
   by_cases U : x.f2 = y.f2
   ·have t2 : (x.f2 == y.f2) = true := bf U
    have hh := HH.out
    rw [if_pos s, if_pos J, if_pos U] at hh
    obtain ⟨b, hb, hh⟩ := Option.bind_eq_some_iff.mp hh
    have HB := aM hb
    clear hb HH s J U
    cases b with
    | true =>
     rw [if_pos rfl] at hh
     have HS := aM hh
     clear hh
     go_enter func92, ntmps92
     go_wp2_with (first | (go_at_call 93; refine (eb.calls k D c3 x.f3 B3 I y.f3 true _ (by (with_reducible repeat (first | exact H3.out | apply Kd.C_drewN | apply Kd.C_drew))) Y (by (with_reducible repeat (first | exact G3.out | apply Kd.C_drewN | apply Kd.C_drew))) m3 HB.out).mono ?_; rintro e w' ⟨rfl, ⟨n1, rfl⟩⟩) | (go_at_call 94; refine (cp.calls k M c4 x.f4 B4 O y.f4 r _ (by (with_reducible repeat (first | exact H4.out | apply Kd.C_drewN | apply Kd.C_drew))) l4 (by (with_reducible repeat (first | exact G4.out | apply Kd.C_drewN | apply Kd.C_drew))) m4 HS.out).mono ?_; rintro e w' ⟨rfl, ⟨n2, rfl⟩⟩))
     go_ret
     exact ⟨rfl, Z6⟩
    | false =>
     rw [if_neg (fg)] at hh
     injection hh with hh
     subst hh
     go_enter func92, ntmps92
     go_wp2_with (first | (go_at_call 93; refine (eb.calls k D c3 x.f3 B3 I y.f3 false _ (by (with_reducible repeat (first | exact H3.out | apply Kd.C_drewN | apply Kd.C_drew))) Y (by (with_reducible repeat (first | exact G3.out | apply Kd.C_drewN | apply Kd.C_drew))) m3 HB.out).mono ?_; rintro e w' ⟨rfl, ⟨n1, rfl⟩⟩))
     go_ret
     exact ⟨rfl, Z6⟩
   have t2 : (x.f2 == y.f2) = false := bb U
   have hh := HH.out
   rw [if_pos s, if_pos J, if_neg U] at hh
   injection hh with hh
   subst hh
   clear HH s J U
   go_enter func92, ntmps92
   go_wp2
   go_ret
   exact ⟨rfl, Z6⟩
  have t1 : (x.f1 == y.f1) = false := bb J
  have hh := HH.out
  rw [if_pos s, if_neg J] at hh
  injection hh with hh
  subst hh
  clear HH s J
  go_enter func92, ntmps92
  go_wp2
  go_ret
  exact ⟨rfl, Z6⟩
 have t0 : (x.f0.toList == y.f0.toList) = false := bb s
 have hh := HH.out
 rw [if_neg s] at hh
 injection hh with hh
 subst hh
 clear HH s
 go_enter func92, ntmps92
 go_wp2
 go_ret
 exact ⟨rfl, Z6⟩
theorem same_eqf (k : Nat) (U X : Option Addr) (c0 c1 : Nat) (l0 l1 : List S82) (r : Bool) (w : World) (hr0 : Kd.C k82 w U l0.length l0) (O : Kd.C k82 w X l1.length l1) (h : gr.f k l0 l1 = some r) :
  Calls prog 91 #[.slice U l0.length c0, .slice X l1.length c1, .func (.func 92) #[] #[]] w fun e w' => e = .returned (.bool r) /\ Below w.heap.size w w' := by
 have eg := enters_of func92 (Z16) rfl
 unfold gr.f at h
 by_cases hl : l0.length = l1.length
 ·rw [if_pos hl] at h
  have hs : l0.length <= 1099511627776 := by
   by_cases c : l0.length <= 1099511627776
   ·exact c
   rw [if_neg c] at h; cases h
  rw [if_pos hs] at h
  have tn : ((l0.length : Int) != (l1.length : Int)) = false := bc (Z31)
  have aJ := aM hr0
  have aK := aM O
  have HH := aM h
  have HLL := aM hl
  clear hr0 O h hl
  go_enter func91, ntmps91
  go_wp2
  go_loopg [7, 17] l0.length (fun gg _ aL wr => ∃ kk : Nat, kk <= l0.length /\ l0.length - kk <= gg /\ aL = .int .i64 kk /\ ap (Below w.heap.size w wr) /\ ap (sameF k (l0.drop kk) (l1.drop kk) = some r))
  case atStart => exact ⟨0, Nat.zero_le _, Z31, rfl, ⟨bi _ w⟩, HH⟩
  case round =>
   obtain ⟨kk, hkk, hg, rfl, BW, AI⟩ := hrel
   by_cases hlt : kk < l0.length
   ·have aN : kk < l1.length := by have := HLL.out; omega
    have hltz : (kk : Int) < (l0.length : Int) := by omega
    have aO : (kk : Int) < (l1.length : Int) := by omega
    have Y : 0 <= (kk : Int) := by omega
    obtain ⟨b, hb, hcase⟩ := sameF_drop AI.out hlt aN
    obtain ⟨ad, Z, c3, A4, c4, e, aP, hx1, aQ, aR, aS, l3, C3, l4, C4⟩ := em (Kd.C_below aJ.out BW.out) kk Y hltz
    cases e
    obtain ⟨aT, B3, d3, B4, d4, e, s, D, I, J, M, m3, D3, m4, D4⟩ := em (Kd.C_below aK.out BW.out) kk Y aO
    cases e
    simp only [Int.toNat_natCast] at aP hx1 aQ aR aS s D I J M
    generalize ax l0 (kk : Int) = x at *
    generalize ax l1 (kk : Int) = y at *
    have HCC := aM (And.intro C3 (And.intro C4 (And.intro D3 D4)))
    have HBB := aM hb
    have HCA := aM hcase
    have s' := fun o => ((ab (bi wr.heap.size wr) o).cell (World.block_lt_of_cell? wr _ s)).trans s
    have D' := fun o => ((ab (bi wr.heap.size wr) o).cell (World.block_lt_of_cell? wr _ D)).trans D
    have I' := fun o => ((ab (bi wr.heap.size wr) o).cell (World.block_lt_of_cell? wr _ I)).trans I
    have J' := fun o => ((ab (bi wr.heap.size wr) o).cell (World.block_lt_of_cell? wr _ J)).trans J
    have M' := fun o => ((ab (bi wr.heap.size wr) o).cell (World.block_lt_of_cell? wr _ M)).trans M
    clear C3 C4 D3 D4 hb hcase AI
    rcases HCA.out with ⟨rfl, rfl⟩ | ⟨rfl, hnx⟩
    ·clear HCA
     go_wp2_with (go_at_call 92; refine (same_clo k x y Z A4 B3 B4 c3 c4 d3 d4 false _ (by (with_reducible repeat (first | exact HCC.out.1 | apply Kd.C_alloc))) l3 (by (with_reducible repeat (first | exact HCC.out.2.1 | apply Kd.C_alloc))) l4 (by (with_reducible repeat (first | exact HCC.out.2.2.1 | apply Kd.C_alloc))) m3 (by (with_reducible repeat (first | exact HCC.out.2.2.2 | apply Kd.C_alloc))) m4 HBB.out).mono ?_; rintro e w' ⟨rfl, hb'⟩)
     go_ret
     exact ⟨rfl, Below.trans BW.out ((Below.trans (ab (ab (bi _ _) _) _) (hb'.mono (by simp; omega))).mono BW.out.size)⟩
    have HNX := aM hnx
    clear HCA hnx
    go_wp2_with (go_at_call 92; refine (same_clo k x y Z A4 B3 B4 c3 c4 d3 d4 true _ (by (with_reducible repeat (first | exact HCC.out.1 | apply Kd.C_alloc))) l3 (by (with_reducible repeat (first | exact HCC.out.2.1 | apply Kd.C_alloc))) l4 (by (with_reducible repeat (first | exact HCC.out.2.2.1 | apply Kd.C_alloc))) m3 (by (with_reducible repeat (first | exact HCC.out.2.2.2 | apply Kd.C_alloc))) m4 HBB.out).mono ?_; rintro e w' ⟨rfl, hb'⟩)
    go_roundg (l0.length - (kk + 1))
    case measure => omega
    case rel => exact ⟨kk + 1, Z31, Z31, by go_num, ⟨Below.trans BW.out ((Below.trans (ab (ab (bi _ _) _) _) (hb'.mono (by simp; omega))).mono BW.out.size)⟩, HNX⟩
   have hltz : ¬ (kk : Int) < (l0.length : Int) := by omega
   obtain rfl : kk = l0.length := by omega
   have hh := AI.out
   rw [List.drop_of_length_le (bj _)] at hh
   unfold sameF at hh
   injection hh with hh
   subst hh
   go_wp2
   go_ret
   exact ⟨rfl, BW.out⟩
 rw [if_neg hl] at h
 injection h with h
 subst h
 have tn : ((l0.length : Int) != (l1.length : Int)) = true := bg (Z31)
 clear hr0 O
 go_enter func91, ntmps91
 go_wp2
 go_ret
 exact ⟨rfl, bi _ _⟩
theorem gr.calls (k : Nat) (s : Option Addr) (c0 : Nat) (l0 : List S82) (y : Option Addr) (c1 : Nat) (l1 : List S82) (r : Bool) (w : World) (hr0 : Kd.C k82 w s l0.length l0) (I : l0.length <= c0) (D : Kd.C k82 w y l1.length l1) (J : l1.length <= c1) (h : gr.f k l0 l1 = some r) :
  Calls prog 49 #[.slice s l0.length c0, .slice y l1.length c1] w fun e w' => e = .returned (.bool r) /\ Below w.heap.size w w' := by
 replace hr0 := aM hr0
 replace D := aM D
 have HH := aM h
 clear  h
 go_enter func49, ntmps49
 go_wp2_with (go_at_call 91; refine (same_eqf k s y c0 c1 l0 l1 r _ hr0.out D.out HH.out).mono ?_; rintro e w' ⟨rfl, hb'⟩)
 go_ret
 exact ⟨rfl, hb'⟩
def eh.j0 : Nat -> Bool -> Int -> ByteArray -> Int -> List (S82) -> Option (Bool)
 | 0, _, _, _, _, _ => none
 | k + 1, J, s, y, D, M => if J = true then (some false) else ((eo.f s y D).bind fun O => (if O.2.2 = 0 then ((fy.f k s y D).bind fun I => (if I.2.2 = 0 then ((gr.f k I.1 M).bind fun U => (some U)) else (some false))) else (some false)))
def eh.f (k : Nat) (D : Int) (s : ByteArray) (y : Int) (l0_3 : List (S82)) : Option (Bool) := (impl_LogOK.f D s y).bind fun I => (if I = true then (if y = (s.size : Int) then ((eu.f k l0_3).bind fun J => (eh.j0 k (!J) D s y l0_3)) else (eh.j0 k true D s y l0_3)) else (eh.j0 k true D s y l0_3))
theorem eh.calls (k : Nat) (D : Int) (s : ByteArray) (y : Int) (X : Option Addr) (Y : Nat) (l0_3 : List (S82)) (r : Bool) (w : World) (Z : Kd.C k82 w X l0_3.length l0_3) (aA : l0_3.length <= Y) (h : eh.f k D s y l0_3 = some r) :
  Calls prog 24 #[.agg #[.int .i64 D, .string s, .int .i64 y, .slice X l0_3.length Y]] w fun e w' => e = .returned (.bool r) /\ Below w.heap.size w w' := by
 have a7 := underlying35
 have a8 := underlying32
 replace Z := aM Z
 replace aA := aM aA
 have HB := aM (bi w.heap.size w)
 have H := h
 clear h
 unfold eh.f at H
 have aE := aM H
 clear H
 go_enter func24, ntmps24
 go_upto_region 1 with (first | ((with_reducible refine gD 1 ?_); (try (refine dl (Z96) ?_; dsimp only)); refine bxF w 1 #[.int .i64 D, .string s, .int .i64 y, .slice X l0_3.length Y] 35 (Z0) ?_; intro aS hg w3 BK398 a9 GE398 HB hb; clear hb hg))
 (try simp only [Act.put, List.setIfInBounds_toArray, List.set_cons_zero, List.set_cons_succ])
 go_cut [28] (fun aT wc => ∃ (kq : Nat) (aB : Bool), aT = .bool aB /\ ap (eh.j0 kq aB D s y l0_3 = some r) /\ ap (kq <= k) /\ ap (wc.heap[aS]? = some (.cells #[.int .i64 D, .string s, .int .i64 y, (.slice X l0_3.length Y)] 35 (0, 0))) /\ ap (Below w.heap.size w wc))
 case first =>
  have H := aE.out
  clear aE
  obtain ⟨aU, A4, H⟩ := cz H
  try dsimp only at H
  by_cases c5 : aU = true
  ·subst c5
   replace H := ifT H
   by_cases c6 : y = (s.size : Int)
   ·rw [if_pos c6] at H
    have U := bf c6
    have aG := bc c6
    clear c6
    (first | rw [U] | rw [aG] | (simp only [i64_w, i32_w]; rw [U]) | skip)
    obtain ⟨aO, A7, H⟩ := cz H
    try dsimp only at H
    have H' := aM H
    clear H
    refine bD4 BK398 ?_
    intros
    go_wp2_with (first | ((with_reducible refine gC 45 ?_); refine gL 11 func45 #[.agg #[.int .i64 D, .string s, .int .i64 y]] ?_; (with_reducible refine (impl_LogOK.calls D s y true _ A4.out).mono ?_); rintro e w9 ⟨rfl, hb⟩; refine ⟨_, rfl, ?_⟩; replace BK398 := aM (kB BK398 (Z58) hb); replace HB := aM (ae (Z23) hb); (try clear hb); refine bD4 BK398 ?_; intros) | (go_at_call 46; (with_reducible refine (eu.calls k _ _ l0_3 aO _ ?Y1 ?Y2 A7.out).mono ?_); (case Y1 => have h_ := Kd.C_below Z.out HB.out; exact tC); (case Y2 => exact aA.out); rintro e bB ⟨rfl, hb⟩; replace BK398 := aM (kB BK398 (Z58) hb); replace HB := aM (ae (Z23) hb); (try clear hb)))
    go_meet
    case rel => exact ⟨_, (!aO), (Z3), H', ⟨Z82⟩, ⟨Z58⟩, ⟨Z23⟩⟩
   rw [if_neg c6] at H
   have U := bb c6
   have aG := bg c6
   (first | rw [U] | rw [aG] | (simp only [i64_w, i32_w]; rw [U]) | skip)
   have H' := aM H
   clear H
   refine bD4 BK398 ?_
   intros
   go_wp2_with (first | ((with_reducible refine gC 45 ?_); refine gL 11 func45 #[.agg #[.int .i64 D, .string s, .int .i64 y]] ?_; (with_reducible refine (impl_LogOK.calls D s y true _ A4.out).mono ?_); rintro e bC ⟨rfl, hb⟩; refine ⟨_, rfl, ?_⟩; replace BK398 := aM (kB BK398 (Z58) hb); replace HB := aM (ae (Z23) hb); (try clear hb); refine bD4 BK398 ?_; intros))
   go_meet
   case rel => exact ⟨_, (true), (Z3), H', ⟨Z82⟩, ⟨Z58⟩, ⟨Z23⟩⟩
  replace c5 := be c5
  subst c5
  replace H := ifF H
  have H' := aM H
  clear H
  refine bD4 BK398 ?_
  intros
  go_wp2_with (first | ((with_reducible refine gC 45 ?_); refine gL 11 func45 #[.agg #[.int .i64 D, .string s, .int .i64 y]] ?_; (with_reducible refine (impl_LogOK.calls D s y false _ A4.out).mono ?_); rintro e bD ⟨rfl, hb⟩; refine ⟨_, rfl, ?_⟩; replace BK398 := aM (kB BK398 (Z58) hb); replace HB := aM (ae (Z23) hb); (try clear hb)))
  go_meet
  case rel => exact ⟨_, (true), (Z3), H', ⟨Z82⟩, ⟨Z58⟩, ⟨Z23⟩⟩
 case rest =>
  clear aE
  obtain ⟨kq, aB, rfl, HA, HJ1, BK398, HB⟩ := hcut
  cases kq with
  | zero => exact absurd HA.out (by simp [eh.j0])
  | succ aH =>
   have H := HA.out
   clear HA
   simp only [eh.j0] at H
   by_cases aC : aB = true
   ·subst aC
    replace H := ifT H
    obtain rfl := oI H
    go_wp2
    go_ret
    exact ⟨Z1, Z23⟩
   replace aC := be aC
   subst aC
   replace H := ifF H
   obtain ⟨⟨aI, aJ, aD⟩, aK, H⟩ := cz H
   try dsimp only at H
   by_cases J : aD = 0
   ·rw [if_pos J] at H
    have aW := bf J
    have aX := bc J
    clear J
    obtain ⟨⟨aL, aP, aN⟩, aQ, H⟩ := cz H
    try dsimp only at H
    by_cases M : aN = 0
    ·rw [if_pos M] at H
     have aY := bf M
     have aZ := bc M
     clear M
     obtain ⟨a2, a3, H⟩ := cz H
     try dsimp only at H
     obtain rfl := oI H
     refine bD4 BK398 ?_
     intros
     go_wp2_with (first | ((with_reducible refine gC 47 ?_); refine gL 32 func47 #[.agg #[.int .i64 D, .string s, .int .i64 y]] ?_; (with_reducible refine (eo.calls D s y aI aJ aD _ aK.out).mono ?_); rintro e bE ⟨aR, rfl, I, hb⟩; refine ⟨_, rfl, ?_⟩; have HO403 := aM (Kd.R_lower I (ct (Z23))); replace BK398 := aM (kB BK398 (Z58) hb); replace HB := aM (ae (Z23) hb); (try clear hb); (try clear I); refine bD4 BK398 ?_; intros) | ((with_reducible refine gC 48 ?_); refine gL 41 func48 #[.agg #[.int .i64 D, .string s, .int .i64 y]] ?_; (with_reducible refine (fy.calls aH D s y aL aP aN _ aQ.out).mono ?_); rintro e bF ⟨a5, rfl, I, hb⟩; refine ⟨_, rfl, ?_⟩; have O := aM (Kd.S_lower (Kd.S_new' I (Kd.R_lt (Z135))) (ct (Z23))); replace HO403 := aM (Kd.R_below (Z135) hb); replace BK398 := aM (kB BK398 (Z58) hb); replace HB := aM (ae (Z23) hb); (try clear hb); (try clear I); refine bD4 BK398 ?_; intros; obtain ⟨bG, bH, a6⟩ := Kd.S_slice O.out; subst a6) | (go_at_call 49; (with_reducible refine (gr.calls aH _ _ aL _ _ l0_3 a2 _ ?Y1 ?Y2 ?Y3 ?Y4 a3.out).mono ?_); (case Y1 => have h_ := (Kd.S_reads' O.out).2.2; exact tC); (case Y2 => exact (Kd.S_reads' O.out).2.1); (case Y3 => have h_ := Kd.C_below Z.out HB.out; exact tC); (case Y4 => exact aA.out); rintro e bI ⟨rfl, hb⟩; replace HO403 := aM (Kd.R_below (Z135) hb); replace O := aM (Kd.S_below (by (with_reducible repeat (first | apply Kd.S_alloc | apply Kd.S_drewN | apply Kd.S_drew)); exact O.out) hb); replace BK398 := aM (kB BK398 (Z58) hb); replace HB := aM (ae (Z23) hb); (try clear hb)))
     go_ret
     exact ⟨Z1, Z23⟩
    rw [if_neg M] at H
    have aY := bb M
    have aZ := bg M
    obtain rfl := oI H
    refine bD4 BK398 ?_
    intros
    go_wp2_with (first | ((with_reducible refine gC 47 ?_); refine gL 32 func47 #[.agg #[.int .i64 D, .string s, .int .i64 y]] ?_; (with_reducible refine (eo.calls D s y aI aJ aD _ aK.out).mono ?_); rintro e bJ ⟨aR, rfl, I, hb⟩; refine ⟨_, rfl, ?_⟩; have HO403 := aM (Kd.R_lower I (ct (Z23))); replace BK398 := aM (kB BK398 (Z58) hb); replace HB := aM (ae (Z23) hb); (try clear hb); (try clear I); refine bD4 BK398 ?_; intros) | ((with_reducible refine gC 48 ?_); refine gL 41 func48 #[.agg #[.int .i64 D, .string s, .int .i64 y]] ?_; (with_reducible refine (fy.calls aH D s y aL aP aN _ aQ.out).mono ?_); rintro e bK ⟨a5, rfl, I, hb⟩; refine ⟨_, rfl, ?_⟩; have O := aM (Kd.S_lower (Kd.S_new' I (Kd.R_lt (Z135))) (ct (Z23))); replace HO403 := aM (Kd.R_below (Z135) hb); replace BK398 := aM (kB BK398 (Z58) hb); replace HB := aM (ae (Z23) hb); (try clear hb); (try clear I)))
    go_ret
    exact ⟨Z1, Z23⟩
   rw [if_neg J] at H
   have aW := bb J
   have aX := bg J
   obtain rfl := oI H
   refine bD4 BK398 ?_
   intros
   go_wp2_with (first | ((with_reducible refine gC 47 ?_); refine gL 32 func47 #[.agg #[.int .i64 D, .string s, .int .i64 y]] ?_; (with_reducible refine (eo.calls D s y aI aJ aD _ aK.out).mono ?_); rintro e bL ⟨aR, rfl, I, hb⟩; refine ⟨_, rfl, ?_⟩; have HO403 := aM (Kd.R_lower I (ct (Z23))); replace BK398 := aM (kB BK398 (Z58) hb); replace HB := aM (ae (Z23) hb); (try clear hb); (try clear I)))
   go_ret
   exact ⟨Z1, Z23⟩
def impl_Stored_123.f (l : List S113) : Option (List S113) := if l.length < 4398046511104 then some l else none
theorem impl_Stored_123.calls (s : Option Addr) (c0 : Nat) (l0 r : List S113) (w : World) (hr0 : Kd.C k113 w s l0.length l0) (I : l0.length <= c0) (h : impl_Stored_123.f l0 = some r) :
  Calls prog 123 #[.slice s l0.length c0] w fun e w' => ∃ v0_ : Value, e = .returned (v0_) /\ Kd.R k113 113 w' w.heap.size (fun _ => True) v0_ r /\ Below w.heap.size w w' := by
 unfold impl_Stored_123.f at h
 split at h
 case isFalse => cases h
 rename_i hl
 obtain rfl := Option.some.inj h
 have HR := aM hr0
 have HL := aM hl
 have hno : s = none -> l0 = [] := fun e => by
  cases l0 with
  | nil => rfl
  | cons x t => obtain ⟨a, y, _⟩ := hr0.2.2 (fg); rw [e] at y; cases y
 have hq : ∀ (W : World) (a : Option Addr) (n c : Nat), (binOp .eql 80 (.slice a n c) (.slice none 0 0)).run prog W = .ok (.bool a.isNone) W := fun W a n c => Lib.run_eql_slice_nil W _ _ a n c 0 0 underlying80
 clear h hr0 hl I
 go_enter func123, ntmps123
 cases s with
 | none =>
  obtain rfl := hno rfl
  have J := hq w none 0 c0
  clear hq
  go_wp2
  go_ret
  exact ⟨_, rfl, Kd.R_nil .., bi _ _⟩
 | some a =>
  have J := hq w (some a) l0.length c0
  clear hno hq
  go_wp2_with (first | ((with_reducible refine gD 5 ?_); refine Kd.R_lit k113 _ 113 ?hg (N := 5) ?hd (xs := ([] : List S113)) (inner := []) (ok := fun _ => True) (okp := fun _ => True) ?hr ?hp (fun _ hk => hk) trivial (bi _ _) (bj _) (fg) ?_; (case hd => rfl); (case hg => rfl); (case hr => first | (go_simp; done) | (go_simp; rfl)); (case hp => exact (fc.none _ _)); intro M w1 ho hb hg_ hnew_; have HO := aM ho; have HB := aM hb; clear hg_ hnew_ ho hb) | ((with_reducible refine gate_builtin (b := .append) (xs := #[.tmp 5, .tmp 6]) rfl ?_); at_builtin; refine Kd.R_append_rows k113 (w0 := w) w.heap.size rfl (.tmp 5) (.tmp 6) 80 113 (.agg #[(.int .i64 0), (.int .i64 0), (.string ⟨#[]⟩)]) 32 rfl underlying80 info113 rfl (Z68) (Z31) M ([] : List S113) l0 _ _ _ (fun _ => True) (fun _ => False) rfl rfl ?aO ?aR (fun _ _ h => h) (fun _ h => h.elim) ?aF ?aB ?aS ?aL ?_; (case aR => exact Kd.C_below HR.out HB.out); (case aB => exact HB.out); (case aF => exact (fun _ _ => trivial)); (case aO => exact HO.out); (case aS => exact HB.out.size); (case aL => have := HL.out; simp; omega); intro U w2 ho hb hg hat; have D := aM ho; have HB2 := aM hb; clear ho hb hg hat; obtain ⟨X, Y, O⟩ := Kd.R_slice D.out; subst O))
  go_ret
  exact ⟨_, rfl, D.out, HB2.out⟩
def fj.f (l : List ByteArray) : Option (List ByteArray) := if l.length < 8796093022208 then some l else none
theorem fj.calls (s : Option Addr) (c0 : Nat) (l0 r : List ByteArray) (w : World) (hr0 : Kd.C Kd.string w s l0.length l0) (I : l0.length <= c0) (h : fj.f l0 = some r) :
  Calls prog 124 #[.slice s l0.length c0] w fun e w' => ∃ v0_ : Value, e = .returned (v0_) /\ Kd.R Kd.string 9 w' w.heap.size (fun _ => True) v0_ r /\ Below w.heap.size w w' := by
 unfold fj.f at h
 split at h
 case isFalse => cases h
 rename_i hl
 obtain rfl := Option.some.inj h
 have HR := aM hr0
 have HL := aM hl
 have hno : s = none -> l0 = [] := fun e => by
  cases l0 with
  | nil => rfl
  | cons x t => obtain ⟨a, y, _⟩ := hr0.2.2 (fg); rw [e] at y; cases y
 have hq : ∀ (W : World) (a : Option Addr) (n c : Nat), (binOp .eql 66 (.slice a n c) (.slice none 0 0)).run prog W = .ok (.bool a.isNone) W := fun W a n c => Lib.run_eql_slice_nil W _ _ a n c 0 0 underlying66
 clear h hr0 hl I
 go_enter func124, ntmps124
 cases s with
 | none =>
  obtain rfl := hno rfl
  have J := hq w none 0 c0
  clear hq
  go_wp2
  go_ret
  exact ⟨_, rfl, Kd.R_nil .., bi _ _⟩
 | some a =>
  have J := hq w (some a) l0.length c0
  clear hno hq
  go_wp2_with (first | ((with_reducible refine gD 5 ?_); refine Kd.R_lit Kd.string _ 9 ?hg (N := 5) ?hd (xs := ([] : List ByteArray)) (inner := []) (ok := fun _ => True) (okp := fun _ => True) ?hr ?hp (fun _ hk => hk) trivial (bi _ _) (bj _) (fg) ?_; (case hd => rfl); (case hg => rfl); (case hr => first | (go_simp; done) | (go_simp; rfl)); (case hp => exact (fc.none _ _)); intro M w1 ho hb hg_ hnew_; have HO := aM ho; have HB := aM hb; clear hg_ hnew_ ho hb) | ((with_reducible refine gate_builtin (b := .append) (xs := #[.tmp 5, .tmp 6]) rfl ?_); at_builtin; refine Kd.R_append_rows Kd.string (w0 := w) w.heap.size rfl (.tmp 5) (.tmp 6) 66 9 (.string ⟨#[]⟩) 16 rfl underlying66 info9 rfl (Z68) (Z31) M ([] : List ByteArray) l0 _ _ _ (fun _ => True) (fun _ => False) rfl rfl ?aO ?aR (fun _ _ h => h) (fun _ h => h.elim) ?aF ?aB ?aS ?aL ?_; (case aR => exact Kd.C_below HR.out HB.out); (case aB => exact HB.out); (case aF => exact (fun _ _ => trivial)); (case aO => exact HO.out); (case aS => exact HB.out.size); (case aL => have := HL.out; simp; omega); intro U w2 ho hb hg hat; have D := aM ho; have HB2 := aM hb; clear ho hb hg hat; obtain ⟨X, Y, O⟩ := Kd.R_slice D.out; subst O))
  go_ret
  exact ⟨_, rfl, D.out, HB2.out⟩
def ey.f (s : ByteArray) (y : Int) (D : Int) (l0_3 : List (S113)) (I : List ByteArray) : Option (ByteArray × Int × Int × (List (S113)) × List ByteArray) := (impl_Stored_123.f l0_3).bind fun J => ((fj.f I).bind fun M => (some (s, y, D, J, M)))
def ey.T1 : Bool × List (List Nat × List Nat) := (true, [([], []), ([0], [0]), ([1], [1]), ([], []), ([3], [3]), ([4, 2], [4]), ([0, 1, 2, 3, 4], []), ([6, 2, 5, 0, 1, 2, 3, 4], [2, 6]), ([0, 1, 2, 3, 4, 5, 6, 7], []), ([8, 5, 7, 0, 1, 2, 3, 4, 5, 6, 7], [5, 8])])
def ey.B1 : List Nat := [0, 1, 3, 0, 8, 31, 31, 127, 255, 511]
theorem ey.tab1 : rtab .any (opsOf Tryz.f99 1) = ey.T1 := by kernel_rfl
theorem ey.bits1 : waitsOk ey.T1.2 ey.B1 = true := by kernel_rfl
theorem ey.calls (U : ByteArray) (X : Int) (Y : Int) (I : Option Addr) (J : Nat) (l0_3 : List (S113)) (M : Option Addr) (O : Nat) (s : List ByteArray) (r1 : ByteArray) (r2 : Int) (r3 : Int) (r4 : List (S113)) (r5 : List ByteArray) (w : World) (aD : Kd.C k113 w I l0_3.length l0_3) (aE : l0_3.length <= J) (aF : Kd.C Kd.string w M s.length s) (aG : s.length <= O) (h : ey.f U X Y l0_3 s = some (r1, r2, r3, r4, r5)) :
  Calls prog 99 #[.agg #[.string U, .int .i64 X, .int .i64 Y, .slice I l0_3.length J, .slice M s.length O]] w fun e w' => ∃ v3_ v4_ : Value, e = .returned (.agg #[.string r1, .int .i64 r2, .int .i64 r3, v3_, v4_]) /\ Kd.R k113 113 w' w.heap.size (fun _ => True) v3_ r4 /\ Kd.R Kd.string 9 w' w.heap.size (fun _ => True) v4_ r5 /\ Below w.heap.size w w' := by
 have a2 := underlying82
 replace aD := aM aD
 replace aE := aM aE
 replace aF := aM aF
 replace aG := aM aG
 have HB := aM (bi w.heap.size w)
 have H := h
 clear h
 unfold ey.f at H
 obtain ⟨aA, A2, H⟩ := cz H
 try dsimp only at H
 obtain ⟨aB, A3, H⟩ := cz H
 try dsimp only at H
 simp only [Option.some.injEq, Prod.mk.injEq] at H
 obtain ⟨rfl, rfl, rfl, rfl, rfl⟩ := H
 go_enter func99, ntmps99
 try go_wp2_with (first | ((with_reducible refine gD 1 ?_); refine bxF w 1 #[.string U, .int .i64 X, .int .i64 Y, .slice I l0_3.length J, .slice M s.length O] 82 (Z0) ?_; intro D hg w4 BK412 a3 GE412 HB hb; clear hb hg) | ((with_reducible refine gD 2 ?_); refine bxF w 2 #[.string (⟨#[]⟩ : ByteArray), .int .i64 0, .int .i64 0, .slice none 0 0, .slice none 0 0] 82 (Z152) ?_; intro aZ hg w5 y a5 GE413 HB hb; have aH := aM ((nL BK412 hg (Z114))); have aI := aM ((nG BK412 hg (Z114))); replace BK412 := aM (kB BK412 (Z114) hb); clear hb hg))
 replace BK412 := aM (ag BK412.out)
 replace y := aM (ag y.out)
 replace HB := aM (ac HB.out)
 refine fe (n := 10) (S := fun w' => qc5 D (.string U) (.int .i64 X) (.int .i64 Y) (.slice I l0_3.length J) (.slice M s.length O) w') (ds := [7, 9]) #[false, false, false, false, false, false, false, false, false, false] (Z16) rfl rfl (bc5 BK412.out) (fun hHeld => ?_); refine df ey.tab1 ey.bits1 (fun HT_ HW_ => ?_)
 generalize w5.drew = w6 at BK412 y HB hHeld ⊢
 refine pA 0 3 ?_
 refine pA 3 6 ?_
 refine tA 1 4 ?_
 refine tA 4 7 ?_
 refine oA 2 5 (fun K hK => ?_)
 refine fl func123 (Z16) rfl #[.slice I l0_3.length J] (Z96) rfl rfl (Z2) ?_
 with_reducible refine (impl_Stored_123.calls _ _ l0_3 aA _ ?Y1 ?Y2 A2.out).mono ?_
 (case Y1 => have h_ := Kd.C_below aD.out HB.out; exact tC)
 (case Y2 => exact aE.out)
 rintro e w7 ⟨a6, rfl, Z, hb⟩
 refine ⟨_, rfl, ?_⟩
 have aC := aM (Kd.R_lower Z (ct (Z79)))
 replace BK412 := aM (kB BK412 (Z114) hb)
 replace y := aM (kB y zB hb)
 replace HB := aM (ae (Z79) hb)
 (try clear hb); (try clear Z)
 refine hK.out _ _ (bc5 BK412.out) (fun hHeld => ?_)
 clear hK K
 refine nB 5 ?_
 refine pA 6 9 ?_
 refine oA 5 8 (fun K hK => ?_)
 refine fl func124 (Z16) rfl #[.slice M s.length O] (Z96) rfl rfl (Z2) ?_
 with_reducible refine (fj.calls _ _ s aB _ ?Y1 ?Y2 A3.out).mono ?_
 (case Y1 => have h_ := Kd.C_below aF.out HB.out; exact tC)
 (case Y2 => exact aG.out)
 rintro e w8 ⟨a7, rfl, Z, hb⟩
 refine ⟨_, rfl, ?_⟩
 replace aC := aM (Kd.R_below (by (with_reducible repeat (first | apply Kd.R_alloc | apply Kd.R_drewN | apply Kd.R_drew)); exact aC.out) hb)
 have aU := aM (Kd.R_lower Z (ct (Z79)))
 replace BK412 := aM (kB BK412 (Z114) hb)
 replace y := aM (kB y zB hb)
 replace HB := aM (ae (Z79) hb)
 (try clear hb); (try clear Z)
 obtain ⟨aJ, aK, aV⟩ := Kd.R_slice aC.out
 (first | subst aV | (injection aV with f1_ f2_ f3_; have f4_ := f1_.symm; have f5_ := f3_.symm; clear f1_ f2_ f3_; subst f4_; subst f5_))
 obtain ⟨aL, aN, aW⟩ := Kd.R_slice aU.out
 (first | subst aW | (injection aW with f1_ f2_ f3_; have f4_ := f1_.symm; have f5_ := f3_.symm; clear f1_ f2_ f3_; subst f4_; subst f5_))
 refine hK.out _ _ (bc5 BK412.out) (fun hHeld => ?_)
 clear hK K
 refine nB 8 ?_
 refine last_ (i := 7) (N := none) #[true, true, true, true, true, true, true, true, false, false] rfl rfl (one_of HT_.out (Z16)) (Z68) (fun K hK => ?_)
 obtain ⟨-, -, -, a8⟩ := cl4 BK412.out
 have a9 := am BK412.out 3
 have bA := aI.out
 have bB := aH.out
 refine skip_ (w1 := ?_) (Z96) rfl ?_ ?_
 rotate_left
 ·go_simp
  rfl
 refine hK.out _ _ ?_
 clear hK K
 refine pA 8 10 ?_
 refine last_ (i := 9) (N := none) #[true, true, true, true, true, true, true, true, true, true] rfl rfl (one_of HT_.out (Z16)) (Z68) (fun K hK => ?_)
 obtain ⟨-, -, -, -, bC⟩ := cl5 BK412.out
 have bD := am BK412.out 4
 have bE := aI.out
 have bF := aH.out
 refine skip_ (w1 := ?_) (Z96) rfl ?_ ?_
 rotate_left
 ·go_simp
  rfl
 refine hK.out _ _ ?_
 clear hK K
 refine gh (ei HT_.out (Z16)) ?_
 have bG := aH.out
 have bH := aI.out
 refine bD5 BK412 ?_
 intros
 refine bD5 y ?_
 intros
 try go_wp2
 refine bodyPost_ret (results_cell_row rfl _ _ aZ 82 #[.string U, .int .i64 X, .int .i64 Y, .slice aJ aA.length aK, .slice aL aB.length aN] (0, 0) _ rfl zB underlying82 rfl (Z16)) rfl ?_
 exact ⟨_, _, Z1, by (with_reducible repeat (first | apply Kd.R_alloc | apply Kd.R_drewN | apply Kd.R_drew)); exact Kd.R_mono (rF 4 (rF 3 (rF 2 (rF 1 (rF 0 (Kd.R_far (p := ⟨D, 4, none⟩) (Kd.R_far (p := ⟨D, 3, none⟩) (Kd.R_types (Kd.R_types aC.out BK412.out (Z68)) y.out (Z68)) (fun _ hk => hk.1.2) (.slice aJ aA.length aK)) (fun _ hk => hk.1.2) (.slice aL aB.length aN))))))) (fun _ hk => trivial), by (with_reducible repeat (first | apply Kd.R_alloc | apply Kd.R_drewN | apply Kd.R_drew)); exact Kd.R_mono (rF 4 (rF 3 (rF 2 (rF 1 (rF 0 (Kd.R_far (p := ⟨D, 4, none⟩) (Kd.R_far (p := ⟨D, 3, none⟩) (Kd.R_types (Kd.R_types aU.out BK412.out (Z68)) y.out (Z68)) (fun _ hk => hk.1.2) (.slice aJ aA.length aK)) (fun _ hk => hk.1.2) (.slice aL aB.length aN))))))) (fun _ hk => trivial), Z79⟩
def dj.l0 : Nat -> List (S82) -> List (S82) -> Int -> Int -> Option ((List (S82)))
 | 0, _, _, _, _ => none
 | k + 1, x3, x9, x10, x11 => if x11 < x10 then (if 0 <= x11 then (if x11 < (x9.length : Int) then ((ey.f ((ax x9 x11).f0) ((ax x9 x11).f1) ((ax x9 x11).f2) ((ax x9 x11).f3) ((ax x9 x11).f4)).bind fun s => (if x11 < (x3.length : Int) then (dj.l0 k (x3.set (x11 : Int).toNat (⟨s.1, s.2.1, s.2.2.1, s.2.2.2.1, s.2.2.2.2⟩ : S82)) x9 x10 (wrap64 (x11 + 1))) else (none))) else (none)) else (none)) else (some x3)
def dj.f (k : Nat) (l0 : List (S82)) : Option ((List (S82))) := if 0 <= (l0.length : Int) then (if ((l0.length : Int) : Int).toNat <= 3518437208883 then (dj.l0 k (List.replicate ((l0.length : Int) : Int).toNat z82) l0 (l0.length : Int) 0) else (none)) else (none)
theorem dj.calls (k : Nat) (A0 : Option Addr) (c0 : Nat) (l0 : List (S82)) (r : List (S82)) (w : World) (hr0 : Kd.C k82 w A0 l0.length l0) (a2 : l0.length <= c0) (h : dj.f k l0 = some r) :
  Calls prog 55 #[.slice A0 l0.length c0] w fun e w' => ∃ v0_ : Value, e = .returned (v0_) /\ Kd.S k82 82 w' w.heap.size (fun _ => True) v0_ r /\ Below w.heap.size w w' := by
 have cP := underlying82
 replace hr0 := aM hr0
 replace a2 := aM a2
 have HB := aM (bi w.heap.size w)
 have H := h
 clear h
 unfold dj.f at H
 obtain ⟨c2, H⟩ := ifS H
 have bN := bh c2
 have bO : decide (0 <= (l0.length : Int)) = true := az c2
 clear c2
 obtain ⟨c3, H⟩ := ifS H
 have bP := bh c3
 have bQ : decide (((l0.length : Int) : Int).toNat <= 3518437208883) = true := az c3
 clear c3
 obtain ⟨a3, aC⟩ : ∃ y_ : List (S82), y_ = (List.replicate ((l0.length : Int) : Int).toNat z82) := ⟨_, rfl⟩
 replace H : (dj.l0 k a3 l0 (l0.length : Int) 0) = some r := by first | (rw [aC]; with_reducible exact H) | (have H2_ := (Option.bind_some _ _).symm.trans H; rw [aC]; with_reducible exact H2_) | (have H2_ := (Option.bind_some _ _).symm.trans H; with_reducible exact H2_) | with_reducible exact H | (rw [aC]; exact H) | exact H
 have a5 := aM aC
 clear aC
 have H' := aM H
 clear H
 go_enter func55, ntmps55
 go_wp2_with (first | ((with_reducible refine gD 8 ?_); refine Kd.S_make k82 _ 82 rfl (N := 8) rfl 33 _ _ rfl (l0.length : Int) rfl rfl underlying33 (.agg #[(.string ⟨#[]⟩), (.int .i64 0), (.int .i64 0), (.slice none 0 0), (.slice none 0 0)]) 80 info82 rfl (Z68) (Z31) z82 (ok := fun _ => True) (okp := fun _ => True) (k82_mkM _ _ _ z82 (Kd.R_nil _ _ _ _ _) (Kd.R_nil _ _ _ _ _)) (fun _ hk => hk) trivial (dT (Z4)) (Nat.le_trans (Nat.mul_le_mul_right _ (dT (Z4) : (l0.length : Int).toNat <= 3518437208883)) (Z31)) (bi _ _) (bj _) ?_; intro bR w4 aD hb hg_ hnew_; clear hg_ hnew_; (first | rw [← a5.out] at aD | (simp only [Int.reduceToNat] at aD; rw [← a5.out] at aD)); have bS := aM (Kd.S_lower aD (ct (Z0))); replace HB := aM (ae (Z0) hb); clear hb aD))
 go_loopg [11] k (fun kq bT w' => ∃ (D : List (S82)) (s : Int), bT = .int .i64 s /\ ap (dj.l0 kq D l0 (l0.length : Int) s = some r) /\ ap (kq <= k) /\ ap (Kd.S k82 82 w' w.heap.size (fun _ => True) bR D) /\ ap (Below w.heap.size w w'))
 case atStart => exact ⟨(a3), (0), (Z3), H', ⟨bj _⟩, ⟨by (with_reducible repeat (first | apply Kd.S_alloc | apply Kd.S_drewN | apply Kd.S_drew)); exact bS.out⟩, ⟨Z0⟩⟩
 case round =>
  clear H'
  (try clear c2); (try clear bN); (try clear bO); (try clear c3); (try clear bP); (try clear bQ)
  obtain ⟨D, s, rfl, HA, HK1, HO_3, HB⟩ := hrel
  cases gk with
  | zero => exact absurd HA.out (by simp [dj.l0])
  | succ k1 =>
   have H := HA.out
   clear HA
   simp only [dj.l0] at H
   by_cases c6 : s < (l0.length : Int)
   ·rw [if_pos c6] at H
    have bU := az c6
    clear c6
    obtain ⟨c7, H⟩ := ifS H
    have cQ := az c7
    clear c7
    obtain ⟨c8, H⟩ := ifS H
    have cR := az c8
    clear c8
    obtain ⟨⟨O, U, X, aG, aH⟩, A9, H⟩ := cz H
    try dsimp only at H
    obtain ⟨c10, H⟩ := ifS H
    have cS := az c10
    clear c10
    obtain ⟨aN, aE⟩ : ∃ y_ : List (S82), y_ = (D.set (s : Int).toNat (⟨O, U, X, aG, aH⟩ : S82)) := ⟨_, rfl⟩
    replace H : (dj.l0 k1 aN l0 (l0.length : Int) (wrap64 (s + 1))) = some r := by first | (rw [aE]; with_reducible exact H) | (have H2_ := (Option.bind_some _ _).symm.trans H; rw [aE]; with_reducible exact H2_) | (have H2_ := (Option.bind_some _ _).symm.trans H; with_reducible exact H2_) | with_reducible exact H | (rw [aE]; exact H) | exact H
    have bW := aM aE
    clear aE
    have H' := aM H
    clear H
    have aO : 0 <= (s : Int) := dT (Z4)
    have aP : s < (l0.length : Int) := dT (Z4)
    obtain ⟨cT, aQ, aR, aS, aT, bX, a7, a8, a9, bA, bB, bC, bD, bE, bF⟩ := em hr0.out s aO aP
    cases bX
    replace a7 := cB HB.out a7
    replace a8 := cB HB.out a8
    replace a9 := cB HB.out a9
    replace bA := cB HB.out bA
    replace bB := cB HB.out bB
    have bY := aM bD
    have bZ := aM bC
    clear bD bC
    have b0 := aM bF
    have b1 := aM bE
    clear bF bE
    replace aO := bh aO
    replace aP := bh aP
    go_wp2_with (first | ((with_reducible refine gD 5 ?_); refine bxE 5 #[.string (⟨#[]⟩ : ByteArray), .int .i64 0, .int .i64 0, .slice none 0 0, .slice none 0 0] 82 ?_; intro J hg cU hbox hb; replace HO_3 := aM (Kd.S_below (Kd.S_elderB (Z94) J (Nat.le_of_eq hg.symm)) hb); have M := aM (hbox); have cV := aM ((szE w hg (Z0))); have GE424 := aM ((szE w hg (Z0))); replace HB := aM (ae (Z0) hb); clear hb hbox hg; refine bD5 M ?_; intros) | ((with_reducible refine gC 99 ?_); refine gL 19 func99 #[.agg #[.string ((ax l0 s).f0), .int .i64 ((ax l0 s).f1), .int .i64 ((ax l0 s).f2), .slice aQ ((ax l0 s).f3).length aR, .slice aS ((ax l0 s).f4).length aT]] ?_; (with_reducible refine (ey.calls ((ax l0 s).f0) ((ax l0 s).f1) ((ax l0 s).f2) _ _ ((ax l0 s).f3) _ _ ((ax l0 s).f4) O U X aG aH _ ?Y1 ?Y2 ?Y3 ?Y4 A9.out).mono ?_); (case Y1 => exact Kd.C_below bY.out (Z78)); (case Y2 => exact bZ.out); (case Y3 => exact Kd.C_below b0.out (Z78)); (case Y4 => exact b1.out); rintro e I ⟨aI, aJ, rfl, aU, aV, hb⟩; refine ⟨_, rfl, ?_⟩; replace HO_3 := aM (Kd.S_mono (Kd.S_told (Kd.S_told (Kd.S_old (by (with_reducible repeat (first | apply Kd.S_alloc | apply Kd.S_drewN | apply Kd.S_drew)); exact (Kd.S_mono (sF 4 (sF 3 (sF 2 (sF 1 (sF 0 (Kd.S_mono HO_3.out (fun k_ hk => (⟨hk, hk.2⟩ : _ /\ k_ ≠ J)))))))) (fun _ h_ => h_.1))) hb) (Kd.R_base aU)) (Kd.R_base aV)) (fun _ h_ => h_.1)); have aK := aM (Kd.R_lower aU (ct (Z78))); have aL := aM (Kd.R_lower aV (ct (Z78))); replace M := aM (ai (g := J) (o := .cells #[.string ((ax l0 s).f0), .int .i64 ((ax l0 s).f1), .int .i64 ((ax l0 s).f2), .slice aQ ((ax l0 s).f3).length aR, .slice aS ((ax l0 s).f4).length aT] 82 (0, 0)) zB hb); replace HB := aM (ae (Z78) hb); (try clear hb); (try clear hk); (try clear aU); (try clear aV); have p11 : 0 <= (s : Int) := dT (Z4); have aW : (s : Int) < ((D.length : Int) : Int) := dT (Z4); obtain ⟨y, bG, bH, bI, b2, cX, bJ⟩ := Kd.S_form HO_3.out (Z31); (first | cases bH | (injection bH with ea_ en_ ec_; (first | subst ea_ | (injection ea_ with ea_; subst ea_)); subst ec_; clear en_)); have aF := aM bI; have cY := aM bJ; clear bI b2 bJ; obtain ⟨_, cZ, b6, bK, Y, Z, _, _⟩ := Kd.S_elem HO_3.out z82 (s : Int) p11 aW; obtain ⟨b7, b8, rfl, dA, dB⟩ := k82_openM bK; have dC : I.cell? ⟨y, (s : Int).toNat * 5, none⟩ = some (.string ((ax D s).f0)) := Y 0 _ rfl; have dD : I.cell? ⟨y, (s : Int).toNat * 5 + 1, none⟩ = some (.int .i64 ((ax D s).f1)) := Y 1 _ rfl; have dE : I.cell? ⟨y, (s : Int).toNat * 5 + 2, none⟩ = some (.int .i64 ((ax D s).f2)) := Y 2 _ rfl; have dF : I.cell? ⟨y, (s : Int).toNat * 5 + 3, none⟩ = some (b7) := Y 3 _ rfl; have dG : I.cell? ⟨y, (s : Int).toNat * 5 + 4, none⟩ = some (b8) := Y 4 _ rfl; have dH : I.frozen? ⟨y, (s : Int).toNat * 5, none⟩ = false := Z 0; have dI : I.frozen? ⟨y, (s : Int).toNat * 5 + 1, none⟩ = false := Z 1; have dJ : I.frozen? ⟨y, (s : Int).toNat * 5 + 2, none⟩ = false := Z 2; have dK : I.frozen? ⟨y, (s : Int).toNat * 5 + 3, none⟩ = false := Z 3; have dL : I.frozen? ⟨y, (s : Int).toNat * 5 + 4, none⟩ = false := Z 4; clear b6 Y Z bK; replace p11 := bh p11; replace aW := bh aW; have n_ := aM (Kd.S_mono (ok' := (fun k_ => some k_ ≠ (aI : Value).ownBlock /\ some k_ ≠ (aJ : Value).ownBlock /\ k_ ≠ J)) HO_3.out (fun k_ hk => ⟨hk.1.2, ⟨hk.2, hk.1.1.2⟩⟩)); clear HO_3; have HO_3 := n_; clear n_; have b9 := aM (show Kd.S k82 82 I w.heap.size (fun k_ => ((fun k_ => k_ ≠ J)) k_ /\ ¬ ((fun k_ => some k_ = (aI : Value).ownBlock ∨ some k_ = (aJ : Value).ownBlock)) k_) (.slice (some ⟨y, 0, none⟩) D.length bG) D from (by (with_reducible repeat (first | apply Kd.S_alloc | apply Kd.S_drewN | apply Kd.S_drew)); exact Kd.S_mono HO_3.out (fun k_ hk => ⟨hk.2.2, fun e_ => e_.elim (fun h_ => hk.1 h_) (fun h_ => hk.2.1 h_)⟩))); obtain ⟨dM, dN, cA, bL, aA, aB, cC, bM⟩ := Kd.S_elem b9.out z82 (s : Int) (dT (Z4)) (by have h_ : (s : Int) < ((D.length : Int) : Int) := dT (Z4); first | exact h_ | (have e_ := (Kd.S_reads' HO_3.out).1; omega) | simpa using h_); obtain ⟨dO, dP, rfl, dQ, dR⟩ := k82_openM bL; have aX := Kd.S_seg bM (dT (Z4)) (by have h_ : (s : Int) < ((D.length : Int) : Int) := dT (Z4); first | exact h_ | (have e_ := (Kd.S_reads' HO_3.out).1; omega) | simpa using h_) (seg := [.string O, .int .i64 U, .int .i64 X, aI, aJ]) (j := 0) (show 5 <= 5 from by decide) (x' := (⟨O, U, X, aG, aH⟩ : S82)) (k82_mkM _ _ _ (⟨O, U, X, aG, aH⟩ : S82) (Kd.R_mono (Kd.R_tight rfl (Kd.R_mono (ok' := fun k_ => ((fun k_ => k_ ≠ J)) k_ /\ k_ ≠ y) (Kd.R_types (Kd.R_apart' (aK.out) (Kd.S_typed HO_3.out) (Z68)) M.out (Z68)) (fun k_ hk => ⟨hk.2, fun e_ => (hk.1.2) (by rw [e_]; rfl)⟩))) (fun _ h_ => Or.inr (Or.inl h_))) (Kd.R_mono (Kd.R_tight rfl (Kd.R_mono (ok' := fun k_ => ((fun k_ => k_ ≠ J)) k_ /\ k_ ≠ y) (Kd.R_types (Kd.R_apart' (aL.out) (Kd.S_typed HO_3.out) (Z68)) M.out (Z68)) (fun k_ hk => ⟨hk.2, fun e_ => (hk.1.2) (by rw [e_]; rfl)⟩))) (fun _ h_ => Or.inr (Or.inr (h_))))) (fun _ hk => hk) (fun k_ hk_ => hk_.elim (fun h_ => ((Kd.R_mono (ok' := fun k_ => ((fun k_ => k_ ≠ J)) k_ /\ k_ ≠ y) (Kd.R_types (Kd.R_apart' (aK.out) (Kd.S_typed HO_3.out) (Z68)) M.out (Z68)) (fun k_ hk => ⟨hk.2, fun e_ => (hk.1.2) (by rw [e_]; rfl)⟩))).1 k_ h_.symm) (fun h_ => ((Kd.R_mono (ok' := fun k_ => ((fun k_ => k_ ≠ J)) k_ /\ k_ ≠ y) (Kd.R_types (Kd.R_apart' (aL.out) (Kd.S_typed HO_3.out) (Z68)) M.out (Z68)) (fun k_ hk => ⟨hk.2, fun e_ => (hk.1.2) (by rw [e_]; rfl)⟩))).1 k_ h_.symm)); have cD := aA 0 _ rfl; (try simp only [show (k82).sz = 5 from rfl, Nat.mul_one, Nat.add_zero] at cD); have cG := aB 0; (try simp only [show (k82).sz = 5 from rfl, Nat.mul_one, Nat.add_zero] at cG); have cH := aA 1 _ rfl; (try simp only [show (k82).sz = 5 from rfl, Nat.mul_one, Nat.add_zero] at cH); have cI := aB 1; (try simp only [show (k82).sz = 5 from rfl, Nat.mul_one, Nat.add_zero] at cI); have cJ := aA 2 _ rfl; (try simp only [show (k82).sz = 5 from rfl, Nat.mul_one, Nat.add_zero] at cJ); have cK := aB 2; (try simp only [show (k82).sz = 5 from rfl, Nat.mul_one, Nat.add_zero] at cK); have cL := aA 3 _ rfl; (try simp only [show (k82).sz = 5 from rfl, Nat.mul_one, Nat.add_zero] at cL); have cM := aB 3; (try simp only [show (k82).sz = 5 from rfl, Nat.mul_one, Nat.add_zero] at cM); have cN := aA 4 _ rfl; (try simp only [show (k82).sz = 5 from rfl, Nat.mul_one, Nat.add_zero] at cN); have cO := aB 4; (try simp only [show (k82).sz = 5 from rfl, Nat.mul_one, Nat.add_zero] at cO); clear cA aA aB bL cC bM) | ((with_reducible refine gate_store (t := 82) (p := 20) rfl ?_); refine store_event (t := 82) (p := 20) (v := ?vo_w16) (w1 := (((((I.setCell ⟨y, (s : Int).toNat * 5, none⟩ (.string O)).setCell ⟨y, (s : Int).toNat * 5 + 1, none⟩ (.int .i64 U)).setCell ⟨y, (s : Int).toNat * 5 + 2, none⟩ (.int .i64 X)).setCell ⟨y, (s : Int).toNat * 5 + 3, none⟩ (aI)).setCell ⟨y, (s : Int).toNat * 5 + 4, none⟩ (aJ))) ?hg ?ho ?hn ?hr ?_; (case ho => rfl); (case hg => rfl); (case hn => rfl); (case hr => (obtain ⟨_, _, hv_⟩ := Kd.R_slice aK.out; subst hv_; obtain ⟨_, _, hv_⟩ := Kd.R_slice aL.out; subst hv_; first | (go_simp; done) | (go_simp; rfl))); intro aY hw; have hg : I.grownBy aY (some y) := (by rw [hw]; exact aX.2); have hp_ : Kd.S k82 82 aY w.heap.size (fun k_ => k_ ≠ J) (.slice (some ⟨y, 0, none⟩) D.length bG) aN := (by rw [hw, bW.out]; exact aX.1); clear aX; have n0_ := aM (hp_); have n1_ := aM (fm (g := J) (o := .cells #[.string ((ax l0 s).f0), .int .i64 ((ax l0 s).f1), .int .i64 ((ax l0 s).f2), .slice aQ ((ax l0 s).f3).length aR, .slice aS ((ax l0 s).f4).length aT] 82 (0, 0)) zB hg (Kd.S_away HO_3.out (fun _ hk => hk.2.2))); have n2_ := aM ((by rw [hw]; exact aa (aa (aa (aa (aa (HB.out) aF.out) aF.out) aF.out) aF.out) aF.out : Below w.heap.size w aY)); clear HO_3; clear M; clear HB; clear aK; clear aL; have HO_3 := n0_; have M := n1_; have HB := n2_; clear n0_ n1_ n2_; clear hg hw hp_))
    go_roundg k1
    case measure => have := HK1.out; omega
    case rel => exact ⟨(aN), (wrap64 (s + 1)), (Z3), H', ⟨Z85⟩, ⟨by (with_reducible repeat (first | apply Kd.S_alloc | apply Kd.S_drewN | apply Kd.S_drew)); exact Kd.S_mono HO_3.out (fun _ hk => trivial)⟩, ⟨Z78⟩⟩
   rw [if_neg c6] at H
   have bU := ba c6
   clear c6
   obtain rfl := oI H
   go_wp2
   go_ret
   exact ⟨_, Z1, Z94, Z0⟩
def impl_cloneEngine.f (k : Nat) (s : Int) (y : ByteArray) (D : Int) (l0_3 : List (S82)) : Option (Int × ByteArray × Int × (List (S82))) := (dj.f k l0_3).bind fun I => (some (s, y, D, I))
theorem impl_cloneEngine.calls (k : Nat) (s : Int) (y : ByteArray) (D : Int) (I : Option Addr) (J : Nat) (l0_3 : List (S82)) (Y : Int) (Z : ByteArray) (r3 : Int) (r4 : List (S82)) (w : World) (O : Kd.C k82 w I l0_3.length l0_3) (U : l0_3.length <= J) (h : impl_cloneEngine.f k s y D l0_3 = some (Y, Z, r3, r4)) :
  Calls prog 26 #[.agg #[.int .i64 s, .string y, .int .i64 D, .slice I l0_3.length J]] w fun e w' => ∃ v3_ : Value, e = .returned (.agg #[.int .i64 Y, .string Z, .int .i64 r3, v3_]) /\ Kd.S k82 82 w' w.heap.size (fun _ => True) v3_ r4 /\ Below w.heap.size w w' := by
 have aN := underlying35
 replace O := aM O
 replace U := aM U
 have HB := aM (bi w.heap.size w)
 have H := h
 clear h
 unfold impl_cloneEngine.f at H
 obtain ⟨X, A2, H⟩ := cz H
 try dsimp only at H
 simp only [Option.some.injEq, Prod.mk.injEq] at H
 obtain ⟨rfl, rfl, rfl, rfl⟩ := H
 go_enter func26, ntmps26
 go_wp2_with (first | ((with_reducible refine gD 1 ?_); refine bxF w 1 #[.int .i64 s, .string y, .int .i64 D, .slice I l0_3.length J] 35 (Z0) ?_; intro aH hg w3 BK435 aO GE435 HB hb; clear hb hg) | ((with_reducible refine gD 2 ?_); refine bxF w 2 #[.int .i64 0, .string (⟨#[]⟩ : ByteArray), .int .i64 0, .slice none 0 0] 35 (Z153) ?_; intro aI hg w4 M aP GE436 HB hb; have aJ := aM ((nL BK435 hg (Z160))); have aK := aM ((nG BK435 hg (Z160))); replace BK435 := aM (kB BK435 (Z160) hb); clear hb hg; have aQ := aJ.out; have aR := aK.out; refine bD4 BK435 ?_; intros) | ((with_reducible refine gC 55 ?_); refine gL 5 func55 #[.slice I l0_3.length J] ?_; (with_reducible refine (dj.calls k _ _ l0_3 X _ ?Y1 ?Y2 A2.out).mono ?_); (case Y1 => have h_ := Kd.C_below O.out HB.out; exact tC); (case Y2 => exact U.out); rintro e w7 ⟨aS, rfl, aC, hb⟩; refine ⟨_, rfl, ?_⟩; have aD := aM (Kd.S_lower aC (ct (Z123))); replace BK435 := aM (kB BK435 (Z160) hb); replace M := aM (kB M zB hb); replace HB := aM (ae (Z123) hb); (try clear hb); (try clear aC); obtain ⟨aE, aF, aL⟩ := Kd.S_slice aD.out; subst aL; refine bD4 BK435 ?_; intros; refine bD4 M ?_; intros))
 refine bodyPost_ret (results_cell_row rfl _ _ aI 35 #[.int .i64 s, .string y, .int .i64 D, .slice aE X.length aF] (0, 0) _ rfl zB underlying35 rfl (Z16)) rfl ?_
 exact ⟨_, Z1, by (with_reducible repeat (first | apply Kd.S_alloc | apply Kd.S_drewN | apply Kd.S_drew)); exact Kd.S_mono (sF 3 (sF 2 (sF 1 (sF 0 (Kd.S_far (p := ⟨aH, 3, none⟩) (Kd.S_types (Kd.S_types aD.out BK435.out (Z68)) M.out (Z68)) (fun _ hk => hk.1.2) (.slice aE X.length aF)))))) (fun _ hk => trivial), Z123⟩
def impl_recordBytes.f (a0 : ByteArray) : Option ByteArray := if a0.size <= 65000 then some (bs (frameL a0.data.toList)) else none
theorem impl_recordBytes.calls (a0 r : ByteArray) (w : World) (h : impl_recordBytes.f a0 = some r) :
  Calls prog 89 #[.string a0] w fun e w' => e = .returned (.string r) /\ Below w.heap.size w w' := by
 unfold impl_recordBytes.f at h
 split at h
 ·injection h with h
  subst h
  have := i_recordBytes a0.data.toList w (by rw [← ee, bs_of]; omega)
  rwa [bs_of] at this
 cases h
def impl_Log_with.f (D : Int) (s : ByteArray) (I : Int) (a1 : ByteArray) : Option (Int × ByteArray × Int) := (impl_recordBytes.f a1).bind fun y => (if s.size + y.size <= 9223372036854775807 then (some (D, s ++ y, I)) else (none))
theorem impl_Log_with.calls (D : Int) (s : ByteArray) (I : Int) (a1 : ByteArray) (M : Int) (O : ByteArray) (U : Int) (w : World) (h : impl_Log_with.f D s I a1 = some (M, O, U)) :
  Calls prog 58 #[.agg #[.int .i64 D, .string s, .int .i64 I], .string a1] w fun e w' => e = .returned (.agg #[.int .i64 M, .string O, .int .i64 U]) /\ Below w.heap.size w w' := by
 have aD := underlying32
 have HB := aM (bi w.heap.size w)
 have H := h
 clear h
 unfold impl_Log_with.f at H
 obtain ⟨J, A3, H⟩ := cz H
 try dsimp only at H
 obtain ⟨c4, H⟩ := ifS H
 have aE := bh c4
 have aF : decide (s.size + J.size <= 9223372036854775807) = true := az c4
 try have aG : (9223372036854775807 < s.size + J.size) = False := eq_false (Nat.not_lt.2 c4)
 simp only [Option.some.injEq, Prod.mk.injEq] at H
 obtain ⟨rfl, rfl, rfl⟩ := H
 go_enter func58, ntmps58
 try go_wp2_with (first | ((with_reducible refine gD 2 ?_); refine bxF w 2 #[.int .i64 D, .string s, .int .i64 I] 32 (Z0) ?_; intro X hg w5 BK440 aH GE440 HB hb; clear hb hg) | ((with_reducible refine gD 4 ?_); refine bxF w 4 #[.int .i64 0, .string (⟨#[]⟩ : ByteArray), .int .i64 0] 32 (Z154) ?_; intro aB hg w6 y aI GE441 HB hb; have Y := aM ((nL BK440 hg (Z161))); have Z := aM ((nG BK440 hg (Z161))); replace BK440 := aM (kB BK440 (Z161) hb); clear hb hg))
 replace BK440 := aM (ag BK440.out)
 replace y := aM (ag y.out)
 replace HB := aM (ac HB.out)
 refine fe (n := 7) (S := fun w' => qc3 X (.int .i64 D) (.string s) (.int .i64 I) w') (ds := [6]) #[false, false, false, false, false, false, false] (Z16) rfl rfl (bc3 BK440.out) (fun hHeld => ?_)
 generalize w6.drew = w7 at BK440 y HB hHeld ⊢
 refine pA 0 5 ?_
 refine pA 2 7 ?_
 refine tA 1 6 ?_
 refine oA 3 8 (fun K hK => ?_)
 refine fl func89 (Z16) rfl #[.string a1] (Z96) rfl rfl (Z2) ?_
 with_reducible refine (impl_recordBytes.calls a1 J _ A3.out).mono ?_
 rintro e w8 ⟨rfl, hb⟩
 refine ⟨_, rfl, ?_⟩
 replace BK440 := aM (kB BK440 (Z161) hb)
 replace y := aM (kB y zB hb)
 replace HB := aM (ae (Z169) hb)
 (try clear hb)
 refine hK.out _ _ (bc3 BK440.out) (fun hHeld => ?_)
 clear hK K
 refine nB 8 ?_
 refine pA 4 9 ?_
 refine pA 5 10 ?_
 refine last_ (i := 6) (N := none) #[true, true, true, true, true, true, true] rfl rfl (Z16) (Z68) (fun K hK => ?_)
 obtain ⟨-, aJ⟩ := cl2 BK440.out
 have aK := am BK440.out 1
 have aL := Z.out
 have aN := Y.out
 refine skip_ (w1 := ?_) (Z96) rfl ?_ ?_
 rotate_left
 ·go_simp
  rfl
 refine hK.out _ _ ?_
 clear hK K
 refine gh (Z16) ?_
 have aO := Y.out
 have aP := Z.out
 refine bD3 BK440 ?_
 intros
 refine bD3 y ?_
 intros
 try go_wp2
 refine bodyPost_ret (results_cell_row rfl _ _ aB 32 #[.int .i64 D, .string (s ++ J), .int .i64 I] (0, 0) _ rfl zB underlying32 rfl (Z16)) rfl ?_
 exact ⟨Z1, Z169⟩
def impl_Log_sync.f (y : Int) (s : ByteArray) (D : Int) : Option (Int × ByteArray × Int) := some (y, s, (s.size : Int))
theorem impl_Log_sync.calls (y : Int) (s : ByteArray) (D : Int) (I : Int) (J : ByteArray) (M : Int) (w : World) (h : impl_Log_sync.f y s D = some (I, J, M)) :
  Calls prog 59 #[.agg #[.int .i64 y, .string s, .int .i64 D]] w fun e w' => e = .returned (.agg #[.int .i64 I, .string J, .int .i64 M]) /\ Below w.heap.size w w' := by
 have aA := underlying32
 have HB := aM (bi w.heap.size w)
 have H := h
 clear h
 unfold impl_Log_sync.f at H
 simp only [Option.some.injEq, Prod.mk.injEq] at H
 obtain ⟨rfl, rfl, rfl⟩ := H
 go_enter func59, ntmps59
 go_wp2_with (first | ((with_reducible refine gD 1 ?_); refine bxF w 1 #[.int .i64 y, .string s, .int .i64 D] 32 (Z0) ?_; intro aB hg w2 BK443 aC GE443 HB hb; clear hb hg) | ((with_reducible refine gD 2 ?_); refine bxF w 2 #[.int .i64 0, .string (⟨#[]⟩ : ByteArray), .int .i64 0] 32 (Z155) ?_; intro O hg w3 U aD X HB hb; have Y := aM ((nL BK443 hg (Z182))); have Z := aM ((nG BK443 hg (Z182))); replace BK443 := aM (kB BK443 (Z182) hb); clear hb hg; have aE := Y.out; have aF := Z.out; refine bD3 BK443 ?_; intros; refine bD3 U ?_; intros))
 refine bodyPost_ret (results_cell_row rfl _ _ O 32 #[.int .i64 y, .string s, .int .i64 (s.size : Int)] (0, 0) _ rfl zB underlying32 rfl (Z16)) rfl ?_
 exact ⟨Z1, by repeat (first | (with_reducible first | exact HB.out | apply ab | apply af | apply ac | refine aa ?_ GE443.out | refine aa ?_ X.out) | exact HB.out)⟩
def eq.l0 : Nat -> Int -> List Int -> Int -> Option (ByteArray)
 | 0, _, _, _ => none
 | k + 1, x0, x5, x6 => if x6 ≥ 0 then (if 0 <= x6 then (if x6 < (x5.length : Int) then (eq.l0 k (x0 / 256) (x5.set (x6 : Int).toNat ((x0) % 256)) (wrap64 (x6 - 1))) else (none)) else (none)) else (some (strOfNums x5))
def eq.f (k : Nat) (a0 : Int) (a1 : Int) : Option (ByteArray) := if 0 <= a1 then (if (a1 : Int).toNat <= 281474976710656 then (eq.l0 k a0 (List.replicate (a1 : Int).toNat 0) (wrap64 (a1 - 1))) else (none)) else (none)
theorem eq.calls (k : Nat) (a0 : Int) (a1 : Int) (r : ByteArray) (w : World) (h : eq.f k a0 a1 = some r) :
  Calls prog 119 #[.int .i64 a0, .int .i64 a1] w fun e w' => e = .returned (.string r) /\ Below w.heap.size w w' := by
 have HB := aM (bi w.heap.size w)
 have H := h
 clear h
 unfold eq.f at H
 obtain ⟨c3, H⟩ := ifS H
 have aF := bh c3
 have aG : decide (0 <= a1) = true := az c3
 clear c3
 obtain ⟨c4, H⟩ := ifS H
 have aH := bh c4
 have aI : decide ((a1 : Int).toNat <= 281474976710656) = true := az c4
 clear c4
 obtain ⟨Z, D⟩ : ∃ y_ : List Int, y_ = (List.replicate (a1 : Int).toNat 0) := ⟨_, rfl⟩
 replace H : (eq.l0 k a0 Z (wrap64 (a1 - 1))) = some r := by first | (rw [D]; with_reducible exact H) | (have H2_ := (Option.bind_some _ _).symm.trans H; rw [D]; with_reducible exact H2_) | (have H2_ := (Option.bind_some _ _).symm.trans H; with_reducible exact H2_) | with_reducible exact H | (rw [D]; exact H) | exact H
 have aA := aM D
 clear D
 have H' := aM H
 clear H
 go_enter func119, ntmps119
 go_wp2_with (first | ((with_reducible refine gD 8 ?_); refine Kd.R_make (Kd.int .u8) _ 5 rfl (N := 8) rfl 74 _ _ rfl a1 rfl rfl underlying74 (.int .u8 0) 1 info5 rfl (Z68) (Z31) 0 (ok := fun _ => True) (okp := fun _ => True) rfl (fun _ hk => hk) trivial (dT (Z4)) (Nat.le_trans (Nat.mul_le_mul_right _ (dT (Z4) : a1.toNat <= 281474976710656)) (Z31)) (bi _ _) (bj _) ?_; intro aJ w5 I hb hg_ hnew_; clear hg_ hnew_; (first | rw [← aA.out] at I | (simp only [Int.reduceToNat] at I; rw [← aA.out] at I)); have aK := aM (Kd.R_lower I (ct (Z0))); replace HB := aM (ae (Z0) hb); clear hb I))
 go_loopg [0, 6] k (fun kq v0 v6 w' => ∃ (y : Int) (x5_1 : List Int) (s : Int), v0 = .int .i64 y /\ v6 = .int .i64 s /\ ap (eq.l0 kq y x5_1 s = some r) /\ ap (kq <= k) /\ ap (Kd.R (Kd.int .u8) 5 w' w.heap.size (fun _ => True) aJ x5_1) /\ ap (Below w.heap.size w w'))
 case atStart => exact ⟨(a0), (Z), (wrap64 (a1 - 1)), (Z3), (Z3), H', ⟨bj _⟩, ⟨by (with_reducible repeat (first | apply Kd.R_alloc | apply Kd.R_drewN | apply Kd.R_drew)); exact aK.out⟩, ⟨Z0⟩⟩
 case round =>
  clear H'
  (try clear c3); (try clear aF); (try clear aG); (try clear c4); (try clear aH); (try clear aI)
  obtain ⟨y, x5_1, s, rfl, rfl, HA, HK1, HO_5, HB⟩ := hrel
  cases gk with
  | zero => exact absurd HA.out (by simp [eq.l0])
  | succ k1 =>
   have H := HA.out
   clear HA
   simp only [eq.l0] at H
   by_cases c7 : s ≥ 0
   ·rw [if_pos c7] at H
    have aO : decide (0 <= s) = true := az c7
    clear c7
    obtain ⟨c8, H⟩ := ifS H
    have aT := az c8
    clear c8
    obtain ⟨c9, H⟩ := ifS H
    have aU := az c9
    clear c9
    obtain ⟨M, J⟩ : ∃ y_ : List Int, y_ = (x5_1.set (s : Int).toNat ((y) % 256)) := ⟨_, rfl⟩
    replace H : (eq.l0 k1 (y / 256) M (wrap64 (s - 1))) = some r := by first | (rw [J]; with_reducible exact H) | (have H2_ := (Option.bind_some _ _).symm.trans H; rw [J]; with_reducible exact H2_) | (have H2_ := (Option.bind_some _ _).symm.trans H; with_reducible exact H2_) | with_reducible exact H | (rw [J]; exact H) | exact H
    have aP := aM J
    clear J
    have H' := aM H
    clear H
    have p10 : 0 <= (s : Int) := dT (Z4)
    have O : (s : Int) < ((x5_1.length : Int) : Int) := dT (Z4)
    obtain ⟨U, aQ, aC, aD, aR, aV, aE⟩ := Kd.R_form HO_5.out (Z31)
    (first | cases aC | (injection aC with ea_ en_ ec_; (first | subst ea_ | (injection ea_ with ea_; subst ea_)); subst ec_; clear en_))
    have aS := aM aD
    have aW := aM aE
    clear aD aR aE
    obtain ⟨aX, aY⟩ := Kd.R_celln 0 HO_5.out (s : Int) p10 O
    replace p10 := bh p10
    replace O := bh O
    have X := Kd.R_putg HO_5.out (s : Int) ((y) % 256)
    go_wp2_with (first | ((with_reducible refine gate_store (t := 5) (p := 19) rfl ?_); refine store_event (t := 5) (p := 19) (v := ?vo_w12) (w1 := (wr.setCell ⟨U, (s : Int).toNat, none⟩ (.int .u8 ((y) % 256)))) ?hg ?ho ?hn ?hr ?_; (case ho => rfl); (case hg => rfl); (case hn => rfl); (case hr => first | (go_simp; done) | (go_simp; rfl)); intro Y hw; have hg : wr.grownBy Y (some U) := (by rw [hw]; exact X.2); have hp_ : Kd.R (Kd.int .u8) 5 Y w.heap.size (fun _ => True) (.slice (some ⟨U, 0, none⟩) x5_1.length aQ) M := (by rw [hw, aP.out]; exact X.1); clear X; replace HO_5 := aM (hp_); replace HB := aM ((by rw [hw]; exact aa (HB.out) aS.out : Below w.heap.size w Y)); clear hg hw hp_))
    go_roundg k1
    case measure => have := HK1.out; omega
    case rel => exact ⟨(y / 256), (M), (wrap64 (s - 1)), (Z3), (Z3), H', ⟨Z85⟩, ⟨Z66⟩, ⟨Z0⟩⟩
   rw [if_neg c7] at H
   have aO : decide (0 <= s) = false := ba c7
   clear c7
   obtain rfl := oI H
   have aZ := own_string (P := prog) underlying74 underlying5 underlying9 (Kd.own_of_R HO_5.out)
   go_wp2
   go_ret
   exact ⟨Z1, Z0⟩
abbrev IsB (B b : Nat) (l : List Int) (w : World) : Prop := Lib.IsBuilder 149 5 B b (nums .u8 l) w
def Oth (b : Nat) (w w' : World) : Prop := ∀ k cells t, w.heap[k]? = some (.cells cells t (0, 0)) -> t ≠ 5 -> k ≠ b -> w'.heap[k]? = w.heap[k]?
theorem Oth.refl (b : Nat) (w : World) : Oth b w w := fun _ _ _ _ _ _ => rfl
theorem Oth.trans {b : Nat} {w w1 w2 : World} (h : Oth b w w1) (k : Oth b w1 w2) : Oth b w w2 := fun i cs t hc ht hi => (k i cs t ((h i cs t hc ht hi).trans hc) ht hi).trans (h i cs t hc ht hi)
theorem Oth.set {b : Nat} {w w1 : World} (h : Oth b w w1) (j : Nat) (u : Value) : Oth b w (w1.setCell ⟨b, j, none⟩ u) := fun i cs t hc ht hi => (Below.heap_setCell w1 ⟨b, j, none⟩ u i hi).trans (h i cs t hc ht hi)
theorem Oth.grown {b B n : Nat} {w w1 : World} {v : Value} {xs : List Value} (hg : w.grownBy w1 v.ownBlock) (hown : w.ownsRow B 5 1 v n xs) : Oth b w w1 := fun i cs t hc ht hi => by
 have hlt : i < w.heap.size := by
  rcases Nat.lt_or_ge i w.heap.size with h | h
  ·exact h
  rw [Array.getElem?_eq_none h] at hc; cases hc
 refine hg.block i hlt fun e => ?_
 obtain ⟨cells, hcc⟩ := own_typed hown i e.symm
 rw [hc] at hcc
 injection hcc with hcc
 injection hcc with _ h2
 exact ht h2
theorem bl_copyCheck (B b : Nat) (l : List Value) (w : World) (h : Lib.IsBuilder 149 5 B b l w) :
  Calls prog 136 #[bldPtr b] w fun e w' => e = .returned (.tuple #[]) /\ Lib.BuilderAt 149 5 B b (bldPtr b) l w' /\ Below B w w' /\ Oth b w w' := by
 obtain ⟨j, hj, hjs⟩ := Option.map_eq_some_iff.1 bld_info
 rcases h with h | h
 ·have s := h.cell0
  have hsh := h.shape
  have hfz := h.frozen0
  go_enter func136, ntmps136
  go_wp2
  rw [Lib.run_to_unsafe w ⟨b, 0, none⟩ underlying147 underlying162 hj (by rw [hjs]; decide) hsh (Nat.zero_lt_succ 1)]
  simp only [Result.andThen]
  rw [Oper.upon_value]
  go_wp2
  rw [run_callFunc_extern func137 (Z16) (Z16) (Z16) (e := Extern.AbiNoEscape.same) (Z16)]
  rw [Lib.run_noEscape]
  simp only [Result.andThen]
  rw [Oper.upon_value]
  go_wp2
  rw [Lib.run_from_unsafe w ⟨b, 0, none⟩ underlying162 underlying147 hj hsh bld_lies]
  simp only [Result.andThen]
  rw [Oper.upon_value]
  go_wp2
  go_end0
  exact ⟨rfl, h.used _, (bi B w).setCell (p := ⟨b, 0, none⟩) h.1 _, (Oth.refl b w).set 0 _⟩
 have s := h.cell0
 go_enter func136, ntmps136
 go_wp2
 rw [Lib.run_neq_ptr_same w _ underlying147 hj]
 go_wp2
 go_end0
 exact ⟨rfl, h, bi B _, Oth.refl b _⟩
theorem bl_WriteString (B b : Nat) (l : List Int) (y : ByteArray) (w : World) (h : IsB B b l w) (hlen : l.length + y.size <= 140737488355328) (hBw : B <= w.heap.size) :
  Calls prog 128 #[bldPtr b, .string y] w fun e w' => e = .returned (.tuple #[.int .i64 y.size, .nilIface]) /\ IsB B b (l ++ bytesOf y) w' /\ Below B w w' /\ Oth b w w' := by
 obtain ⟨i0, hi, I, J, M⟩ := info_parts info_u8
 go_enter func128, ntmps128
 go_wp2_with fail
 refine (bl_copyCheck B b _ _ h).mono ?_
 rintro e w1 ⟨rfl, ⟨hB, v, hbk, hown, hne⟩, D, O⟩
 have hz := D.size
 have c0 : w1.cell? ⟨b, 0, none⟩ = some (bldPtr b) := by rw [Lib.cell_of_heap hbk]; rfl
 have c1 : w1.cell? ⟨b, 1, none⟩ = some v := by rw [Lib.cell_of_heap hbk]; rfl
 have hlb : (nums .u8 l).length = l.length := by simp [nums]
 go_wp2_with (at_builtin; refine Lib.wpList_append_own_string _ rfl _ _ 74 9 rfl B 5 i0 underlying74 underlying9 hi I J M _ _ _ rfl hown y rfl ?c3 ?c4 ?c5 ?_)
 case c3 => rw [hlb]; unfold maxLen; omega
 case c4 => rw [hlb]; omega
 case c5 => omega
 intro v' w2 hown' hgrow _
 have hlt : b < w1.heap.size := World.block_lt_of_cell? _ _ c0
 have s : w2.heap[b]? = some (.cells #[bldPtr b, v] 149 (0, 0)) := by
  rw [hgrow.block b hlt (fun e => hne e.symm)]; exact hbk
 have U : w2.cell? ⟨b, 0, none⟩ = some (bldPtr b) := by rw [Lib.cell_of_heap s]; rfl
 have X : w2.cell? ⟨b, 1, none⟩ = some v := by rw [Lib.cell_of_heap s]; rfl
 have f1 : w2.frozen? ⟨b, 1, none⟩ = false := Lib.frozen_of_heap s 1
 have hOt := O.trans (Oth.grown (b := b) hgrow hown)
 obtain ⟨ao, cap, rfl⟩ := own_form hown'
 go_wp2
 go_ret2
 refine ⟨rfl, .inr ?_, (D.grown hgrow (Z31) (fun k hk => (hown.lt k hk).1)).setCell (p := ⟨b, 1, none⟩) hB _, hOt.set 1 _⟩
 refine Lib.BuilderAt.put (T := 149) (e := 5) hB s (bs' := nums .u8 (l ++ bytesOf y)) ?_ (Z68)
 have hc : nums .u8 (l ++ bytesOf y) = nums .u8 l ++ Lib.strCells y := by
  rw [nums_append]
  congr 1
  simp [nums, bytesOf, Lib.strCells]
 rw [hc]
 simpa [Lib.strCells_length, hlb] using hown'
theorem bl_WriteByte (B b : Nat) (l : List Int) (c : Int) (w : World) (h : IsB B b l w) (hlen : l.length + 1 <= 140737488355328) (hBw : B <= w.heap.size) :
  Calls prog 127 #[bldPtr b, .int .u8 c] w fun e w' => e = .returned .nilIface /\ IsB B b (l ++ [c]) w' /\ Below B w w' /\ Oth b w w' := by
 go_enter func127, ntmps127
 go_wp2_with fail
 refine (bl_copyCheck B b _ _ h).mono ?_
 rintro e w1 ⟨rfl, ⟨hB, v, hbk, hown, hne⟩, y, D⟩
 have hz := y.size
 have c0 : w1.cell? ⟨b, 0, none⟩ = some (bldPtr b) := by rw [Lib.cell_of_heap hbk]; rfl
 have c1 : w1.cell? ⟨b, 1, none⟩ = some v := by rw [Lib.cell_of_heap hbk]; rfl
 have hlb : (nums .u8 l).length = l.length := by simp [nums]
 have HO : Kd.R (Kd.int .u8) 5 w1 B (fun _ => True) v l := Kd.R_of_own (enc := Value.int .u8) (h1 := fun _ => rfl) (by rw [hlb] at hown; exact hown) (fun _ _ => trivial)
 go_wp2_with (at_builtin; refine Kd.R_append (Kd.int .u8) (w0 := w) B rfl (.tmp 11) (.tmp 13) 74 5 (.int .u8 0) 1 rfl underlying74 info5 rfl (Z68) (Z68) v l c [.int .u8 c] (fun _ => True) (fun _ => False) rfl rfl rfl (fun _ h => h.elim) (fun _ _ => trivial) HO y (Z31) (Z31) ?_)
 intro v' w2 hR' I hgrow _
 have hlt : b < w1.heap.size := World.block_lt_of_cell? _ _ c0
 have s : w2.heap[b]? = some (.cells #[bldPtr b, v] 149 (0, 0)) := by
  rw [hgrow.block b hlt (fun e => hne e.symm)]; exact hbk
 have J : w2.cell? ⟨b, 0, none⟩ = some (bldPtr b) := by rw [Lib.cell_of_heap s]; rfl
 have M : w2.cell? ⟨b, 1, none⟩ = some v := by rw [Lib.cell_of_heap s]; rfl
 have f1 : w2.frozen? ⟨b, 1, none⟩ = false := Lib.frozen_of_heap s 1
 have hOt := D.trans (Oth.grown (b := b) hgrow hown)
 have hown' := Kd.own_of_R hR'
 obtain ⟨ao, cap, rfl⟩ := Kd.R_slice hR'
 go_wp2
 go_ret
 refine ⟨rfl, .inr ?_, I.setCell (p := ⟨b, 1, none⟩) hB _, hOt.set 1 _⟩
 refine Lib.BuilderAt.put (T := 149) (e := 5) hB s (bs' := nums .u8 (l ++ [c])) ?_ (Z68)
 have hc : (nums .u8 (l ++ [c])).length = (l ++ [c]).length := by simp [nums]
 rw [hc]
 simpa [nums, encs] using hown'
theorem bl_String (B b : Nat) (l : List Int) (w : World) (h : IsB B b l w) (hl : ∀ x ∈ l, 0 <= x /\ x < 256) (hBw : B <= w.heap.size) :
  Calls prog 129 #[bldPtr b] w fun e w' => e = .returned (.string (strOfNums l)) /\ Below B w w' := by
 have e : Lib.byteCells (l.map fun n => UInt8.ofNat n.toNat) = nums .u8 l := by
  unfold Lib.byteCells nums
  rw [List.map_map]
  refine List.map_congr_left fun x hx => ?_
  have := hl x hx
  simp only [Function.comp]
  congr 1
  simp [UInt8.toNat_ofNat']
  omega
 exact Tryz.Builder_String_any B b (l.map fun n => UInt8.ofNat n.toNat) w (by rw [e]; exact h) hBw
theorem bytesOf_app (a b : ByteArray) : bytesOf (a ++ b) = bytesOf a ++ bytesOf b := by simp [bytesOf]
theorem bytesOf_strOfNums (l : List Int) (h : ∀ x ∈ l, 0 <= x /\ x < 256) : bytesOf (strOfNums l) = l := by
 unfold bytesOf strOfNums
 simp only [List.map_map]
 conv => rhs; rw [← List.map_id l]
 refine List.map_congr_left fun x hx => ?_
 have := h x hx
 simp [UInt8.toNat_ofNat']
 omega
theorem be2_in (n : Int) (s : 0 <= n) (h1 : n < 65536) : ∀ x ∈ be2 n, 0 <= x /\ x < 256 := by
 intro x hx
 simp only [be2, List.mem_cons, List.not_mem_nil, or_false] at hx
 rcases hx with rfl | rfl <;> omega
theorem bytesOf_in (t : ByteArray) : ∀ x ∈ bytesOf t, 0 <= x /\ x < 256 := by
 intro x hx
 simp only [bytesOf, List.mem_map] at hx
 obtain ⟨b, _, rfl⟩ := hx
 have := b.toNat_lt
 omega
theorem headL_in {kind uid mode flags : Int} {nm : ByteArray} {l : List S84} (h : MutIn kind uid mode flags nm l) : ∀ x ∈ headL kind uid mode flags nm l.length, 0 <= x /\ x < 256 := by
 obtain ⟨y, D, s, b3, b4, b5, I, J, M, O, -⟩ := h
 intro x hx
 simp only [headL, List.mem_append] at hx
 rcases hx with (hx | hx) | hx
 ·simp only [List.mem_cons, List.not_mem_nil, or_false] at hx
  rcases hx with rfl | rfl | rfl | rfl | rfl <;> omega
 ·exact be2_in uid s b3 x hx
 exact bytesOf_in nm x hx
theorem itemL_in (q : S84) (h : q.f0.size < 65536 /\ q.f1.size < 65536) : ∀ x ∈ itemL q, 0 <= x /\ x < 256 := by
 intro x hx
 simp only [itemL, List.mem_append] at hx
 rcases hx with ((hx | hx) | hx) | hx
 ·exact be2_in _ (Z31) (Z31) x hx
 ·exact be2_in _ (Z31) (Z31) x hx
 ·exact bytesOf_in _ x hx
 exact bytesOf_in _ x hx
theorem mutBytesL_in {kind uid mode flags : Int} {nm : ByteArray} {l : List S84} (h : MutIn kind uid mode flags nm l) : ∀ x ∈ mutBytesL kind uid mode flags nm l, 0 <= x /\ x < 256 := by
 intro x hx
 simp only [mutBytesL, List.mem_append, List.mem_flatMap] at hx
 rcases hx with hx | ⟨q, hq, hx⟩
 ·exact headL_in h x hx
 exact itemL_in q (h.2.2.2.2.2.2.2.2.2.2 q hq) x hx
theorem inBytes_two (n : Int) (s : 0 <= n) (h1 : n < 65536) : eq.f 4 n 2 = some (strOfNums (be2 n)) := by
 have w1 : wrap64 (2 - 1) = 1 := by kernel_rfl
 have w0 : wrap64 (1 - 1) = 0 := by kernel_rfl
 have w2 : wrap64 (0 - 1) = -1 := by kernel_rfl
 have e : n / 256 % 256 = n / 256 := by omega
 unfold eq.f
 simp only [w1]
 simp only [eq.l0, w0, w2]
 simp [be2, e, List.replicate]
theorem inBytes_text (n : Int) (s : 0 <= n) (h1 : n < 65536) : ∃ t, eq.f 4 n 2 = some t /\ t.size = 2 /\ bytesOf t = be2 n :=
 ⟨_, inBytes_two n s h1, by simp [be2, strOfNums, ByteArray.size], bytesOf_strOfNums _ (be2_in n s h1)⟩
theorem ib_below {B b : Nat} {l : List Int} {w w' : World} (h : IsB B b l w) (k : Below w.heap.size w w') : IsB B b l w' := by
 have one : ∀ p, Lib.BuilderAt 149 5 B b p (nums .u8 l) w -> Lib.BuilderAt 149 5 B b p (nums .u8 l) w' := by
  rintro p ⟨hB, v, hb, hown, hne⟩
  exact ⟨hB, v, ai hb k, own_move hown (fun i hi => k.block i (own_lt hown i hi)), hne⟩
 exact h.imp (one _) (one _)
theorem ib_drew {B b : Nat} {l : List Int} {w : World} (h : IsB B b l w) : IsB B b l w.drew := ib_below h (ac (bi _ _))
def impl_mutationBytes.f (kind uid mode flags : Int) (nm : ByteArray) (l : List S84) : Option ByteArray := if MutIn kind uid mode flags nm l then some (strOfNums (mutBytesL kind uid mode flags nm l)) else none
theorem impl_mutationBytes.calls (kind uid mode flags : Int) (nm : ByteArray) (A : Option Addr) (c : Nat) (l : List S84) (r : ByteArray) (w : World) (hr0 : Kd.C k84 w A l.length l) (a5 : l.length <= c) (h : impl_mutationBytes.f kind uid mode flags nm l = some r) :
  Calls prog 104 #[.agg #[.int .i64 kind, .int .i64 uid, .int .i64 mode, .int .i64 flags, .string nm, .slice A l.length c]] w fun e w' => e = .returned (.string r) /\ Below w.heap.size w w' := by
 unfold impl_mutationBytes.f at h
 split at h
 case isFalse => cases h
 rename_i hin
 obtain rfl := Option.some.inj h
 have HM := aM hin
 obtain ⟨b0, b1, b2, b3, b4, b5, b6, b7, b8, b9, -⟩ := hin
 have HR := aM hr0
 obtain ⟨t, aJ, hts, htb⟩ := inBytes_text uid b2 b3
 have hq := aM aJ
 have HT := aM htb
 have hcat : (9223372036854775807 < t.size + nm.size) = False := eq_false (Z31)
 clear aJ htb
 clear h hr0
 go_enter func104, ntmps104
 go_upto_region 3 with (fail)
 have HB := aM (ab (ab (ab (bi w.heap.size w) (.cells #[.int .i64 kind, .int .i64 uid, .int .i64 mode, .int .i64 flags, .string nm, .slice A l.length c] 41)) (.cells #[.pointer none, .slice none 0 0] 149)) (.cells #[.int .i64 kind, .int .i64 mode, .int .i64 flags, .int .i64 (l.length : Int), .int .i64 (nm.size : Int)] 3))
 have BX := aM (ah (ah (show (w.alloc (.cells #[.int .i64 kind, .int .i64 uid, .int .i64 mode, .int .i64 flags, .string nm, .slice A l.length c] 41)).heap[w.heap.size]? = some (.cells #[.int .i64 kind, .int .i64 uid, .int .i64 mode, .int .i64 flags, .string nm, .slice A l.length c] 41 (0, 0)) from by simpa using heap_alloc_new w _) (.cells #[.pointer none, .slice none 0 0] 149)) (.cells #[.int .i64 kind, .int .i64 mode, .int .i64 flags, .int .i64 (l.length : Int), .int .i64 (nm.size : Int)] 3))
 have HI0 : IsB (w.heap.size + 1) (w.heap.size + 1) [] ((w.alloc (.cells #[.int .i64 kind, .int .i64 uid, .int .i64 mode, .int .i64 flags, .string nm, .slice A l.length c] 41)).alloc (.cells #[.pointer none, .slice none 0 0] 149)) := by
  have := bld_new (w.heap.size + 1) (w.alloc (.cells #[.int .i64 kind, .int .i64 uid, .int .i64 mode, .int .i64 flags, .string nm, .slice A l.length c] 41)) (fg)
  have e : (w.alloc (.cells #[.int .i64 kind, .int .i64 uid, .int .i64 mode, .int .i64 flags, .string nm, .slice A l.length c] 41)).heap.size = w.heap.size + 1 := by simp
  rw [e] at this
  exact this
 have HI : ap (IsB (w.heap.size + 1) (w.heap.size + 1) [] _) := aM (IsBld.below (l := []) HI0 (ab (bi _ _) (.cells #[.int .i64 kind, .int .i64 mode, .int .i64 flags, .int .i64 (l.length : Int), .int .i64 (nm.size : Int)] 3)))
 have AX := aM (show (((w.alloc (.cells #[.int .i64 kind, .int .i64 uid, .int .i64 mode, .int .i64 flags, .string nm, .slice A l.length c] 41)).alloc (.cells #[.pointer none, .slice none 0 0] 149)).alloc (.cells #[.int .i64 kind, .int .i64 mode, .int .i64 flags, .int .i64 (l.length : Int), .int .i64 (nm.size : Int)] 3)).heap[w.heap.size + 1 + 1]? = some (.cells #[.int .i64 kind, .int .i64 mode, .int .i64 flags, .int .i64 (l.length : Int), .int .i64 (nm.size : Int)] 3 (0, 0)) from by simpa using heap_alloc_new ((w.alloc (.cells #[.int .i64 kind, .int .i64 uid, .int .i64 mode, .int .i64 flags, .string nm, .slice A l.length c] 41)).alloc (.cells #[.pointer none, .slice none 0 0] 149)) _)
 have HS := aM (show w.heap.size + 1 < (((w.alloc (.cells #[.int .i64 kind, .int .i64 uid, .int .i64 mode, .int .i64 flags, .string nm, .slice A l.length c] 41)).alloc (.cells #[.pointer none, .slice none 0 0] 149)).alloc (.cells #[.int .i64 kind, .int .i64 mode, .int .i64 flags, .int .i64 (l.length : Int), .int .i64 (nm.size : Int)] 3)).heap.size from by simp)
 clear HI0
 generalize ((w.alloc (.cells #[.int .i64 kind, .int .i64 uid, .int .i64 mode, .int .i64 flags, .string nm, .slice A l.length c] 41)).alloc (.cells #[.pointer none, .slice none 0 0] 149)).alloc (.cells #[.int .i64 kind, .int .i64 mode, .int .i64 flags, .int .i64 (l.length : Int), .int .i64 (nm.size : Int)] 3) = W1 at HB BX HI AX HS ⊢
 go_loopg [5, 23] 5 (fun gg s5 aV wr => ∃ (kk : Nat), kk <= 5 /\ 5 - kk <= gg /\ aV = .int .i64 kk /\ ap (IsB (w.heap.size + 1) (w.heap.size + 1) ([kind, mode, flags, (l.length : Int), (nm.size : Int)].take kk) wr) /\ ap (Below (w.heap.size + 1) W1 wr) /\ ap (Oth (w.heap.size + 1) W1 wr))
 case atStart => exact ⟨0, Nat.zero_le _, Z31, rfl, HI, ⟨bi _ _⟩, ⟨Oth.refl _ _⟩⟩
 case round =>
  obtain ⟨kk, hkk, hgg, rfl, I, BB, O⟩ := hrel
  clear HI
  by_cases hlt : kk < 5
  ·have h0 : 0 <= (kk : Int) := by omega
   have h5 : (kk : Int) < 5 := by omega
   have hcell := aM ((O.out _ _ _ AX.out (Z68) (Z31)).trans AX.out)
   have hle : kk < [kind, mode, flags, (l.length : Int), (nm.size : Int)].length := by simpa using hlt
   obtain ⟨v, hv⟩ : ∃ v, [kind, mode, flags, (l.length : Int), (nm.size : Int)][kk] = v := ⟨_, rfl⟩
   have z : wr.cell? ⟨w.heap.size + 1 + 1, kk, none⟩ = some (.int .i64 v) := (al hcell.out kk).trans (by
    rw [← hv]
    rcases (by omega : kk = 0 ∨ kk = 1 ∨ kk = 2 ∨ kk = 3 ∨ kk = 4) with rfl | rfl | rfl | rfl | rfl <;> rfl)
   have bE : v % 256 = v := by
    rw [← hv]
    rcases (by omega : kk = 0 ∨ kk = 1 ∨ kk = 2 ∨ kk = 3 ∨ kk = 4) with rfl | rfl | rfl | rfl | rfl <;> simp <;> omega
   have hnext := aM (show [kind, mode, flags, (l.length : Int), (nm.size : Int)].take (kk + 1) = [kind, mode, flags, (l.length : Int), (nm.size : Int)].take kk ++ [v] by rw [← hv, List.take_succ_eq_append_getElem hle])
   clear hv
   go_wp2_with fail
   refine (bl_WriteByte _ _ _ v _ I.out (by simp; omega) (Nat.le_trans (Nat.le_of_lt HS.out) BB.out.size)).mono ?_
   rintro e w2 ⟨rfl, aW, aX, aY⟩
   go_wp2
   go_roundg (5 - (kk + 1))
   case measure => omega
   case rel => exact ⟨kk + 1, Z31, Z31, by go_num, ⟨by rw [hnext.out]; exact aW⟩, ⟨Below.trans BB.out aX⟩, ⟨O.out.trans aY⟩⟩
  obtain rfl : kk = 5 := by omega
  have hfull : [kind, mode, flags, (l.length : Int), (nm.size : Int)].take 5 = [kind, mode, flags, (l.length : Int), (nm.size : Int)] := rfl
  rw [hfull] at I
  have X := aM ((BB.out.block _ (Z31)).trans BX.out)
  have Y := aM (Below.trans HB.out (BB.out.mono (Z31)))
  have Z := aM (Nat.lt_of_lt_of_le HS.out BB.out.size)
  clear hfull BX HB HS BB O AX
  go_upto_region 7 with (fail)
  go_region_held3 (fun W => W.cell? ⟨w.heap.size, 1, none⟩ = some (.int .i64 uid) /\ W.cell? ⟨w.heap.size, 4, none⟩ = some (.string nm))
   (first | exact ⟨(al aA.out 1).trans rfl, (al aA.out 4).trans rfl⟩ | exact ⟨(al aB.out 1).trans rfl, (al aB.out 4).trans rfl⟩ | exact ⟨(al (by repeat (first | exact X.out | (with_reducible refine ag ?_))) 1).trans rfl, (al (by repeat (first | exact X.out | (with_reducible refine ag ?_))) 4).trans rfl⟩ | go_keep)
   (first
    | (go_at_call 119; refine (eq.calls 4 uid 2 t _ hq.out).mono ?_; rintro e w3 ⟨rfl, hb⟩; have aB := aM (ai (by repeat (first | exact X.out | (with_reducible refine ag ?_))) hb); have HB2 := aM (ae (by repeat (first | exact Y.out | apply ac)) hb); have M := aM (ib_below (ib_drew I.out) hb); have y := aM (Nat.lt_of_lt_of_le Z.out (by have := hb.size; simpa using this)); clear hb)
    | (go_at_call 128; refine (bl_WriteString _ _ _ (t ++ nm) _ M.out ?_ (Nat.le_of_lt y.out)).mono ?_; (focus (simp; omega)); rintro e w4 ⟨rfl, U, s, aC⟩; have aA := aM ((s.block _ (Nat.lt_succ_self _)).trans aB.out); have aD := aM (Below.trans HB2.out (s.mono (Nat.le_succ _))); have I3 := aM U; have aF := aM (Nat.lt_of_lt_of_le y.out s.size); clear U s aC))
  have I4 := aM (show IsB (w.heap.size + 1) (w.heap.size + 1) (headL kind uid mode flags nm l.length) w4 from by have := I3.out; rw [bytesOf_app, HT.out, ← List.append_assoc] at this; exact this)
  obtain ⟨-, -, -, -, -, z5⟩ := cl6 aA.out
  clear I M I3 X aB Y HB2 Z y hq HT hcat hts
  go_wp2
  clear z5
  go_loopg [7, 41] l.length (fun gg s7 aZ wr => ∃ (kk : Nat), kk <= l.length /\ l.length - kk <= gg /\ aZ = .int .i64 kk /\ ap (IsB (w.heap.size + 1) (w.heap.size + 1) (headL kind uid mode flags nm l.length ++ (l.take kk).flatMap itemL) wr) /\ ap (Below w.heap.size w wr) /\ ap (w.heap.size + 1 < wr.heap.size))
  case atStart => exact ⟨0, Nat.zero_le _, Z31, rfl, ⟨by simpa using I4.out⟩, aD, aF⟩
  case round =>
   obtain ⟨kk, hkk, hgg, rfl, I, HB, HS⟩ := hrel
   clear I4 aD aF aA
   by_cases hlt : kk < l.length
   ·have hltz : (kk : Int) < (l.length : Int) := by omega
    have h0 : 0 <= (kk : Int) := by omega
    obtain ⟨ad, e, aG, hx1⟩ := at_T84 (Kd.C_below HR.out HB.out) kk h0 hltz
    cases e
    simp only [Int.toNat_natCast] at aG hx1
    have hel : ay l (kk : Int) = l[kk] := by unfold ay; simp [List.getD, List.getElem?_eq_getElem hlt]
    have hsz := HM.out.2.2.2.2.2.2.2.2.2.2 l[kk] (List.getElem_mem hlt)
    have hlen : (headL kind uid mode flags nm l.length ++ (l.take kk).flatMap itemL).length <= 4294967296 := by
     have h1 := items_length (l.take kk) fun x hx => HM.out.2.2.2.2.2.2.2.2.2.2 x (List.mem_of_mem_take hx)
     have h2 : (l.take kk).length <= 255 := by rw [List.length_take]; omega
     rw [List.length_append, headL_length]
     omega
    have hnext : headL kind uid mode flags nm l.length ++ (l.take (kk + 1)).flatMap itemL = (headL kind uid mode flags nm l.length ++ (l.take kk).flatMap itemL) ++ itemL l[kk] := by
     rw [List.take_succ_eq_append_getElem hlt, List.flatMap_append, List.append_assoc]; simp
    rw [hel] at aG hx1
    generalize l[kk] = q at hsz hnext aG hx1
    have HN := aM hnext
    generalize headL kind uid mode flags nm l.length ++ (l.take kk).flatMap itemL = ys at I hlen HN
    clear hnext hel
    obtain ⟨D, hA, bG, aN⟩ := inBytes_text q.f0.size (Z31) (Z31)
    obtain ⟨J, hE, bH, aO⟩ := inBytes_text q.f1.size (Z31) (Z31)
    have HA := aM hA
    have HE := aM hE
    have HT := aM (show bytesOf (D ++ J ++ q.f0 ++ q.f1) = itemL q by rw [bytesOf_app, bytesOf_app, bytesOf_app, aN, aO]; rfl)
    have bI : (9223372036854775807 < D.size + J.size) = False := eq_false (Z31)
    have bJ : (9223372036854775807 < D.size + J.size + q.f0.size) = False := eq_false (Z31)
    have bK : (9223372036854775807 < D.size + J.size + q.f0.size + q.f1.size) = False := eq_false (Z31)
    clear hA aN hE aO
    go_upto_region 11 with (fail)
    have I0 := aM (ib_below I.out (ab (bi _ _) (.cells #[.string q.f0, .string q.f1] 84)))
    have aQ := aM (ab HB.out (.cells #[.string q.f0, .string q.f1] 84))
    have aR := aM (show w.heap.size + 1 < (wr.alloc (.cells #[.string q.f0, .string q.f1] 84)).heap.size from Nat.lt_of_lt_of_le HS.out (fg))
    have hg := HS.out
    have XB0 := aM (show (wr.alloc (.cells #[.string q.f0, .string q.f1] 84)).heap[wr.heap.size]? = some (.cells #[.string q.f0, .string q.f1] 84 (0, 0)) from by simpa using heap_alloc_new wr _)
    clear aG hx1
    generalize wr.alloc (.cells #[.string q.f0, .string q.f1] 84) = W2 at I0 aQ aR XB0 ⊢
    generalize wr.heap.size = g at XB0 hg ⊢
    have HG := aM hg
    clear hg
    go_region_held3 (fun W => W.cell? ⟨g, 0, none⟩ = some (.string q.f0) /\ W.cell? ⟨g, 1, none⟩ = some (.string q.f1))
     (first | exact ⟨(al aS.out 0).trans rfl, (al aS.out 1).trans rfl⟩ | exact ⟨(al aH.out 0).trans rfl, (al aH.out 1).trans rfl⟩ | exact ⟨(al aI.out 0).trans rfl, (al aI.out 1).trans rfl⟩ | exact ⟨(al (Z168) 0).trans rfl, (al (Z168) 1).trans rfl⟩ | trivial | go_keep)
     (first
      | (have I2_ := M; go_at_call 128; refine (bl_WriteString _ _ _ (D ++ J ++ q.f0 ++ q.f1) _ M.out ?_ (Nat.le_of_lt y.out)).mono ?_; (focus (simp; omega)); rintro e w8 ⟨rfl, U, s, aC⟩; have aS := aM ((aC _ _ _ aH.out (Z68) (by have := HG.out; omega)).trans aH.out); have aD := aM (Below.trans HB2.out (s.mono (Nat.le_succ _))); have I3 := aM U; have aF := aM (Nat.lt_of_lt_of_le y.out s.size); clear U s aC I2_)
      | (have I1_ := I1; go_at_call 119; refine (eq.calls 4 q.f1.size 2 J _ HE.out).mono ?_; rintro e w7 ⟨rfl, hb⟩; have aH := aM (ai aI.out hb); have HB2 := aM (ae Y.out hb); have M := aM (ib_below I1.out hb); have y := aM (Nat.lt_of_lt_of_le Z.out hb.size); clear hb I1_)
      | (go_at_call 119; refine (eq.calls 4 q.f0.size 2 D _ HA.out).mono ?_; rintro e w6 ⟨rfl, hb⟩; have aI := aM (ai (Z168) hb); have Y := aM (ae (by repeat (first | exact aQ.out | apply ac)) hb); have I1 := aM (ib_below (ib_drew I0.out) hb); have Z := aM (Nat.lt_of_lt_of_le aR.out (by have := hb.size; simpa using this)); clear hb))
    go_wp2
    go_roundg (l.length - (kk + 1))
    case measure => omega
    case rel => exact ⟨kk + 1, Z31, Z31, by go_num, ⟨by rw [HN.out, ← HT.out]; exact I3.out⟩, aD, aF⟩
   obtain rfl : kk = l.length := by omega
   have hltz : ¬ (l.length : Int) < (l.length : Int) := by omega
   have I5 := aM (show IsB (w.heap.size + 1) (w.heap.size + 1) (mutBytesL kind uid mode flags nm l) wr from by simpa [mutBytesL] using I.out)
   go_wp2_with fail
   refine (bl_String _ _ _ _ I5.out (mutBytesL_in HM.out) (Nat.le_of_lt HS.out)).mono ?_
   rintro e w9 ⟨rfl, a3⟩
   go_wp2
   go_ret
   exact ⟨rfl, Below.trans HB.out (a3.mono (Nat.le_succ _))⟩
def impl_Log_hasRoom.f (s : Int) (y : ByteArray) (D : Int) (a1 : ByteArray) : Option (Bool) := some (decide ((wrap64 ((wrap64 ((y.size : Int) + 7)) + (a1.size : Int))) <= s))
theorem impl_Log_hasRoom.calls (s : Int) (y : ByteArray) (D : Int) (a1 : ByteArray) (r : Bool) (w : World) (h : impl_Log_hasRoom.f s y D a1 = some r) :
  Calls prog 105 #[.agg #[.int .i64 s, .string y, .int .i64 D], .string a1] w fun e w' => e = .returned (.bool r) /\ Below w.heap.size w w' := by
 have M := underlying32
 have HB := aM (bi w.heap.size w)
 have H := h
 clear h
 unfold impl_Log_hasRoom.f at H
 obtain rfl := oI H
 go_enter func105, ntmps105
 go_wp2_with (first | ((with_reducible refine gD 2 ?_); refine bxF w 2 #[.int .i64 s, .string y, .int .i64 D] 32 (Z0) ?_; intro O hg w3 I U J HB hb; clear hb hg; refine bD3 I ?_; intros))
 go_ret
 exact ⟨Z1, by repeat (first | (with_reducible first | exact HB.out | apply ab | apply af | apply ac | refine aa ?_ J.out) | exact HB.out)⟩
def impl_room (s0 : Int) (s1 : ByteArray) (s2 : Int) (kind uid mode flags : Int) (nm : ByteArray) (l : List S84) : Option (ByteArray × Int) :=
 (impl_mutationBytes.f kind uid mode flags nm l).bind fun t => if 20000 < t.size then some (⟨#[]⟩, 7) else (impl_Log_hasRoom.f s0 s1 s2 t).bind fun b => if b = true then some (t, 0) else some (⟨#[]⟩, 7)
section
variable (g : Nat) (s0 : Int) (s1 : ByteArray) (s2 : Int) (v : Value) (kind uid mode flags : Int) (nm : ByteArray) (A : Option Addr) (c : Nat) (l : List S84) (w : World)
theorem i_room (r : ByteArray × Int) (hg : w.heap[g]? = some (.cells #[.int .i64 s0, .string s1, .int .i64 s2, v] 35 (0, 0))) (hC : Kd.C k84 w A l.length l) (hc : l.length <= c) (h : impl_room s0 s1 s2 kind uid mode flags nm l = some r) :
  Calls prog 57 #[.pointer (some ⟨g, 0, none⟩), .agg #[.int .i64 kind, .int .i64 uid, .int .i64 mode, .int .i64 flags, .string nm, .slice A l.length c]] w fun e w' => e = .returned (.tuple #[.string r.1, .int .i64 r.2]) /\ Below w.heap.size w w' := by
 unfold impl_room at h
 obtain ⟨t, ht, h⟩ := Option.bind_eq_some_iff.mp h
 have HT := aM ht
 have HC := aM (Kd.C_alloc hC (.cells #[.int .i64 kind, .int .i64 uid, .int .i64 mode, .int .i64 flags, .string nm, .slice A l.length c] 41))
 have GX := aM (ah hg (.cells #[.int .i64 kind, .int .i64 uid, .int .i64 mode, .int .i64 flags, .string nm, .slice A l.length c] 41))
 have HB := aM (ab (bi w.heap.size w) (.cells #[.int .i64 kind, .int .i64 uid, .int .i64 mode, .int .i64 flags, .string nm, .slice A l.length c] 41))
 clear ht hC hg
 go_enter func57, ntmps57
 go_wp2_with fail
 refine (impl_mutationBytes.calls kind uid mode flags nm A c l t _ HC.out hc HT.out).mono ?_
 rintro e w2 ⟨rfl, hb⟩
 have HB2 := aM (ae HB.out hb)
 have s := ai GX.out hb
 obtain ⟨z0, z1, z2⟩ := cl3 s
 clear HB GX hb s
 by_cases h1 : 20000 < t.size
 ·rw [if_pos h1] at h
  obtain rfl := Option.some.inj h
  have I : decide ((20000 : Int) < (t.size : Int)) = true := az (Z31)
  clear h1 h
  go_wp2
  go_ret2
  exact ⟨rfl, HB2.out⟩
 rw [if_neg h1] at h
 obtain ⟨b, hb, h⟩ := Option.bind_eq_some_iff.mp h
 have I : decide ((20000 : Int) < (t.size : Int)) = false := ba (Z31)
 have HH := aM hb
 clear h1 hb
 go_wp2_with fail
 refine (impl_Log_hasRoom.calls s0 s1 s2 t b _ HH.out).mono ?_
 rintro e w3 ⟨rfl, y⟩
 have D := aM (ae HB2.out y)
 clear z0 z1 z2 HB2 y
 cases b with
 | true =>
  obtain rfl := Option.some.inj h
  go_wp2
  go_ret2
  exact ⟨rfl, D.out⟩
 | false =>
  obtain rfl := Option.some.inj h
  go_wp2
  go_ret2
  exact ⟨rfl, D.out⟩
end
def impl_commit (k : Nat) (s0 : Int) (s1 : ByteArray) (s2 : Int) (bx : List S82) (kind uid mode flags : Int) (nm : ByteArray) (l : List S84) : Option (Int × ByteArray × Int × List S82 × Int) :=
 (dj.f k bx).bind fun cl => if cl.length <= 1048576 /\ (∀ b ∈ cl, b.f3.length <= 1048576 /\ b.f4.length <= 1048576) /\ l.length <= 1048576 then
  (if (gi cl kind uid mode flags nm l).2 ≠ 0 then some (s0, s1, s2, bx, (gi cl kind uid mode flags nm l).2) else
   (impl_room s0 s1 s2 kind uid mode flags nm l).bind fun t => if t.2 ≠ 0 then some (s0, s1, s2, bx, t.2) else
    (impl_Log_with.f s0 s1 s2 t.1).bind fun u => (impl_Log_sync.f u.1 u.2.1 u.2.2).bind fun v => some (v.1, v.2.1, v.2.2, (gi cl kind uid mode flags nm l).1, 0))
  else none
theorem i_commit (k g : Nat) (s0 : Int) (s1 : ByteArray) (s2 : Int) (v : Value) (bx : List S82) (kind uid mode flags : Int) (nm : ByteArray) (A : Option Addr) (c : Nat) (l : List S84) (w0 w : World) (r : Int × ByteArray × Int × List S82 × Int)
  (hg : w.heap[g]? = some (.cells #[.int .i64 s0, .string s1, .int .i64 s2, v] 35 (0, 0))) (hgw : w0.heap.size <= g) (hS : Kd.S k82 82 w w0.heap.size (fun _ => True) v bx) (hB : Below w0.heap.size w0 w) (hC : Kd.C k84 w0 A l.length l) (hc : l.length <= c) (h : impl_commit k s0 s1 s2 bx kind uid mode flags nm l = some r) :
  Calls prog 27 #[.pointer (some ⟨g, 0, none⟩), .agg #[.int .i64 kind, .int .i64 uid, .int .i64 mode, .int .i64 flags, .string nm, .slice A l.length c]] w fun e w' => ∃ v', e = .returned (.int .i64 r.2.2.2.2) /\ w'.heap[g]? = some (.cells #[.int .i64 r.1, .string r.2.1, .int .i64 r.2.2.1, v'] 35 (0, 0)) /\ Kd.S k82 82 w' w0.heap.size (fun _ => True) v' r.2.2.2.1 /\ Below w0.heap.size w0 w' := by
 unfold impl_commit at h
 obtain ⟨cl, hcl, h⟩ := Option.bind_eq_some_iff.mp h
 split at h
 case isFalse => cases h
 rename_i hin
 have HL := aM hcl
 have HI := aM hin
 obtain ⟨A3, c3, rfl⟩ := Kd.S_slice hS
 have HS := aM (Kd.S_alloc hS (.cells #[.int .i64 kind, .int .i64 uid, .int .i64 mode, .int .i64 flags, .string nm, .slice A l.length c] 41))
 have GX := aM (ah hg (.cells #[.int .i64 kind, .int .i64 uid, .int .i64 mode, .int .i64 flags, .string nm, .slice A l.length c] 41))
 have HB := aM (ab hB (.cells #[.int .i64 kind, .int .i64 uid, .int .i64 mode, .int .i64 flags, .string nm, .slice A l.length c] 41))
 have BX := aM (show (w.alloc (.cells #[.int .i64 kind, .int .i64 uid, .int .i64 mode, .int .i64 flags, .string nm, .slice A l.length c] 41)).heap[w.heap.size]? = some (.cells #[.int .i64 kind, .int .i64 uid, .int .i64 mode, .int .i64 flags, .string nm, .slice A l.length c] 41 (0, 0)) from by simpa using heap_alloc_new w _)
 have HC := aM hC
 clear hcl hin hS hg hB hC
 go_enter func27, ntmps27
 go_upto_region 1 with (fail)
 generalize w.alloc (.cells #[.int .i64 kind, .int .i64 uid, .int .i64 mode, .int .i64 flags, .string nm, .slice A l.length c] 41) = W1 at HS GX HB BX ⊢
 generalize w.heap.size = x0 at BX ⊢
 obtain ⟨-, -, -, z3⟩ := cl4 GX.out
 go_region_held3 (fun W => W.cell? ⟨x0, 0, none⟩ = some (.int .i64 kind) /\ W.cell? ⟨x0, 1, none⟩ = some (.int .i64 uid) /\ W.cell? ⟨x0, 2, none⟩ = some (.int .i64 mode) /\ W.cell? ⟨x0, 3, none⟩ = some (.int .i64 flags) /\ W.cell? ⟨x0, 4, none⟩ = some (.string nm) /\ W.cell? ⟨x0, 5, none⟩ = some (.slice A l.length c) /\ W.cell? ⟨g, 3, none⟩ = some (.slice A3 bx.length c3))
  (first
   | exact ⟨(al U.out 0).trans rfl, (al U.out 1).trans rfl, (al U.out 2).trans rfl, (al U.out 3).trans rfl, (al U.out 4).trans rfl, (al U.out 5).trans rfl, (al aB.out 3).trans rfl⟩
   | exact ⟨(al y.out 0).trans rfl, (al y.out 1).trans rfl, (al y.out 2).trans rfl, (al y.out 3).trans rfl, (al y.out 4).trans rfl, (al y.out 5).trans rfl, (al aG.out 3).trans rfl⟩
   | exact ⟨(al (ag BX.out) 0).trans rfl, (al (ag BX.out) 1).trans rfl, (al (ag BX.out) 2).trans rfl, (al (ag BX.out) 3).trans rfl, (al (ag BX.out) 4).trans rfl, (al (ag BX.out) 5).trans rfl, (al (ag GX.out) 3).trans rfl⟩
   | go_keep)
  (first
   | (have BX2_ := y; go_at_call 56; refine (i_mutate s (fun q => s <= q) _ cl kind uid mode flags nm A c l _ aR.out aL.out (fun q hq => Nat.le_trans aL.out hq) ?_ HI.out.1 HI.out.2.1 HI.out.2.2).mono ?_; (focus (intro W' hk; exact Kd.C_below HC.out (Below.trans HB2.out (hk.is_below HB2.out.size (fun q hq => Nat.le_trans HNW.out hq))))); rintro e w4 ⟨X, rfl, aN, aC⟩; have U := aM ((aC.block _ (en y.out) (by have := HXN.out; omega)).trans y.out); have aB := aM ((aC.block _ (en aG.out) (by have := HGN.out; omega)).trans aG.out); have aH := aM (Below.trans HB2.out (aC.is_below HB2.out.size (fun q hq => Nat.le_trans HNW.out hq))); have aD := aM (Kd.S_step aS.out (fun q hq hlt => aC.block q hlt (by have := hq.2; omega))); obtain ⟨J, c5, e5⟩ := Kd.S_slice aN; subst e5; have aO := aM (Kd.S_lower (Kd.S_mono aN (fun _ _ => trivial)) HNW.out); clear aN aC BX2_)
   | (go_at_call 55; refine (dj.calls k A3 c3 bx cl _ ?_ ?_ HL.out).mono ?_; (focus (exact (Kd.S_reads' (Kd.S_drew HS.out)).2.2)); (focus (exact (Kd.S_reads' HS.out).2.1)); rintro e w3 ⟨M, rfl, aP, Z⟩; obtain ⟨A4, c4, e4⟩ := Kd.S_slice aP; subst e4; obtain ⟨s, Y⟩ : ∃ s, s = W1.heap.size := ⟨_, rfl⟩; have HNW := aM (show w0.heap.size <= s from by rw [Y]; exact HB.out.size); have HXN := aM (show x0 < s from by rw [Y]; exact en BX.out); have HGN := aM (show g < s from by rw [Y]; exact en GX.out); have aL := aM (show s <= w3.heap.size from by rw [Y]; have := Z.size; simpa using this); have aR := aM (show Kd.S k82 82 w3 s (fun q => s <= q) _ cl from by rw [Y]; exact Kd.S_mono (Kd.S_bound aP) (fun q hq => by have := hq.2.1; simpa using this)); have aS := aM (Kd.S_mono (ok' := fun q => True /\ q < s) (Kd.S_old (Kd.S_drew HS.out) Z) (fun q hq => ⟨trivial, by rw [Y]; have := hq.2; simpa using this⟩)); have y := aM (ai (ag BX.out) Z); have aG := aM (ai (ag GX.out) Z); have HB2 := aM (ae (ac HB.out) Z); clear aP Z Y))
 clear BX GX HB HS y aG HB2 aR aS aL z3 HXN HGN HNW
 obtain ⟨q, hq⟩ : ∃ q, gi cl kind uid mode flags nm l = q := ⟨_, rfl⟩
 rw [hq] at h aO ⊢
 obtain ⟨O, q2⟩ := q
 have aD := aM (Kd.S_mono (ok' := fun _ => True) aD.out (fun _ _ => trivial))
 by_cases h2 : q2 = 0
 ·subst h2
  rw [if_neg (fg)] at h
  obtain ⟨t, ht, h⟩ := Option.bind_eq_some_iff.mp h
  have HT := aM ht
  clear ht
  go_wp2_with fail
  refine (i_room g s0 s1 s2 _ kind uid mode flags nm A c l _ t aB.out (Kd.C_below HC.out aH.out) hc HT.out).mono ?_
  rintro e w5 ⟨rfl, aE⟩
  have D := aM (ai aB.out aE)
  have aQ := aM (ae aH.out aE)
  have aU := aM (Kd.S_below aO.out aE)
  have aV := aM (Kd.S_below aD.out aE)
  clear U aB aH aO aD aE
  obtain ⟨t1, t2⟩ := t
  by_cases h3 : t2 = 0
  ·subst h3
   rw [if_neg (fg)] at h
   obtain ⟨⟨u0, u1, u2⟩, hu, h⟩ := Option.bind_eq_some_iff.mp h
   obtain ⟨⟨M, X, v2⟩, hv, h⟩ := Option.bind_eq_some_iff.mp h
   obtain rfl := Option.some.inj h
   have HU := aM hu
   have HV := aM hv
   have f3 := am D.out 3
   obtain ⟨z0, z1, z2, z3⟩ := cl4 D.out
   have aX := aM (show (w5.setCell ⟨g, 3, none⟩ (.slice J O.length c5)).heap[g]? = some (.cells #[.int .i64 s0, .string s1, .int .i64 s2, .slice J O.length c5] 35 (0, 0)) from ch (cs := #[.int .i64 s0, .string s1, .int .i64 s2, .slice A3 bx.length c3]) D.out 3 _ rfl)
   have aY := aM (aa (j := 3) (v := .slice J O.length c5) aQ.out hgw)
   have aZ := aM (Kd.S_set aU.out D.out (Z68) 3 (.slice J O.length c5))
   clear hu hv D aQ aU aV h
   go_wp2_with fail
   refine (impl_Log_with.calls s0 s1 s2 t1 u0 u1 u2 _ HU.out).mono ?_
   rintro e w6 ⟨rfl, aJ⟩
   have a2 := aM (ai aX.out aJ)
   have a3 := aM (ae aY.out aJ)
   have a5 := aM (Kd.S_below aZ.out aJ)
   clear z0 z1 z2 z3 f3 aX aY aZ aJ HU
   go_wp2_with fail
   refine (impl_Log_sync.calls u0 u1 u2 M X v2 _ HV.out).mono ?_
   rintro e w7 ⟨rfl, aK⟩
   have I := aM (ai a2.out aK)
   have a6 := aM (ae a3.out aK)
   have a7 := aM (Kd.S_below a5.out aK)
   clear a2 a3 a5 aK HV
   obtain ⟨z0, z1, z2⟩ := cl3 I.out
   have f0 := am I.out 0
   have f1 := am I.out 1
   have f2 := am I.out 2
   have bB := aM (show (((w7.setCell ⟨g, 0, none⟩ (.int .i64 M)).setCell ⟨g, 1, none⟩ (.string X)).setCell ⟨g, 2, none⟩ (.int .i64 v2)).heap[g]? = some (.cells #[.int .i64 M, .string X, .int .i64 v2, .slice J O.length c5] 35 (0, 0)) from
    ch (cs := #[.int .i64 M, .string X, .int .i64 s2, .slice J O.length c5]) (ch (cs := #[.int .i64 M, .string s1, .int .i64 s2, .slice J O.length c5]) (ch (cs := #[.int .i64 s0, .string s1, .int .i64 s2, .slice J O.length c5]) I.out 0 _ rfl) 1 _ rfl) 2 _ rfl)
   have bC := aM (aa (j := 2) (v := .int .i64 v2) (aa (j := 1) (v := .string X) (aa (j := 0) (v := .int .i64 M) a6.out hgw) hgw) hgw)
   have bD := aM (Kd.S_mono (ok' := fun _ => True) (Kd.S_far (p := ⟨g, 2, none⟩) (Kd.S_far (p := ⟨g, 1, none⟩) (Kd.S_far (p := ⟨g, 0, none⟩) (Kd.S_types a7.out I.out (Z68)) (fun _ hk => hk.2) (.int .i64 M)) (fun _ hk => hk.2) (.string X)) (fun _ hk => hk.2) (.int .i64 v2)) (fun _ _ => trivial))
   clear I a6 a7
   go_wp2
   go_ret
   exact ⟨rfl, _, bB.out, bD.out, bC.out⟩
  rw [if_pos h3] at h
  obtain rfl := Option.some.inj h
  have hb : (t2 != 0) = true := by simpa using h3
  clear h h3
  go_wp2
  go_ret
  exact ⟨rfl, _, D.out, aV.out, aQ.out⟩
 rw [if_pos h2] at h
 obtain rfl := Option.some.inj h
 have hb : (q2 != 0) = true := by simpa using h2
 clear h h2
 go_wp2
 go_ret
 exact ⟨rfl, _, aB.out, aD.out, aH.out⟩
def impl_Commit.f (k : Nat) (s : Int) (y : ByteArray) (D : Int) (l0_3 : List S82) (I J M O : Int) (U : ByteArray) (X : List S84) : Option (Int × ByteArray × Int × List S82 × Int) :=
 (eh.f k s y D l0_3).bind fun b => if b = false then some (0, ⟨#[]⟩, 0, [], 1) else
  (gj.f k I J M O U X).bind fun Y => if Y = false then some (0, ⟨#[]⟩, 0, [], 1) else
   (impl_cloneEngine.f k s y D l0_3).bind fun q => impl_commit k q.1 q.2.1 q.2.2.1 q.2.2.2 I J M O U X
theorem impl_Commit.calls (k : Nat) (y : Int) (D : ByteArray) (I : Int) (J : Option Addr) (M : Nat) (l0_3 : List S82) (O U X Y : Int) (Z : ByteArray) (aA : Option Addr) (aB : Nat) (s : List S84) (r1 : Int) (r2 : ByteArray) (r3 : Int) (r4 : List S82) (r5 : Int) (w : World)
  (aV : Kd.C k82 w J l0_3.length l0_3) (bG : l0_3.length <= M) (aW : Kd.C k84 w aA s.length s) (bH : s.length <= aB) (h : impl_Commit.f k y D I l0_3 O U X Y Z s = some (r1, r2, r3, r4, r5)) :
  Calls prog 9 #[.agg #[.int .i64 y, .string D, .int .i64 I, .slice J l0_3.length M], .agg #[.int .i64 O, .int .i64 U, .int .i64 X, .int .i64 Y, .string Z, .slice aA s.length aB]] w fun e w' => ∃ v3_ : Value, e = .returned (.tuple #[.agg #[.int .i64 r1, .string r2, .int .i64 r3, v3_], .int .i64 r5]) /\ Kd.S k82 82 w' w.heap.size (fun _ => True) v3_ r4 /\ Below w.heap.size w w' := by
 unfold impl_Commit.f at h
 obtain ⟨b, hb, h⟩ := Option.bind_eq_some_iff.mp h
 have HE := aM hb
 replace aV := aM aV
 replace aW := aM aW
 have EX := aM (ah (ah (show (w.alloc (.cells #[.int .i64 y, .string D, .int .i64 I, .slice J l0_3.length M] 35)).heap[w.heap.size]? = some (.cells #[.int .i64 y, .string D, .int .i64 I, .slice J l0_3.length M] 35 (0, 0)) from by simpa using heap_alloc_new w _) (.cells #[.int .i64 O, .int .i64 U, .int .i64 X, .int .i64 Y, .string Z, .slice aA s.length aB] 41)) (.cells #[.int .i64 0, .string ⟨#[]⟩, .int .i64 0, .slice none 0 0] 35))
 have MX := aM (ah (show ((w.alloc (.cells #[.int .i64 y, .string D, .int .i64 I, .slice J l0_3.length M] 35)).alloc (.cells #[.int .i64 O, .int .i64 U, .int .i64 X, .int .i64 Y, .string Z, .slice aA s.length aB] 41)).heap[w.heap.size + 1]? = some (.cells #[.int .i64 O, .int .i64 U, .int .i64 X, .int .i64 Y, .string Z, .slice aA s.length aB] 41 (0, 0)) from by simpa using heap_alloc_new (w.alloc (.cells #[.int .i64 y, .string D, .int .i64 I, .slice J l0_3.length M] 35)) _) (.cells #[.int .i64 0, .string ⟨#[]⟩, .int .i64 0, .slice none 0 0] 35))
 have RX := aM (show (((w.alloc (.cells #[.int .i64 y, .string D, .int .i64 I, .slice J l0_3.length M] 35)).alloc (.cells #[.int .i64 O, .int .i64 U, .int .i64 X, .int .i64 Y, .string Z, .slice aA s.length aB] 41)).alloc (.cells #[.int .i64 0, .string ⟨#[]⟩, .int .i64 0, .slice none 0 0] 35)).heap[w.heap.size + 1 + 1]? = some (.cells #[.int .i64 0, .string ⟨#[]⟩, .int .i64 0, .slice none 0 0] 35 (0, 0)) from by simpa using heap_alloc_new ((w.alloc (.cells #[.int .i64 y, .string D, .int .i64 I, .slice J l0_3.length M] 35)).alloc (.cells #[.int .i64 O, .int .i64 U, .int .i64 X, .int .i64 Y, .string Z, .slice aA s.length aB] 41)) _)
 have HB := aM (ab (ab (ab (bi w.heap.size w) (.cells #[.int .i64 y, .string D, .int .i64 I, .slice J l0_3.length M] 35)) (.cells #[.int .i64 O, .int .i64 U, .int .i64 X, .int .i64 Y, .string Z, .slice aA s.length aB] 41)) (.cells #[.int .i64 0, .string ⟨#[]⟩, .int .i64 0, .slice none 0 0] 35))
 have aN : w.heap.size <= w.heap.size + 1 + 1 := by omega
 clear hb
 go_enter func9, ntmps9
 go_upto_region 1 with (fail)
 generalize ((w.alloc (.cells #[.int .i64 y, .string D, .int .i64 I, .slice J l0_3.length M] 35)).alloc (.cells #[.int .i64 O, .int .i64 U, .int .i64 X, .int .i64 Y, .string Z, .slice aA s.length aB] 41)).alloc (.cells #[.int .i64 0, .string ⟨#[]⟩, .int .i64 0, .slice none 0 0] 35) = W1 at EX MX RX HB ⊢
 obtain ⟨y0, y1, y2, y3⟩ := cl4 EX.out
 go_wp2_with fail
 refine (eh.calls k y D I J M l0_3 b _ (Kd.C_below aV.out HB.out) bG HE.out).mono ?_
 rintro e w2 ⟨rfl, aT⟩
 have EX2 := aM (ai EX.out aT)
 have MX2 := aM (ai MX.out aT)
 have aF := aM (ai RX.out aT)
 have HB2 := aM (ae HB.out aT)
 clear EX MX RX HB HE aT y0 y1 y2 y3
 have bad : ∀ (W : World), Below w.heap.size w W -> W.heap[w.heap.size + 1 + 1]? = some (.cells #[.int .i64 0, .string ⟨#[]⟩, .int .i64 0, .slice none 0 0] 35 (0, 0)) ->
   Below w.heap.size w ((((W.setCell ⟨w.heap.size + 1 + 1, 0, none⟩ (.int .i64 0)).setCell ⟨w.heap.size + 1 + 1, 1, none⟩ (.string ⟨#[]⟩)).setCell ⟨w.heap.size + 1 + 1, 2, none⟩ (.int .i64 0)).setCell ⟨w.heap.size + 1 + 1, 3, none⟩ (.slice none 0 0)) /\
   ((((W.setCell ⟨w.heap.size + 1 + 1, 0, none⟩ (.int .i64 0)).setCell ⟨w.heap.size + 1 + 1, 1, none⟩ (.string ⟨#[]⟩)).setCell ⟨w.heap.size + 1 + 1, 2, none⟩ (.int .i64 0)).setCell ⟨w.heap.size + 1 + 1, 3, none⟩ (.slice none 0 0)).heap[w.heap.size + 1 + 1]? = some (.cells #[.int .i64 0, .string ⟨#[]⟩, .int .i64 0, .slice none 0 0] 35 (0, 0)) := fun W hb hr =>
  ⟨aa (aa (aa (aa hb aN) aN) aN) aN, ch (cs := #[.int .i64 0, .string ⟨#[]⟩, .int .i64 0, .slice none 0 0]) (ch (cs := #[.int .i64 0, .string ⟨#[]⟩, .int .i64 0, .slice none 0 0]) (ch (cs := #[.int .i64 0, .string ⟨#[]⟩, .int .i64 0, .slice none 0 0]) (ch (cs := #[.int .i64 0, .string ⟨#[]⟩, .int .i64 0, .slice none 0 0]) hr 0 _ rfl) 1 _ rfl) 2 _ rfl) 3 _ rfl⟩
 have BAD := aM bad
 clear bad
 cases b with
 | false =>
  rw [if_pos rfl] at h
  simp only [Option.some.injEq, Prod.mk.injEq] at h
  obtain ⟨rfl, rfl, rfl, rfl, rfl⟩ := h
  have f0 := am aF.out 0
  have f1 := am aF.out 1
  have f2 := am aF.out 2
  have f3 := am aF.out 3
  obtain ⟨q0, q1, q2, q3⟩ := cl4 aF.out
  have HR := aM (BAD.out w2 HB2.out aF.out)
  clear BAD
  go_wp2
  refine bodyPost_ret (fk rfl _ _ (w.heap.size + 1 + 1) 35 #[.int .i64 0, .string ⟨#[]⟩, .int .i64 0, .slice none 0 0] (0, 0) _ rfl HR.out.2 underlying35 rfl (Z16)) rfl ?_
  exact ⟨.slice none 0 0, rfl, Kd.S_nil .., HR.out.1⟩
 | true =>
  rw [if_neg (fg)] at h
  obtain ⟨b2, hb, h⟩ := Option.bind_eq_some_iff.mp h
  have HM := aM hb
  clear hb
  obtain ⟨m0, m1, m2, m3, m4, m5⟩ := cl6 MX2.out
  go_wp2_with fail
  refine (gj.calls k O U X Y Z aA aB s b2 _ (Kd.C_below aW.out HB2.out) bH HM.out).mono ?_
  rintro e w3 ⟨rfl, aU⟩
  have EX3 := aM (ai EX2.out aU)
  have MX3 := aM (ai MX2.out aU)
  have aC := aM (ai aF.out aU)
  have aX := aM (ae HB2.out aU)
  clear EX2 MX2 aF HB2 HM aU m0 m1 m2 m3 m4 m5
  cases b2 with
  | false =>
   rw [if_pos rfl] at h
   simp only [Option.some.injEq, Prod.mk.injEq] at h
   obtain ⟨rfl, rfl, rfl, rfl, rfl⟩ := h
   have f0 := am aC.out 0
   have f1 := am aC.out 1
   have f2 := am aC.out 2
   have f3 := am aC.out 3
   obtain ⟨q0, q1, q2, q3⟩ := cl4 aC.out
   have HR := aM (BAD.out w3 aX.out aC.out)
   clear BAD
   go_wp2
   refine bodyPost_ret (fk rfl _ _ (w.heap.size + 1 + 1) 35 #[.int .i64 0, .string ⟨#[]⟩, .int .i64 0, .slice none 0 0] (0, 0) _ rfl HR.out.2 underlying35 rfl (Z16)) rfl ?_
   exact ⟨.slice none 0 0, rfl, Kd.S_nil .., HR.out.1⟩
  | true =>
   rw [if_neg (fg)] at h
   obtain ⟨⟨e0, e1, e2, e3⟩, hq, h⟩ := Option.bind_eq_some_iff.mp h
   have HQ := aM hq
   clear hq BAD
   obtain ⟨y0, y1, y2, y3⟩ := cl4 EX3.out
   go_wp2_with fail
   refine (impl_cloneEngine.calls k y D I J M l0_3 e0 e1 e2 e3 _ (Kd.C_below aV.out aX.out) bG HQ.out).mono ?_
   rintro e w4 ⟨v3, rfl, bA, aR⟩
   have aO := aM (ah (ai MX3.out aR) (.cells #[.int .i64 e0, .string e1, .int .i64 e2, v3] 35))
   have bB := aM (ah (ai aC.out aR) (.cells #[.int .i64 e0, .string e1, .int .i64 e2, v3] 35))
   have aY := aX
   have aZ := aM (ab aR (.cells #[.int .i64 e0, .string e1, .int .i64 e2, v3] 35))
   have bC := aM (Kd.S_alloc bA (.cells #[.int .i64 e0, .string e1, .int .i64 e2, v3] 35))
   have a2 := aM (show (w4.alloc (.cells #[.int .i64 e0, .string e1, .int .i64 e2, v3] 35)).heap[w4.heap.size]? = some (.cells #[.int .i64 e0, .string e1, .int .i64 e2, v3] 35 (0, 0)) from by simpa using heap_alloc_new w4 _)
   have hgw : w3.heap.size <= w4.heap.size := aR.size
   have bD : w.heap.size + 1 + 1 < w3.heap.size := en aC.out
   have hgx : w.heap.size + 1 + 1 < w4.heap.size := Nat.lt_of_lt_of_le (en aC.out) aR.size
   obtain ⟨A5, c5, e5⟩ := Kd.S_slice bA
   subst e5
   clear EX3 MX3 aC aX HQ bA aR y0 y1 y2 y3
   go_upto_region 4 with (fail)
   generalize w4.alloc (.cells #[.int .i64 e0, .string e1, .int .i64 e2, .slice A5 e3.length c5] 35) = W5 at aO bB aZ bC a2 ⊢
   generalize w4.heap.size = g at a2 hgw hgx ⊢
   obtain ⟨m0, m1, m2, m3, m4, m5⟩ := cl6 aO.out
   go_wp2_with fail
   refine (i_commit k g e0 e1 e2 _ e3 O U X Y Z aA aB s w3 W5 (r1, r2, r3, r4, r5) a2.out hgw bC.out aZ.out (Kd.C_below aW.out aY.out) bH h).mono ?_
   rintro e w6 ⟨v', rfl, hG, bE, bF⟩
   have aG := aM ((bF.block _ bD).trans ((aZ.out.block _ bD).symm.trans bB.out))
   have bN := aM (ae aY.out bF)
   obtain ⟨A6, c6, e6⟩ := Kd.S_slice bE
   subst e6
   have bR := aM (Kd.S_mono (ok' := fun _ => True) (Kd.S_far (p := ⟨w.heap.size + 1 + 1, 3, none⟩) (Kd.S_far (p := ⟨w.heap.size + 1 + 1, 2, none⟩) (Kd.S_far (p := ⟨w.heap.size + 1 + 1, 1, none⟩) (Kd.S_far (p := ⟨w.heap.size + 1 + 1, 0, none⟩) (Kd.S_types (Kd.S_lower bE aY.out.size) aG.out (Z68)) (fun _ hk => hk.2) (.int .i64 r1)) (fun _ hk => hk.2) (.string r2)) (fun _ hk => hk.2) (.int .i64 r3)) (fun _ hk => hk.2) (.slice A6 r4.length c6)) (fun _ _ => trivial))
   have HH := aM (show ((((w6.setCell ⟨w.heap.size + 1 + 1, 0, none⟩ (.int .i64 r1)).setCell ⟨w.heap.size + 1 + 1, 1, none⟩ (.string r2)).setCell ⟨w.heap.size + 1 + 1, 2, none⟩ (.int .i64 r3)).setCell ⟨w.heap.size + 1 + 1, 3, none⟩ (.slice A6 r4.length c6)).heap[w.heap.size + 1 + 1]? = some (.cells #[.int .i64 r1, .string r2, .int .i64 r3, .slice A6 r4.length c6] 35 (0, 0)) from
    ch (cs := #[.int .i64 r1, .string r2, .int .i64 r3, .slice none 0 0]) (ch (cs := #[.int .i64 r1, .string r2, .int .i64 0, .slice none 0 0]) (ch (cs := #[.int .i64 r1, .string ⟨#[]⟩, .int .i64 0, .slice none 0 0]) (ch (cs := #[.int .i64 0, .string ⟨#[]⟩, .int .i64 0, .slice none 0 0]) aG.out 0 _ rfl) 1 _ rfl) 2 _ rfl) 3 _ rfl)
   have HBF := aM (aa (j := 3) (v := .slice A6 r4.length c6) (aa (j := 2) (v := .int .i64 r3) (aa (j := 1) (v := .string r2) (aa (j := 0) (v := .int .i64 r1) bN.out aN) aN) aN) aN)
   have f0 := am aG.out 0
   have f1 := am aG.out 1
   have f2 := am aG.out 2
   have f3 := am aG.out 3
   obtain ⟨q0, q1, q2, q3⟩ := cl4 aG.out
   obtain ⟨z0, z1, z2, z3⟩ := cl4 hG
   clear aO bB aZ bC a2 aY m0 m1 m2 m3 m4 m5 hG bE bF aG bN hgw hgx bD
   go_wp2
   refine bodyPost_ret (fk rfl _ _ (w.heap.size + 1 + 1) 35 #[.int .i64 r1, .string r2, .int .i64 r3, .slice A6 r4.length c6] (0, 0) _ rfl HH.out underlying35 rfl (Z16)) rfl ?_
   exact ⟨_, rfl, bR.out, HBF.out⟩
def laws_eqLog.f (s : Int) (y : ByteArray) (D : Int) (I : Int) (J : ByteArray) (M : Int) : Option (Bool) := if s = I then (if y.toList = J.toList then (if D = M then (some true) else (some false)) else (some false)) else (some false)
theorem laws_eqLog.calls (s : Int) (y : ByteArray) (D : Int) (I : Int) (J : ByteArray) (M : Int) (r : Bool) (w : World) (h : laws_eqLog.f s y D I J M = some r) :
  Calls prog 28 #[.agg #[.int .i64 s, .string y, .int .i64 D], .agg #[.int .i64 I, .string J, .int .i64 M]] w fun e w' => e = .returned (.bool r) /\ Below w.heap.size w w' := by
 have aI := underlying32
 have HB := aM (bi w.heap.size w)
 have H := h
 clear h
 unfold laws_eqLog.f at H
 by_cases c3 : s = I
 ·rw [if_pos c3] at H
  have aC := bf c3
  have aD := bc c3
  clear c3
  by_cases c4 : y.toList = J.toList
  ·rw [if_pos c4] at H
   have aE := bf c4
   have aF := bc c4
   clear c4
   by_cases c5 : D = M
   ·rw [if_pos c5] at H
    have aG := bf c5
    have aH := bc c5
    clear c5
    obtain rfl := oI H
    go_enter func28, ntmps28
    go_wp2_with (first | ((with_reducible refine gD 2 ?_); refine bxF w 2 #[.int .i64 s, .string y, .int .i64 D] 32 (Z0) ?_; intro Y hg w6 BK450 Z GE450 HB hb; clear hb hg) | ((with_reducible refine gD 3 ?_); refine bxF w 3 #[.int .i64 I, .string J, .int .i64 M] 32 (Z40) ?_; intro aA hg w7 O aB GE451 HB hb; have U := aM ((nL BK450 hg (Z64))); have X := aM ((nG BK450 hg (Z64))); replace BK450 := aM (kB BK450 (Z64) hb); clear hb hg; have aJ := U.out; have aK := X.out; refine bD3 BK450 ?_; intros; refine bD3 O ?_; intros))
    go_ret
    exact ⟨Z1, Z91⟩
   rw [if_neg c5] at H
   have aG := bb c5
   have aH := bg c5
   obtain rfl := oI H
   go_enter func28, ntmps28
   go_wp2_with (first | ((with_reducible refine gD 2 ?_); refine bxF w 2 #[.int .i64 s, .string y, .int .i64 D] 32 (Z0) ?_; intro Y hg aL BK450 Z GE450 HB hb; clear hb hg) | ((with_reducible refine gD 3 ?_); refine bxF w 3 #[.int .i64 I, .string J, .int .i64 M] 32 (Z40) ?_; intro aA hg aN O aB GE451 HB hb; have U := aM ((nL BK450 hg (Z64))); have X := aM ((nG BK450 hg (Z64))); replace BK450 := aM (kB BK450 (Z64) hb); clear hb hg; have aO := U.out; have aP := X.out; refine bD3 BK450 ?_; intros; refine bD3 O ?_; intros))
   go_ret
   exact ⟨Z1, Z91⟩
  rw [if_neg c4] at H
  have aE := bb c4
  have aF := bg c4
  obtain rfl := oI H
  go_enter func28, ntmps28
  go_wp2_with (first | ((with_reducible refine gD 2 ?_); refine bxF w 2 #[.int .i64 s, .string y, .int .i64 D] 32 (Z0) ?_; intro Y hg aQ BK450 Z GE450 HB hb; clear hb hg) | ((with_reducible refine gD 3 ?_); refine bxF w 3 #[.int .i64 I, .string J, .int .i64 M] 32 (Z40) ?_; intro aA hg aR O aB GE451 HB hb; have U := aM ((nL BK450 hg (Z64))); have X := aM ((nG BK450 hg (Z64))); replace BK450 := aM (kB BK450 (Z64) hb); clear hb hg; have aS := U.out; have aT := X.out; refine bD3 BK450 ?_; intros; refine bD3 O ?_; intros))
  go_ret
  exact ⟨Z1, Z91⟩
 rw [if_neg c3] at H
 have aC := bb c3
 have aD := bg c3
 obtain rfl := oI H
 go_enter func28, ntmps28
 go_wp2_with (first | ((with_reducible refine gD 2 ?_); refine bxF w 2 #[.int .i64 s, .string y, .int .i64 D] 32 (Z0) ?_; intro Y hg aU BK450 Z GE450 HB hb; clear hb hg) | ((with_reducible refine gD 3 ?_); refine bxF w 3 #[.int .i64 I, .string J, .int .i64 M] 32 (Z40) ?_; intro aA hg aV O aB GE451 HB hb; have U := aM ((nL BK450 hg (Z64))); have X := aM ((nG BK450 hg (Z64))); replace BK450 := aM (kB BK450 (Z64) hb); clear hb hg; have aW := U.out; have aX := X.out; refine bD3 BK450 ?_; intros; refine bD3 O ?_; intros))
 go_ret
 exact ⟨Z1, Z91⟩
end Go.Proofs.YtifkmkiljpeaaadGreat.PFnExactCommit
