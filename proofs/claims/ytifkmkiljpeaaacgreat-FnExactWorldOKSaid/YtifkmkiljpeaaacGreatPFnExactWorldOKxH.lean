import Derived.Test.YtifkmkiljpeaaacGreatPFnExactWorldOKxA
import Derived.Test.YtifkmkiljpeaaacGreatPFnExactWorldOKxC
import Derived.Test.YtifkmkiljpeaaacGreatPFnExactWorldOKxE
import Derived.Test.YtifkmkiljpeaaacGreatPFnExactWorldOKxG
set_option maxHeartbeats 40000000
set_option maxRecDepth 100000
namespace Go.Proofs.YtifkmkiljpeaaacGreat.PFnExactWorldOK
open Go.RowKit Go.Proofs.YtifkmkiljpeaaacGreatW.PrintWords Go.Proofs.YtifkmkiljpeaaacGreatW.PrintLast Go.Proofs.YtifkmkiljpeaaacGreatW.PrintMore Go.Proofs.YtifkmkiljpeaaacGreat.Mac Go.Proofs.Tryz
set_option linter.unusedVariables false
set_option linter.unusedSimpArgs false
attribute [local go_sem high] eqA109
def impl_Log_replay.f (k : Nat) (s : Int) (y : ByteArray) (D : Int) : Option ((List S98) × Int × Int) :=
 (impl_Log_records.f s y D).bind fun q => if q.1.length ≤ 1048576 then (replF (impl_readMutation.f k) q.1 []).bind fun o => (match o with
  | none => some ([], 0, 3)
  | some xs => if q.2.2 = 8 then some ([], 0, 8) else some (xs, (q.1.length : Int), 0)) else none
theorem i_replay (k : Nat) (y : Int) (D : ByteArray) (I : Int) (r1 : List S98) (r2 r3 : Int) (w : World) (h : impl_Log_replay.f k y D I = some (r1, r2, r3)) :
  Calls prog 38 #[.agg #[.int .i64 y, .string D, .int .i64 I]] w (ReplRet w r1 r2 r3) := by
 unfold impl_Log_replay.f at h
 obtain ⟨⟨rs, q2, O⟩, hq, h⟩ := Option.bind_eq_some_iff.mp h
 dsimp only at h
 have hrl : rs.length ≤ 1048576 := by
  by_cases c : rs.length ≤ 1048576
  ·exact c
  ·rw [if_neg c] at h; cases h
 rw [if_pos hrl] at h
 obtain ⟨o, ho, h⟩ := Option.bind_eq_some_iff.mp h
 have HQ := aM hq
 have HO := aM ho
 have HH := aM h
 have aE := aM (below_alloc (Below.refl w.heap.size w) (.cells #[.int .i64 y, .string D, .int .i64 I] 32))
 clear h hq ho
 go_enter func38, ntmps38
 go_wp2_with fail
 generalize w.alloc (.cells #[.int .i64 y, .string D, .int .i64 I] 32) = w0 at *
 refine (impl_Log_records.calls y D I rs q2 O _ HQ.out).mono ?_
 rintro e w1 ⟨v, rfl, hR, hb⟩
 obtain ⟨A, c, rfl, hc, hC⟩ := Kd.R_reads hR
 have HC := aM hC
 have HB := aM (Below.trans aE.out (hb.mono aE.out.size))
 clear hC hb hR
 go_wp2_with fail
 go_loopg [8, 24] rs.length (fun gg s8 aO wr => ∃ (kk : Nat) (xs : List S98), kk ≤ rs.length ∧ rs.length - kk ≤ gg ∧ aO = .int .i64 kk ∧ Aside0 (Kd.S k98 98 wr w1.heap.size (fun _ => True) s8 xs) ∧ Aside0 (Below w1.heap.size w1 wr) ∧ Aside0 (replF (impl_readMutation.f k) (rs.drop kk) xs = some o))
 case atStart => exact ⟨0, [], Nat.zero_le _, Z42, rfl, ⟨S_empty_at _ (blk_made rfl) (Nat.le_refl _) trivial⟩, ⟨below_alloc (Below.refl _ _) _⟩, HO⟩
 case round =>
  obtain ⟨kk, xs, hkk, hgg, rfl, HS, HBW, HR⟩ := hrel
  by_cases hlt : kk < rs.length
  ·have hltz : (kk : Int) < (rs.length : Int) := by omega
   have h0k : 0 ≤ (kk : Int) := by omega
   obtain ⟨m1, m2, m3, m4, m5, m6, m7, hm, hor⟩ := replF_cons HR.out hlt
   have HM := aM hm
   obtain ⟨ad, e, aF⟩ := Kd.at_string (Kd.C_below HC.out HBW.out) (kk : Int) h0k hltz
   cases e
   simp only [Int.toNat_natCast] at aF
   clear hm HR
   generalize (rdOf ByteArray.empty rs (kk : Int)) = q0 at *
   have HOR := aM hor
   clear hor
   go_wp2_with fail
   refine (impl_readMutation.calls k q0 m1 m2 m3 m4 m5 m6 m7 _ HM.out).mono ?_
   rintro e w3 ⟨v5, rfl, U, M⟩
   obtain ⟨s, c6, rfl, aY, aQ⟩ := Kd.R_reads U
   have X := aM (Kd.S_below (Kd.S_bound HS.out) M)
   have Y := aM (Below.trans HBW.out (M.mono HBW.out.size))
   have aG := aM U
   have aH := aM M.size
   clear U aQ M HS aF
   rcases HOR.out with ⟨rfl, rfl⟩ | ⟨rfl, hs, aR, hcase⟩
   ·have hh := HH.out
    dsimp only at hh
    simp only [Option.some.injEq, Prod.mk.injEq] at hh
    obtain ⟨rfl, rfl, rfl⟩ := hh
    go_wp2
    go_ret3
    exact ⟨_, rfl, Kd.S_nil _ _ _ _ _, below_alloc (Below.trans HB.out (Y.out.mono HB.out.size)) _⟩
   ·obtain ⟨AS, cS, rfl⟩ := Kd.S_slice X.out
    have HSM := aM hs
    have HCA := aM hcase
    clear hs hcase HOR
    have aS := aM (Kd.S_alloc X.out (.cells #[.int .i64 m1, .int .i64 m2, .int .i64 m3, .int .i64 m4, .string m5, .slice s m6.length c6] 103))
    have aT := aM (Kd.R_bound (Kd.R_alloc aG.out (.cells #[.int .i64 m1, .int .i64 m2, .int .i64 m3, .int .i64 m4, .string m5, .slice s m6.length c6] 103)))
    have Z := aM (below_alloc Y.out (.cells #[.int .i64 m1, .int .i64 m2, .int .i64 m3, .int .i64 m4, .string m5, .slice s m6.length c6] 103))
    have aU := aM (show wr.heap.size ≤ (w3.alloc (.cells #[.int .i64 m1, .int .i64 m2, .int .i64 m3, .int .i64 m4, .string m5, .slice s m6.length c6] 103)).heap.size from by have := aH.out; simp; omega)
    clear X aG Y aH
    go_wp2_with fail
    generalize w3.alloc (.cells #[.int .i64 m1, .int .i64 m2, .int .i64 m3, .int .i64 m4, .string m5, .slice s m6.length c6] 103) = w4 at *
    have HZW := aM HBW.out.size
    obtain ⟨ok, hok⟩ : ∃ ok : Nat → Prop, ok = fun q => (w1.heap.size ≤ q ∧ q < wr.heap.size) ∨ w4.heap.size ≤ q := ⟨_, rfl⟩
    have hnew : ∀ q, w4.heap.size ≤ q → ok q := fun q hq => by rw [hok]; exact .inr hq
    have hold : ∀ q, ok q → w1.heap.size ≤ q := fun q hq => by rw [hok] at hq; rcases hq with hq | hq; exact hq.1; have := aU.out; have := HZW.out; omega
    have hitm : ∀ q, wr.heap.size ≤ q → q < w4.heap.size → ¬ ok q := fun q h1 h2 hq => by rw [hok] at hq; rcases hq with hq | hq <;> omega
    refine (i_mutate w1.heap.size ok _ xs m1 m2 m3 m4 m5 s c6 m6 w4 (Kd.S_mono aS.out (fun q hq => by rw [hok]; exact .inl ⟨hq.2.1, hq.2.2.1⟩)) Z.out.size hnew (fun W' hk => (Kd.R_reads' (Kd.R_step aT.out (fun q hq hlt => hk.block q hlt (hitm q hq.2.1 hlt)))).2.2) HSM.out.1 HSM.out.2 aR).mono ?_
    rintro e w5 ⟨v7, rfl, aA, aI⟩
    have aJ := aM (Below.trans Z.out (aI.is_below Z.out.size hold))
    clear hnew hold hitm hok aI
    rcases HCA.out with ⟨hne, rfl⟩ | ⟨h0, hr⟩
    ·have hh := HH.out
     dsimp only at hh
     simp only [Option.some.injEq, Prod.mk.injEq] at hh
     obtain ⟨rfl, rfl, rfl⟩ := hh
     have tne : ((mutL xs m1 m2 m3 m4 m5 m6).2 != 0) = true := bne_iff_ne.mpr hne
     clear hne aA HCA
     generalize (mutL xs m1 m2 m3 m4 m5 m6).2 = cd at *
     go_wp2
     go_ret3
     exact ⟨_, rfl, Kd.S_nil _ _ _ _ _, Below.trans HB.out (aJ.out.mono HB.out.size)⟩
    ·have aV := aM aA
     have aW := aM hr
     clear aA hr HCA
     generalize (mutL xs m1 m2 m3 m4 m5 m6).1 = xs' at *
     rw [h0]
     clear h0
     go_wp2
     go_roundg (rs.length - (kk + 1))
     case measure => omega
     case rel => exact ⟨kk + 1, xs', Z42, Z42, by go_num, ⟨Kd.S_mono aV.out (fun _ _ => trivial)⟩, aJ, aW⟩
  ·have hltz : ¬ (kk : Int) < (rs.length : Int) := by omega
   obtain rfl : kk = rs.length := by omega
   have hr := HR.out
   rw [List.drop_of_length_le (Nat.le_refl _)] at hr
   have hoe := replF_nil hr
   subst hoe
   have hh := HH.out
   dsimp only at hh
   clear hr
   obtain ⟨AS, cS, rfl⟩ := Kd.S_slice HS.out
   by_cases J : O = 8
   ·rw [if_pos J] at hh
    simp only [Option.some.injEq, Prod.mk.injEq] at hh
    obtain ⟨rfl, rfl, rfl⟩ := hh
    subst J
    go_wp2
    go_ret3
    exact ⟨_, rfl, Kd.S_nil _ _ _ _ _, Below.trans HB.out (HBW.out.mono HB.out.size)⟩
   ·rw [if_neg J] at hh
    simp only [Option.some.injEq, Prod.mk.injEq] at hh
    obtain ⟨rfl, rfl, rfl⟩ := hh
    have t8 : (O == 8) = false := beq_eq_false_iff_ne.mpr J
    clear J
    go_wp2
    go_ret3
    exact ⟨_, rfl, Kd.S_lower HS.out HB.out.size, Below.trans HB.out (HBW.out.mono HB.out.size)⟩
theorem impl_Log_replay.calls (k : Nat) (s : Int) (y : ByteArray) (D : Int) (I : List S98) (J M : Int) (w : World) (h : impl_Log_replay.f k s y D = some (I, J, M)) :
  Calls prog 38 #[.agg #[.int .i64 s, .string y, .int .i64 D]] w fun e w' => ∃ v0_ : Value, e = .returned (.tuple #[v0_, .int .i64 J, .int .i64 M]) ∧ Kd.S k98 98 w' w.heap.size (fun _ => True) v0_ I ∧ Below w.heap.size w w' := i_replay k s y D I J M w h
def impl_Stored.l0 : Nat → List (S109) → List (S109) → Int → Int → Option (Bool)
 | 0, _, _, _, _ => none
 | k + 1, x0, x1, x12, s => if s < x12 then (if 0 ≤ s then (if s < (x0.length : Int) then (if s < (x1.length : Int) then (if (!(((rd_T109 x0 s).f0) == ((rd_T109 x1 s).f0)) || (!(((rd_T109 x0 s).f1) == ((rd_T109 x1 s).f1)) || (!((((rd_T109 x0 s).f2).toList) == (((rd_T109 x1 s).f2).toList))))) = true then (some false) else (impl_Stored.l0 k x0 x1 x12 (wrap64 (s + 1)))) else (none)) else (none)) else (none)) else (some true)
def impl_Stored.f (k : Nat) (l0 : List (S109)) (l1 : List (S109)) : Option (Bool) := if (l0.length : Int) = (l1.length : Int) then (impl_Stored.l0 k l0 l1 (l0.length : Int) 0) else (some false)
theorem impl_Stored.calls (k : Nat) (X : Option Addr) (c0 : Nat) (l0 : List (S109)) (Y : Option Addr) (c1 : Nat) (l1 : List (S109)) (r : Bool) (w : World) (hr0 : Kd.C k109 w X l0.length l0) (Z : l0.length ≤ c0) (M : Kd.C k109 w Y l1.length l1) (aA : l1.length ≤ c1) (h : impl_Stored.f k l0 l1 = some r) :
  Calls prog 71 #[.slice X l0.length c0, .slice Y l1.length c1] w fun e w' => e = .returned (.bool r) ∧ Drawn0 w w' := by
 have aR := underlying109
 replace hr0 := aM hr0
 replace Z := aM Z
 replace M := aM M
 replace aA := aM aA
 have H := h
 clear h
 unfold impl_Stored.f at H
 by_cases c3 : (l0.length : Int) = (l1.length : Int)
 ·rw [if_pos c3] at H
  have aB := beq_iff_eq.mpr c3
  have aC := bne_eq_false_iff_eq.mpr c3
  have aD : (l0.length == l1.length) = true := by first | simpa using c3 | (simp at c3 ⊢; omega)
  clear c3
  have H' := aM H
  clear H
  go_enter func71, ntmps71
  go_wp2
  repeat (go_quiet (fail); try go_wp2)
  go_loopg [13] k (fun kq aE w' => ∃ (s : Int), aE = .int .i64 s ∧ Aside0 (impl_Stored.l0 kq l0 l1 (l0.length : Int) s = some r) ∧ Aside0 (kq ≤ k) ∧ Drawn0 w w')
  case atStart => exact ⟨(0), (Z3), H', ⟨Nat.le_refl _⟩, Z9⟩
  case round =>
   clear H'
   (try clear c1); (try clear c3); (try clear aB); (try clear aC); (try clear aD)
   obtain ⟨s, rfl, HA, HK1, ⟨m1, rfl⟩⟩ := hrel
   cases gk with
   | zero => exact absurd HA.out (by simp [impl_Stored.l0])
   | succ k1 =>
    have H := HA.out
    clear HA
    simp only [impl_Stored.l0] at H
    by_cases c4 : s < (l0.length : Int)
    ·rw [if_pos c4] at H
     have aG := decide_eq_true c4
     clear c4
     obtain ⟨c5, H⟩ := ifS H
     have aS := decide_eq_true c5
     clear c5
     obtain ⟨c6, H⟩ := ifS H
     have aT := decide_eq_true c6
     clear c6
     obtain ⟨c7, H⟩ := ifS H
     have aU := decide_eq_true c7
     clear c7
     by_cases c8 : (!(((rd_T109 l0 s).f0) == ((rd_T109 l1 s).f0)) || (!(((rd_T109 l0 s).f1) == ((rd_T109 l1 s).f1)) || (!((((rd_T109 l0 s).f2).toList) == (((rd_T109 l1 s).f2).toList))))) = true
     ·rw [if_pos c8] at H
      have aH : (!(((rd_T109 l0 s).f0) == ((rd_T109 l1 s).f0)) || (!(((rd_T109 l0 s).f1) == ((rd_T109 l1 s).f1)) || (!((((rd_T109 l0 s).f2).toList) == (((rd_T109 l1 s).f2).toList))))) = true := c8
      clear c8
      obtain rfl := oI H
      have y : 0 ≤ (s : Int) := of_decide_eq_true (Z4)
      have D : s < (l0.length : Int) := of_decide_eq_true (Z4)
      obtain ⟨aI, O, aJ, aK, aL⟩ := at_T109 hr0.out s y D
      cases O
      replace y := eq_true y
      replace D := eq_true D
      have I : 0 ≤ (s : Int) := of_decide_eq_true (Z4)
      have J : s < (l1.length : Int) := of_decide_eq_true (Z4)
      obtain ⟨aN, U, aO, aP, aQ⟩ := at_T109 M.out s I J
      cases U
      replace I := eq_true I
      replace J := eq_true J
      go_wp2
      repeat (go_quiet (fail); try go_wp2)
      go_ret
      exact ⟨Z3, Z9⟩
     ·rw [if_neg c8] at H
      have aH : (!(((rd_T109 l0 s).f0) == ((rd_T109 l1 s).f0)) || (!(((rd_T109 l0 s).f1) == ((rd_T109 l1 s).f1)) || (!((((rd_T109 l0 s).f2).toList) == (((rd_T109 l1 s).f2).toList))))) = false := by simpa using c8
      clear c8
      have H' := aM H
      clear H
      have y : 0 ≤ (s : Int) := of_decide_eq_true (Z4)
      have D : s < (l0.length : Int) := of_decide_eq_true (Z4)
      obtain ⟨aI, O, aJ, aK, aL⟩ := at_T109 hr0.out s y D
      cases O
      replace y := eq_true y
      replace D := eq_true D
      have I : 0 ≤ (s : Int) := of_decide_eq_true (Z4)
      have J : s < (l1.length : Int) := of_decide_eq_true (Z4)
      obtain ⟨aN, U, aO, aP, aQ⟩ := at_T109 M.out s I J
      cases U
      replace I := eq_true I
      replace J := eq_true J
      go_wp2
      repeat (go_quiet (fail); try go_wp2)
      go_roundg k1
      case measure => have := HK1.out; omega
      case rel => exact ⟨(wrap64 (s + 1)), (Z3), H', ⟨Z125⟩, Z9⟩
    ·rw [if_neg c4] at H
     have aG := decide_eq_false c4
     clear c4
     obtain rfl := oI H
     go_wp2
     repeat (go_quiet (fail); try go_wp2)
     go_ret
     exact ⟨Z3, Z9⟩
 ·rw [if_neg c3] at H
  have aB := beq_eq_false_iff_ne.mpr c3
  have aC := bne_iff_ne.mpr c3
  have aD : (l0.length == l1.length) = false := by first | simpa using c3 | (simp at c3 ⊢; omega)
  obtain rfl := oI H
  go_enter func71, ntmps71
  go_wp2
  repeat (go_quiet (fail); try go_wp2)
  go_ret
  exact ⟨Z3, Z9⟩
def slices_Equal_string_string.l0 : Nat → List ByteArray → List ByteArray → Int → Int → Option (Bool)
 | 0, _, _, _, _ => none
 | k + 1, x0, x1, x12, s => if s < x12 then (if 0 ≤ s then (if s < (x0.length : Int) then (if s < (x1.length : Int) then (if (rdOf ByteArray.empty x0 s).toList = (rdOf ByteArray.empty x1 s).toList then (slices_Equal_string_string.l0 k x0 x1 x12 (wrap64 (s + 1))) else (some false)) else (none)) else (none)) else (none)) else (some true)
def slices_Equal_string_string.f (k : Nat) (l0 : List ByteArray) (l1 : List ByteArray) : Option (Bool) := if (l0.length : Int) = (l1.length : Int) then (slices_Equal_string_string.l0 k l0 l1 (l0.length : Int) 0) else (some false)
theorem slices_Equal_string_string.calls (k : Nat) (X : Option Addr) (c0 : Nat) (l0 : List ByteArray) (Y : Option Addr) (c1 : Nat) (l1 : List ByteArray) (r : Bool) (w : World) (hr0 : Kd.C Kd.string w X l0.length l0) (Z : l0.length ≤ c0) (M : Kd.C Kd.string w Y l1.length l1) (aA : l1.length ≤ c1) (h : slices_Equal_string_string.f k l0 l1 = some r) :
  Calls prog 72 #[.slice X l0.length c0, .slice Y l1.length c1] w fun e w' => e = .returned (.bool r) ∧ Drawn0 w w' := by
 replace hr0 := aM hr0
 replace Z := aM Z
 replace M := aM M
 replace aA := aM aA
 have H := h
 clear h
 unfold slices_Equal_string_string.f at H
 by_cases c3 : (l0.length : Int) = (l1.length : Int)
 ·rw [if_pos c3] at H
  have aB := beq_iff_eq.mpr c3
  have aC := bne_eq_false_iff_eq.mpr c3
  have aD : (l0.length == l1.length) = true := by first | simpa using c3 | (simp at c3 ⊢; omega)
  clear c3
  have H' := aM H
  clear H
  go_enter func72, ntmps72
  go_wp2
  repeat (go_quiet (fail); try go_wp2)
  go_loopg [13] k (fun kq aE w' => ∃ (s : Int), aE = .int .i64 s ∧ Aside0 (slices_Equal_string_string.l0 kq l0 l1 (l0.length : Int) s = some r) ∧ Aside0 (kq ≤ k) ∧ Drawn0 w w')
  case atStart => exact ⟨(0), (Z3), H', ⟨Nat.le_refl _⟩, Z9⟩
  case round =>
   clear H'
   (try clear c1); (try clear c3); (try clear aB); (try clear aC); (try clear aD)
   obtain ⟨s, rfl, HA, HK1, ⟨m1, rfl⟩⟩ := hrel
   cases gk with
   | zero => exact absurd HA.out (by simp [slices_Equal_string_string.l0])
   | succ k1 =>
    have H := HA.out
    clear HA
    simp only [slices_Equal_string_string.l0] at H
    by_cases c4 : s < (l0.length : Int)
    ·rw [if_pos c4] at H
     have aG := decide_eq_true c4
     clear c4
     obtain ⟨c5, H⟩ := ifS H
     have aO := decide_eq_true c5
     clear c5
     obtain ⟨c6, H⟩ := ifS H
     have aP := decide_eq_true c6
     clear c6
     obtain ⟨c7, H⟩ := ifS H
     have aQ := decide_eq_true c7
     clear c7
     by_cases c8 : (rdOf ByteArray.empty l0 s).toList = (rdOf ByteArray.empty l1 s).toList
     ·rw [if_pos c8] at H
      have aH := beq_iff_eq.mpr c8
      have aI := bne_eq_false_iff_eq.mpr c8
      clear c8
      have H' := aM H
      clear H
      have y : 0 ≤ (s : Int) := of_decide_eq_true (Z4)
      have D : s < (l0.length : Int) := of_decide_eq_true (Z4)
      obtain ⟨aJ, O, aK⟩ := Kd.at_string hr0.out s y D
      cases O
      replace y := eq_true y
      replace D := eq_true D
      have I : 0 ≤ (s : Int) := of_decide_eq_true (Z4)
      have J : s < (l1.length : Int) := of_decide_eq_true (Z4)
      obtain ⟨aL, U, aN⟩ := Kd.at_string M.out s I J
      cases U
      replace I := eq_true I
      replace J := eq_true J
      go_wp2
      repeat (go_quiet (fail); try go_wp2)
      go_roundg k1
      case measure => have := HK1.out; omega
      case rel => exact ⟨(wrap64 (s + 1)), (Z3), H', ⟨Z125⟩, Z9⟩
     ·rw [if_neg c8] at H
      have aH := beq_eq_false_iff_ne.mpr c8
      have aI := bne_iff_ne.mpr c8
      obtain rfl := oI H
      have y : 0 ≤ (s : Int) := of_decide_eq_true (Z4)
      have D : s < (l0.length : Int) := of_decide_eq_true (Z4)
      obtain ⟨aJ, O, aK⟩ := Kd.at_string hr0.out s y D
      cases O
      replace y := eq_true y
      replace D := eq_true D
      have I : 0 ≤ (s : Int) := of_decide_eq_true (Z4)
      have J : s < (l1.length : Int) := of_decide_eq_true (Z4)
      obtain ⟨aL, U, aN⟩ := Kd.at_string M.out s I J
      cases U
      replace I := eq_true I
      replace J := eq_true J
      go_wp2
      repeat (go_quiet (fail); try go_wp2)
      go_ret
      exact ⟨Z3, Z9⟩
    ·rw [if_neg c4] at H
     have aG := decide_eq_false c4
     clear c4
     obtain rfl := oI H
     go_wp2
     repeat (go_quiet (fail); try go_wp2)
     go_ret
     exact ⟨Z3, Z9⟩
 ·rw [if_neg c3] at H
  have aB := beq_eq_false_iff_ne.mpr c3
  have aC := bne_iff_ne.mpr c3
  have aD : (l0.length == l1.length) = false := by first | simpa using c3 | (simp at c3 ⊢; omega)
  obtain rfl := oI H
  go_enter func72, ntmps72
  go_wp2
  repeat (go_quiet (fail); try go_wp2)
  go_ret
  exact ⟨Z3, Z9⟩
def sameB (k : Nat) (x y : S98) : Option Bool := if x.f0.toList = y.f0.toList then (if x.f1 = y.f1 then (if x.f2 = y.f2 then (impl_Stored.f k x.f3 y.f3).bind fun b => (if b = true then slices_Equal_string_string.f k x.f4 y.f4 else some false) else some false) else some false) else some false
def sameF (k : Nat) : List S98 → List S98 → Option Bool
 | x :: xs, y :: ys => (sameB k x y).bind fun b => if b = true then sameF k xs ys else some false
 | _, _ => some true
def impl_sameStore.f (k : Nat) (l0 l1 : List S98) : Option Bool := if l0.length = l1.length then (if l0.length ≤ 1099511627776 then sameF k l0 l1 else none) else some false
theorem sameF_drop {k : Nat} {l0 l1 : List S98} {kk : Nat} {r : Bool} (h : sameF k (l0.drop kk) (l1.drop kk) = some r) (s : kk < l0.length) (h1 : kk < l1.length) :
  ∃ b, sameB k (rd_T98 l0 (kk : Int)) (rd_T98 l1 (kk : Int)) = some b ∧ (b = false ∧ r = false ∨ b = true ∧ sameF k (l0.drop (kk + 1)) (l1.drop (kk + 1)) = some r) := by
 rw [List.drop_eq_getElem_cons s, List.drop_eq_getElem_cons h1] at h
 unfold sameF at h
 obtain ⟨b, hb, h⟩ := Option.bind_eq_some_iff.mp h
 refine ⟨b, by rw [rdBox l0 kk s, rdBox l1 kk h1]; exact hb, ?_⟩
 cases b with
 | true => rw [if_pos rfl] at h; exact .inr ⟨rfl, h⟩
 | false => rw [if_neg (Z174)] at h; injection h with h; exact .inl ⟨rfl, h.symm⟩
theorem same_clo (k : Nat) (x y : S98) (D M B3 B4 : Option Addr) (c3 c4 I O : Nat) (r : Bool) (w : World) (X : Kd.C k109 w D x.f3.length x.f3) (Y : x.f3.length ≤ c3) (Z : Kd.C Kd.string w M x.f4.length x.f4) (l4 : x.f4.length ≤ c4)
  (g3 : Kd.C k109 w B3 y.f3.length y.f3) (m3 : y.f3.length ≤ I) (g4 : Kd.C Kd.string w B4 y.f4.length y.f4) (m4 : y.f4.length ≤ O) (h : sameB k x y = some r) :
  Calls prog 70 #[.agg #[.string x.f0, .int .i64 x.f1, .int .i64 x.f2, .slice D x.f3.length c3, .slice M x.f4.length c4], .agg #[.string y.f0, .int .i64 y.f1, .int .i64 y.f2, .slice B3 y.f3.length I, .slice B4 y.f4.length O]] w fun e w' => e = .returned (.bool r) ∧ Below w.heap.size w w' := by
 have H3 := aM (Kd.C_alloc (Kd.C_alloc X (.cells #[.string x.f0, .int .i64 x.f1, .int .i64 x.f2, .slice D x.f3.length c3, .slice M x.f4.length c4] 98)) (.cells #[.string y.f0, .int .i64 y.f1, .int .i64 y.f2, .slice B3 y.f3.length I, .slice B4 y.f4.length O] 98))
 have H4 := aM (Kd.C_alloc (Kd.C_alloc Z (.cells #[.string x.f0, .int .i64 x.f1, .int .i64 x.f2, .slice D x.f3.length c3, .slice M x.f4.length c4] 98)) (.cells #[.string y.f0, .int .i64 y.f1, .int .i64 y.f2, .slice B3 y.f3.length I, .slice B4 y.f4.length O] 98))
 have G3 := aM (Kd.C_alloc (Kd.C_alloc g3 (.cells #[.string x.f0, .int .i64 x.f1, .int .i64 x.f2, .slice D x.f3.length c3, .slice M x.f4.length c4] 98)) (.cells #[.string y.f0, .int .i64 y.f1, .int .i64 y.f2, .slice B3 y.f3.length I, .slice B4 y.f4.length O] 98))
 have G4 := aM (Kd.C_alloc (Kd.C_alloc g4 (.cells #[.string x.f0, .int .i64 x.f1, .int .i64 x.f2, .slice D x.f3.length c3, .slice M x.f4.length c4] 98)) (.cells #[.string y.f0, .int .i64 y.f1, .int .i64 y.f2, .slice B3 y.f3.length I, .slice B4 y.f4.length O] 98))
 have HH := aM h
 clear X Z g3 g4 h
 unfold sameB at HH
 by_cases s : x.f0.toList = y.f0.toList
 ·have t0 : (x.f0.toList == y.f0.toList) = true := beq_iff_eq.mpr s
  by_cases J : x.f1 = y.f1
  ·have t1 : (x.f1 == y.f1) = true := beq_iff_eq.mpr J
   by_cases U : x.f2 = y.f2
   ·have t2 : (x.f2 == y.f2) = true := beq_iff_eq.mpr U
    have hh := HH.out
    rw [if_pos s, if_pos J, if_pos U] at hh
    obtain ⟨b, hb, hh⟩ := Option.bind_eq_some_iff.mp hh
    have HB := aM hb
    clear hb HH s J U
    cases b with
    | true =>
     rw [if_pos rfl] at hh
     have HS := aM hh
     clear hh
     go_enter func70, ntmps70
     go_wp2_with (first | (go_at_call 71; refine (impl_Stored.calls k D c3 x.f3 B3 I y.f3 true _ (by (with_reducible repeat (first | exact H3.out | apply Kd.C_drewN | apply Kd.C_drew))) Y (by (with_reducible repeat (first | exact G3.out | apply Kd.C_drewN | apply Kd.C_drew))) m3 HB.out).mono ?_; rintro e w' ⟨rfl, ⟨n1, rfl⟩⟩) | (go_at_call 72; refine (slices_Equal_string_string.calls k M c4 x.f4 B4 O y.f4 r _ (by (with_reducible repeat (first | exact H4.out | apply Kd.C_drewN | apply Kd.C_drew))) l4 (by (with_reducible repeat (first | exact G4.out | apply Kd.C_drewN | apply Kd.C_drew))) m4 HS.out).mono ?_; rintro e w' ⟨rfl, ⟨n2, rfl⟩⟩))
     go_ret
     exact ⟨rfl, Z6⟩
    | false =>
     rw [if_neg (Z174)] at hh
     injection hh with hh
     subst hh
     go_enter func70, ntmps70
     go_wp2_with (first | (go_at_call 71; refine (impl_Stored.calls k D c3 x.f3 B3 I y.f3 false _ (by (with_reducible repeat (first | exact H3.out | apply Kd.C_drewN | apply Kd.C_drew))) Y (by (with_reducible repeat (first | exact G3.out | apply Kd.C_drewN | apply Kd.C_drew))) m3 HB.out).mono ?_; rintro e w' ⟨rfl, ⟨n1, rfl⟩⟩))
     go_ret
     exact ⟨rfl, Z6⟩
   ·have t2 : (x.f2 == y.f2) = false := beq_eq_false_iff_ne.mpr U
    have hh := HH.out
    rw [if_pos s, if_pos J, if_neg U] at hh
    injection hh with hh
    subst hh
    clear HH s J U
    go_enter func70, ntmps70
    go_wp2
    go_ret
    exact ⟨rfl, Z6⟩
  ·have t1 : (x.f1 == y.f1) = false := beq_eq_false_iff_ne.mpr J
   have hh := HH.out
   rw [if_pos s, if_neg J] at hh
   injection hh with hh
   subst hh
   clear HH s J
   go_enter func70, ntmps70
   go_wp2
   go_ret
   exact ⟨rfl, Z6⟩
 ·have t0 : (x.f0.toList == y.f0.toList) = false := beq_eq_false_iff_ne.mpr s
  have hh := HH.out
  rw [if_neg s] at hh
  injection hh with hh
  subst hh
  clear HH s
  go_enter func70, ntmps70
  go_wp2
  go_ret
  exact ⟨rfl, Z6⟩
theorem same_eqf (k : Nat) (U X : Option Addr) (c0 c1 : Nat) (l0 l1 : List S98) (r : Bool) (w : World) (hr0 : Kd.C k98 w U l0.length l0) (O : Kd.C k98 w X l1.length l1) (h : impl_sameStore.f k l0 l1 = some r) :
  Calls prog 69 #[.slice U l0.length c0, .slice X l1.length c1, .func (.func 70) #[] #[]] w fun e w' => e = .returned (.bool r) ∧ Below w.heap.size w w' := by
 have eg := enters_of func70 (Z18) rfl
 unfold impl_sameStore.f at h
 by_cases hl : l0.length = l1.length
 ·rw [if_pos hl] at h
  have hs : l0.length ≤ 1099511627776 := by
   by_cases c : l0.length ≤ 1099511627776
   ·exact c
   ·rw [if_neg c] at h; cases h
  rw [if_pos hs] at h
  have tn : ((l0.length : Int) != (l1.length : Int)) = false := bne_eq_false_iff_eq.mpr (Z42)
  have aJ := aM hr0
  have aK := aM O
  have HH := aM h
  have HLL := aM hl
  clear hr0 O h hl
  go_enter func69, ntmps69
  go_wp2
  go_loopg [7, 17] l0.length (fun gg _ aL wr => ∃ kk : Nat, kk ≤ l0.length ∧ l0.length - kk ≤ gg ∧ aL = .int .i64 kk ∧ Aside0 (Below w.heap.size w wr) ∧ Aside0 (sameF k (l0.drop kk) (l1.drop kk) = some r))
  case atStart => exact ⟨0, Nat.zero_le _, Z42, rfl, ⟨Below.refl _ w⟩, HH⟩
  case round =>
   obtain ⟨kk, hkk, hg, rfl, BW, AI⟩ := hrel
   by_cases hlt : kk < l0.length
   ·have aN : kk < l1.length := by have := HLL.out; omega
    have hltz : (kk : Int) < (l0.length : Int) := by omega
    have aO : (kk : Int) < (l1.length : Int) := by omega
    have Y : 0 ≤ (kk : Int) := by omega
    obtain ⟨b, hb, hcase⟩ := sameF_drop AI.out hlt aN
    obtain ⟨ad, Z, c3, A4, c4, e, aP, hx1, aQ, aR, aS, l3, C3, l4, C4⟩ := at_T98 (Kd.C_below aJ.out BW.out) kk Y hltz
    cases e
    obtain ⟨aT, B3, d3, B4, d4, e, s, D, I, J, M, m3, D3, m4, D4⟩ := at_T98 (Kd.C_below aK.out BW.out) kk Y aO
    cases e
    simp only [Int.toNat_natCast] at aP hx1 aQ aR aS s D I J M
    generalize rd_T98 l0 (kk : Int) = x at *
    generalize rd_T98 l1 (kk : Int) = y at *
    have HCC := aM (And.intro C3 (And.intro C4 (And.intro D3 D4)))
    have HBB := aM hb
    have HCA := aM hcase
    have s' := fun o => ((below_alloc (Below.refl wr.heap.size wr) o).cell (World.block_lt_of_cell? wr _ s)).trans s
    have D' := fun o => ((below_alloc (Below.refl wr.heap.size wr) o).cell (World.block_lt_of_cell? wr _ D)).trans D
    have I' := fun o => ((below_alloc (Below.refl wr.heap.size wr) o).cell (World.block_lt_of_cell? wr _ I)).trans I
    have J' := fun o => ((below_alloc (Below.refl wr.heap.size wr) o).cell (World.block_lt_of_cell? wr _ J)).trans J
    have M' := fun o => ((below_alloc (Below.refl wr.heap.size wr) o).cell (World.block_lt_of_cell? wr _ M)).trans M
    clear C3 C4 D3 D4 hb hcase AI
    rcases HCA.out with ⟨rfl, rfl⟩ | ⟨rfl, hnx⟩
    ·clear HCA
     go_wp2_with (go_at_call 70; refine (same_clo k x y Z A4 B3 B4 c3 c4 d3 d4 false _ (by (with_reducible repeat (first | exact HCC.out.1 | apply Kd.C_alloc))) l3 (by (with_reducible repeat (first | exact HCC.out.2.1 | apply Kd.C_alloc))) l4 (by (with_reducible repeat (first | exact HCC.out.2.2.1 | apply Kd.C_alloc))) m3 (by (with_reducible repeat (first | exact HCC.out.2.2.2 | apply Kd.C_alloc))) m4 HBB.out).mono ?_; rintro e w' ⟨rfl, hb'⟩)
     go_ret
     exact ⟨rfl, Below.trans BW.out ((Below.trans (below_alloc (below_alloc (Below.refl _ _) _) _) (hb'.mono (by simp; omega))).mono BW.out.size)⟩
    ·have HNX := aM hnx
     clear HCA hnx
     go_wp2_with (go_at_call 70; refine (same_clo k x y Z A4 B3 B4 c3 c4 d3 d4 true _ (by (with_reducible repeat (first | exact HCC.out.1 | apply Kd.C_alloc))) l3 (by (with_reducible repeat (first | exact HCC.out.2.1 | apply Kd.C_alloc))) l4 (by (with_reducible repeat (first | exact HCC.out.2.2.1 | apply Kd.C_alloc))) m3 (by (with_reducible repeat (first | exact HCC.out.2.2.2 | apply Kd.C_alloc))) m4 HBB.out).mono ?_; rintro e w' ⟨rfl, hb'⟩)
     go_roundg (l0.length - (kk + 1))
     case measure => omega
     case rel => exact ⟨kk + 1, Z42, Z42, by go_num, ⟨Below.trans BW.out ((Below.trans (below_alloc (below_alloc (Below.refl _ _) _) _) (hb'.mono (by simp; omega))).mono BW.out.size)⟩, HNX⟩
   ·have hltz : ¬ (kk : Int) < (l0.length : Int) := by omega
    obtain rfl : kk = l0.length := by omega
    have hh := AI.out
    rw [List.drop_of_length_le (Nat.le_refl _)] at hh
    unfold sameF at hh
    injection hh with hh
    subst hh
    go_wp2
    go_ret
    exact ⟨rfl, BW.out⟩
 ·rw [if_neg hl] at h
  injection h with h
  subst h
  have tn : ((l0.length : Int) != (l1.length : Int)) = true := bne_iff_ne.mpr (Z42)
  clear hr0 O
  go_enter func69, ntmps69
  go_wp2
  go_ret
  exact ⟨rfl, Below.refl _ _⟩
theorem impl_sameStore.calls (k : Nat) (s : Option Addr) (c0 : Nat) (l0 : List S98) (y : Option Addr) (c1 : Nat) (l1 : List S98) (r : Bool) (w : World) (hr0 : Kd.C k98 w s l0.length l0) (I : l0.length ≤ c0) (D : Kd.C k98 w y l1.length l1) (J : l1.length ≤ c1) (h : impl_sameStore.f k l0 l1 = some r) :
  Calls prog 39 #[.slice s l0.length c0, .slice y l1.length c1] w fun e w' => e = .returned (.bool r) ∧ Below w.heap.size w w' := by
 replace hr0 := aM hr0
 replace D := aM D
 have HH := aM h
 clear  h
 go_enter func39, ntmps39
 go_wp2_with (go_at_call 69; refine (same_eqf k s y c0 c1 l0 l1 r _ hr0.out D.out HH.out).mono ?_; rintro e w' ⟨rfl, hb'⟩)
 go_ret
 exact ⟨rfl, hb'⟩
def laws_toStringS.l0 : Nat → List ByteArray → List ByteArray → Int → Option (List ByteArray)
 | 0, _, _, _ => none
 | k + 1, x0, x3, x4 => if x4 < (x0.length : Int) then (if 0 ≤ x4 then (if x4 < (x3.length : Int) then (laws_toStringS.l0 k x0 (x3.set (x4 : Int).toNat (rdOf ByteArray.empty x0 x4)) (wrap64 (x4 + 1))) else (none)) else (none)) else (some x3)
def laws_toStringS.f (k : Nat) (l0 : List ByteArray) : Option (List ByteArray) := if 0 ≤ (l0.length : Int) then (if ((l0.length : Int) : Int).toNat ≤ 17592186044416 then (laws_toStringS.l0 k l0 (List.replicate ((l0.length : Int) : Int).toNat (⟨#[]⟩ : ByteArray)) 0) else (none)) else (none)
theorem laws_toStringS.calls (k : Nat) (A0 : Option Addr) (c0 : Nat) (l0 : List ByteArray) (r : List ByteArray) (w : World) (hr0 : Kd.C Kd.string w A0 l0.length l0) (aC : l0.length ≤ c0) (h : laws_toStringS.f k l0 = some r) :
  Calls prog 91 #[.slice A0 l0.length c0] w fun e w' => ∃ v0_ : Value, e = .returned (v0_) ∧ Kd.R Kd.string 9 w' w.heap.size (fun _ => True) v0_ r ∧ Below w.heap.size w w' := by
 replace hr0 := aM hr0
 replace aC := aM aC
 have HB := aM (Below.refl w.heap.size w)
 have H := h
 clear h
 unfold laws_toStringS.f at H
 obtain ⟨c2, H⟩ := ifS H
 have aK := eq_true c2
 have aL : decide (0 ≤ (l0.length : Int)) = true := decide_eq_true c2
 clear c2
 obtain ⟨c3, H⟩ := ifS H
 have aN := eq_true c3
 have aO : decide (((l0.length : Int) : Int).toNat ≤ 17592186044416) = true := decide_eq_true c3
 clear c3
 obtain ⟨aD, D⟩ : ∃ y_ : List ByteArray, y_ = (List.replicate ((l0.length : Int) : Int).toNat (⟨#[]⟩ : ByteArray)) := ⟨_, rfl⟩
 replace H : (laws_toStringS.l0 k l0 aD 0) = some r := by first | (rw [D]; with_reducible exact H) | (have H2_ := (Option.bind_some _ _).symm.trans H; rw [D]; with_reducible exact H2_) | (have H2_ := (Option.bind_some _ _).symm.trans H; with_reducible exact H2_) | with_reducible exact H | (rw [D]; exact H) | exact H
 have aE := aM D
 clear D
 have H' := aM H
 clear H
 go_enter func91, ntmps91
 go_wp2_with (first | ((with_reducible refine gD 7 ?_); refine Kd.R_make Kd.string _ 9 rfl (N := 7) rfl 69 _ _ rfl (l0.length : Int) rfl rfl underlying69 (.string ⟨#[]⟩) 16 info9 rfl (Z101) (Z42) (⟨#[]⟩ : ByteArray) (ok := fun _ => True) (okp := fun _ => True) rfl (fun _ hk => hk) trivial (of_decide_eq_true (Z4)) (Nat.le_trans (Nat.mul_le_mul_right _ (of_decide_eq_true (Z4) : (l0.length : Int).toNat ≤ 17592186044416)) (Z42)) (Below.refl _ _) (Nat.le_refl _) ?_; intro aP w4 I hb hg_ hnew_; clear hg_ hnew_; (first | rw [← aE.out] at I | (simp only [Int.reduceToNat] at I; rw [← aE.out] at I)); have aQ := aM (Kd.R_lower I (below_size (Z0))); replace HB := aM (below_step (Z0) hb); clear hb I))
 go_loopg [4] k (fun kq v4 w' => ∃ (y : List ByteArray) (s : Int), v4 = .int .i64 s ∧ Aside0 (laws_toStringS.l0 kq l0 y s = some r) ∧ Aside0 (kq ≤ k) ∧ Aside0 (Kd.R Kd.string 9 w' w.heap.size (fun _ => True) aP y) ∧ Aside0 (Below w.heap.size w w'))
 case atStart => exact ⟨(aD), (0), (Z3), H', ⟨Nat.le_refl _⟩, ⟨by (with_reducible repeat (first | apply Kd.R_alloc | apply Kd.R_drewN | apply Kd.R_drew)); exact aQ.out⟩, ⟨Z0⟩⟩
 case round =>
  clear H'
  (try clear c2); (try clear aK); (try clear aL); (try clear c3); (try clear aN); (try clear aO)
  obtain ⟨y, s, rfl, HA, HK1, HO_3, HB⟩ := hrel
  cases gk with
  | zero => exact absurd HA.out (by simp [laws_toStringS.l0])
  | succ k1 =>
   have H := HA.out
   clear HA
   simp only [laws_toStringS.l0] at H
   by_cases c6 : s < (l0.length : Int)
   ·rw [if_pos c6] at H
    have aS := decide_eq_true c6
    clear c6
    obtain ⟨c7, H⟩ := ifS H
    have aY := decide_eq_true c7
    clear c7
    obtain ⟨c8, H⟩ := ifS H
    have aZ := decide_eq_true c8
    clear c8
    obtain ⟨M, J⟩ : ∃ y_ : List ByteArray, y_ = (y.set (s : Int).toNat (rdOf ByteArray.empty l0 s)) := ⟨_, rfl⟩
    replace H : (laws_toStringS.l0 k1 l0 M (wrap64 (s + 1))) = some r := by first | (rw [J]; with_reducible exact H) | (have H2_ := (Option.bind_some _ _).symm.trans H; rw [J]; with_reducible exact H2_) | (have H2_ := (Option.bind_some _ _).symm.trans H; with_reducible exact H2_) | with_reducible exact H | (rw [J]; exact H) | exact H
    have aT := aM J
    clear J
    have H' := aM H
    clear H
    have O : 0 ≤ (s : Int) := of_decide_eq_true (Z4)
    have U : s < (l0.length : Int) := of_decide_eq_true (Z4)
    obtain ⟨a2, aU, aG⟩ := Kd.at_string hr0.out s O U
    cases aU
    replace aG := cB HB.out aG
    replace O := eq_true O
    replace U := eq_true U
    have p9 : 0 ≤ (s : Int) := of_decide_eq_true (Z4)
    have X : (s : Int) < ((y.length : Int) : Int) := of_decide_eq_true (Z4)
    obtain ⟨Y, aV, aH, aI, aW, a3, aJ⟩ := Kd.R_form HO_3.out (Z42)
    (first | cases aH | (injection aH with ea_ en_ ec_; (first | subst ea_ | (injection ea_ with ea_; subst ea_)); subst ec_; clear en_))
    have aX := aM aI
    have a5 := aM aJ
    clear aI aW aJ
    obtain ⟨a6, a7⟩ := Kd.R_celln (⟨#[]⟩ : ByteArray) HO_3.out (s : Int) p9 X
    replace p9 := eq_true p9
    replace X := eq_true X
    have Z := Kd.R_putg HO_3.out (s : Int) (rdOf ByteArray.empty l0 s)
    go_wp2_with (first | ((with_reducible refine gate_store (t := 9) (p := 20) rfl ?_); refine store_event (t := 9) (p := 20) (v := ?vo_w11) (w1 := (wr.setCell ⟨Y, (s : Int).toNat, none⟩ (.string (rdOf ByteArray.empty l0 s)))) ?hg ?ho ?hn ?hr ?_; (case ho => rfl); (case hg => rfl); (case hn => rfl); (case hr => first | (go_simp; done) | (go_simp; rfl)); intro aA hw; have hg : wr.grownBy aA (some Y) := (by rw [hw]; exact Z.2); have hp_ : Kd.R Kd.string 9 aA w.heap.size (fun _ => True) (.slice (some ⟨Y, 0, none⟩) y.length aV) M := (by rw [hw, aT.out]; exact Z.1); clear Z; replace HO_3 := aM (hp_); replace HB := aM ((by rw [hw]; exact below_set (HB.out) aX.out : Below w.heap.size w aA)); clear hg hw hp_))
    go_roundg k1
    case measure => have := HK1.out; omega
    case rel => exact ⟨(M), (wrap64 (s + 1)), (Z3), H', ⟨Z125⟩, ⟨Z112⟩, ⟨Z0⟩⟩
   ·rw [if_neg c6] at H
    have aS := decide_eq_false c6
    clear c6
    obtain rfl := oI H
    go_wp2
    go_ret
    exact ⟨_, Z1, Z112, Z0⟩
def laws_toBox.f (k : Nat) (s : ByteArray) (y : Int) (D : Int) (l0_3 : List (S152)) (I : List ByteArray) : Option (ByteArray × Int × Int × (List (S109)) × List ByteArray) := (laws_toStoredS.f k l0_3).bind fun J => ((laws_toStringS.f k I).bind fun M => (some (s, y, D, J, M)))
theorem laws_toBox.calls (k : Nat) (D : ByteArray) (I : Int) (J : Int) (O : Option Addr) (U : Nat) (l0_3 : List (S152)) (X : Option Addr) (Y : Nat) (s : List ByteArray) (r1 : ByteArray) (r2 : Int) (r3 : Int) (r4 : List (S109)) (r5 : List ByteArray) (w : World) (aC : Kd.C k152 w O l0_3.length l0_3) (aD : l0_3.length ≤ U) (aE : Kd.C Kd.string w X s.length s) (aF : s.length ≤ Y) (h : laws_toBox.f k D I J l0_3 s = some (r1, r2, r3, r4, r5)) :
  Calls prog 58 #[.agg #[.string D, .int .i64 I, .int .i64 J, .slice O l0_3.length U, .slice X s.length Y]] w fun e w' => ∃ v3_ v4_ : Value, e = .returned (.agg #[.string r1, .int .i64 r2, .int .i64 r3, v3_, v4_]) ∧ Kd.R k109 109 w' w.heap.size (fun _ => True) v3_ r4 ∧ Kd.R Kd.string 9 w' w.heap.size (fun _ => True) v4_ r5 ∧ Below w.heap.size w w' := by
 have a6 := underlying91
 have a7 := underlying98
 replace aC := aM aC
 replace aD := aM aD
 replace aE := aM aE
 replace aF := aM aF
 have HB := aM (Below.refl w.heap.size w)
 have H := h
 clear h
 unfold laws_toBox.f at H
 obtain ⟨aG, A2, H⟩ := bindA H
 try dsimp only at H
 obtain ⟨Z, A3, H⟩ := bindA H
 try dsimp only at H
 simp only [Option.some.injEq, Prod.mk.injEq] at H
 obtain ⟨rfl, rfl, rfl, rfl, rfl⟩ := H
 go_enter func58, ntmps58
 go_wp2_with (first | ((with_reducible refine gD 1 ?_); refine bxF w 1 #[.string D, .int .i64 I, .int .i64 J, .slice O l0_3.length U, .slice X s.length Y] 91 (Z0) ?_; intro a8 hg w4 BK288 a9 GE288 HB hb; clear hb hg) | ((with_reducible refine gD 2 ?_); refine bxF w 2 #[.string (⟨#[]⟩ : ByteArray), .int .i64 0, .int .i64 0, .slice none 0 0, .slice none 0 0] 98 (Z167) ?_; intro aU hg w5 BK289 bA GE289 HB hb; have aV := aM ((nL BK288 hg (Z131))); have aW := aM ((nG BK288 hg (Z131))); replace BK288 := aM (kB BK288 (Z131) hb); clear hb hg) | ((with_reducible refine gD 3 ?_); refine bxF w 3 #[.string (⟨#[]⟩ : ByteArray), .int .i64 0, .int .i64 0, .slice none 0 0, .slice none 0 0] 98 (Z147) ?_; intro aA hg w6 y bB GE290 HB hb; have aX := aM ((nL BK288 hg (Z131))); have aY := aM ((nG BK288 hg (Z131))); replace BK288 := aM (kB BK288 (Z131) hb); have aZ := aM ((nL BK289 hg (Z190))); have a2 := aM ((nG BK289 hg (Z190))); replace BK289 := aM (kB BK289 (Z190) hb); clear hb hg; have bC := aV.out; have bD := aW.out; have bE := aX.out; have bF := aY.out; refine bD5 BK288 ?_; intros; have bG := a2.out; have bH := aZ.out; refine bD5 y ?_; intros) | ((with_reducible refine gC 90 ?_); refine gL 15 func90 #[.slice O l0_3.length U] ?_; (with_reducible refine (laws_toStoredS.calls k _ _ l0_3 aG _ ?Y1 ?Y2 A2.out).mono ?_); (case Y1 => exact Kd.C_below aC.out (Z65)); (case Y2 => exact aD.out); rintro e bI ⟨bJ, rfl, M, hb⟩; refine ⟨_, rfl, ?_⟩; have aB := aM (Kd.R_lower M (below_size (Z65))); replace BK288 := aM (kB BK288 zB hb); replace BK289 := aM (kB BK289 zB hb); replace y := aM (blk_below (g := aA) (o := .cells #[.string D, .int .i64 I, .int .i64 J, .slice none 0 0, .slice none 0 0] 98 (0, 0)) zB hb); replace HB := aM (below_step (Z65) hb); (try clear hb); (try clear M); obtain ⟨aP, aQ, a3⟩ := Kd.R_slice aB.out; subst a3; refine bD5 y ?_; intros; refine bD5 BK288 ?_; intros) | ((with_reducible refine gC 91 ?_); refine gL 19 func91 #[.slice X s.length Y] ?_; (with_reducible refine (laws_toStringS.calls k _ _ s Z _ ?Y1 ?Y2 A3.out).mono ?_); (case Y1 => exact Kd.C_below aE.out (Z65)); (case Y2 => exact aF.out); rintro e bK ⟨bL, rfl, M, hb⟩; refine ⟨_, rfl, ?_⟩; replace aB := aM (Kd.R_below (by (with_reducible repeat (first | apply Kd.R_alloc | apply Kd.R_drewN | apply Kd.R_drew)); exact (Kd.R_mono (rF 3 (Kd.R_types aB.out y.out (Z101))) (fun _ h_ => h_.1))) hb); have aR := aM (Kd.R_lower M (below_size (Z65))); replace BK288 := aM (kB BK288 zB hb); replace BK289 := aM (kB BK289 zB hb); replace y := aM (blk_below (g := aA) (o := .cells #[.string D, .int .i64 I, .int .i64 J, .slice aP aG.length aQ, .slice none 0 0] 98 (0, 0)) zB hb); replace HB := aM (below_step (Z65) hb); (try clear hb); (try clear hk); (try clear M); obtain ⟨aH, aI, a5⟩ := Kd.R_slice aR.out; subst a5; refine bD5 y ?_; intros; refine bD5 BK289 ?_; intros))
 refine bodyPost_ret (results_cell_row rfl _ _ aU 98 #[.string D, .int .i64 I, .int .i64 J, .slice aP aG.length aQ, .slice aH Z.length aI] (0, 0) _ rfl zB underlying98 rfl (Z18)) rfl ?_
 exact ⟨_, _, Z1, by (with_reducible repeat (first | apply Kd.R_alloc | apply Kd.R_drewN | apply Kd.R_drew)); exact Kd.R_mono (rF 4 (rF 3 (rF 2 (rF 1 (rF 0 (Kd.R_far (p := ⟨aA, 4, none⟩) (Kd.R_types (Kd.R_types aB.out y.out (Z101)) BK289.out (Z101)) (fun _ hk => hk.1.2) (.slice aH Z.length aI))))))) (fun _ hk => trivial), by (with_reducible repeat (first | apply Kd.R_alloc | apply Kd.R_drewN | apply Kd.R_drew)); exact Kd.R_mono (rF 4 (rF 3 (rF 2 (rF 1 (rF 0 (Kd.R_far (p := ⟨aA, 4, none⟩) (Kd.R_types (Kd.R_types aR.out y.out (Z101)) BK289.out (Z101)) (fun _ hk => hk.1.2) (.slice aH Z.length aI))))))) (fun _ hk => trivial), Z65⟩
def laws_toBoxS.l0 : Nat → List (S91) → List (S98) → Int → Option ((List (S98)))
 | 0, _, _, _ => none
 | k + 1, x0, x3, x4 => if x4 < (x0.length : Int) then (if 0 ≤ x4 then ((laws_toBox.f k ((rd_T91 x0 x4).f0) ((rd_T91 x0 x4).f1) ((rd_T91 x0 x4).f2) ((rd_T91 x0 x4).f3) ((rd_T91 x0 x4).f4)).bind fun s => (if x4 < (x3.length : Int) then (laws_toBoxS.l0 k x0 (x3.set (x4 : Int).toNat (⟨s.1, s.2.1, s.2.2.1, s.2.2.2.1, s.2.2.2.2⟩ : S98)) (wrap64 (x4 + 1))) else (none))) else (none)) else (some x3)
def laws_toBoxS.f (k : Nat) (l0 : List (S91)) : Option ((List (S98))) := if 0 ≤ (l0.length : Int) then (if ((l0.length : Int) : Int).toNat ≤ 3518437208883 then (laws_toBoxS.l0 k l0 (List.replicate ((l0.length : Int) : Int).toNat z98) 0) else (none)) else (none)
theorem laws_toBoxS.calls (k : Nat) (A0 : Option Addr) (c0 : Nat) (l0 : List (S91)) (r : List (S98)) (w : World) (hr0 : Kd.C k91 w A0 l0.length l0) (aV : l0.length ≤ c0) (h : laws_toBoxS.f k l0 = some r) :
  Calls prog 33 #[.slice A0 l0.length c0] w fun e w' => ∃ v0_ : Value, e = .returned (v0_) ∧ Kd.S k98 98 w' w.heap.size (fun _ => True) v0_ r ∧ Below w.heap.size w w' := by
 have cN := underlying91
 have cO := underlying98
 replace hr0 := aM hr0
 replace aV := aM aV
 have HB := aM (Below.refl w.heap.size w)
 have H := h
 clear h
 unfold laws_toBoxS.f at H
 obtain ⟨c2, H⟩ := ifS H
 have bH := eq_true c2
 have bI : decide (0 ≤ (l0.length : Int)) = true := decide_eq_true c2
 clear c2
 obtain ⟨c3, H⟩ := ifS H
 have bJ := eq_true c3
 have bK : decide (((l0.length : Int) : Int).toNat ≤ 3518437208883) = true := decide_eq_true c3
 clear c3
 obtain ⟨aW, aA⟩ : ∃ y_ : List (S98), y_ = (List.replicate ((l0.length : Int) : Int).toNat z98) := ⟨_, rfl⟩
 replace H : (laws_toBoxS.l0 k l0 aW 0) = some r := by first | (rw [aA]; with_reducible exact H) | (have H2_ := (Option.bind_some _ _).symm.trans H; rw [aA]; with_reducible exact H2_) | (have H2_ := (Option.bind_some _ _).symm.trans H; with_reducible exact H2_) | with_reducible exact H | (rw [aA]; exact H) | exact H
 have aX := aM aA
 clear aA
 have H' := aM H
 clear H
 go_enter func33, ntmps33
 go_wp2_with (first | ((with_reducible refine gD 7 ?_); refine Kd.S_make k98 _ 98 rfl (N := 7) rfl 33 _ _ rfl (l0.length : Int) rfl rfl underlying33 (.agg #[(.string ⟨#[]⟩), (.int .i64 0), (.int .i64 0), (.slice none 0 0), (.slice none 0 0)]) 80 info98 rfl (Z101) (Z42) z98 (ok := fun _ => True) (okp := fun _ => True) (k98_mkM _ _ _ z98 (Kd.R_nil _ _ _ _ _) (Kd.R_nil _ _ _ _ _)) (fun _ hk => hk) trivial (of_decide_eq_true (Z4)) (Nat.le_trans (Nat.mul_le_mul_right _ (of_decide_eq_true (Z4) : (l0.length : Int).toNat ≤ 3518437208883)) (Z42)) (Below.refl _ _) (Nat.le_refl _) ?_; intro bL w4 aB hb hg_ hnew_; clear hg_ hnew_; (first | rw [← aX.out] at aB | (simp only [Int.reduceToNat] at aB; rw [← aX.out] at aB)); have bM := aM (Kd.S_lower aB (below_size (Z0))); replace HB := aM (below_step (Z0) hb); clear hb aB))
 go_loopg [4] k (fun kq v4 w' => ∃ (D : List (S98)) (s : Int), v4 = .int .i64 s ∧ Aside0 (laws_toBoxS.l0 kq l0 D s = some r) ∧ Aside0 (kq ≤ k) ∧ Aside0 (Kd.S k98 98 w' w.heap.size (fun _ => True) bL D) ∧ Aside0 (Below w.heap.size w w'))
 case atStart => exact ⟨(aW), (0), (Z3), H', ⟨Nat.le_refl _⟩, ⟨by (with_reducible repeat (first | apply Kd.S_alloc | apply Kd.S_drewN | apply Kd.S_drew)); exact bM.out⟩, ⟨Z0⟩⟩
 case round =>
  clear H'
  (try clear c2); (try clear bH); (try clear bI); (try clear c3); (try clear bJ); (try clear bK)
  obtain ⟨D, s, rfl, HA, HK1, HO_3, HB⟩ := hrel
  cases gk with
  | zero => exact absurd HA.out (by simp [laws_toBoxS.l0])
  | succ k1 =>
   have H := HA.out
   clear HA
   simp only [laws_toBoxS.l0] at H
   by_cases c6 : s < (l0.length : Int)
   ·rw [if_pos c6] at H
    have bO := decide_eq_true c6
    clear c6
    obtain ⟨c7, H⟩ := ifS H
    have cP := decide_eq_true c7
    clear c7
    obtain ⟨⟨J, M, O, aE, aF⟩, A8, H⟩ := bindA H
    try dsimp only at H
    obtain ⟨c9, H⟩ := ifS H
    have cQ := decide_eq_true c9
    clear c9
    obtain ⟨aL, aC⟩ : ∃ y_ : List (S98), y_ = (D.set (s : Int).toNat (⟨J, M, O, aE, aF⟩ : S98)) := ⟨_, rfl⟩
    replace H : (laws_toBoxS.l0 k1 l0 aL (wrap64 (s + 1))) = some r := by first | (rw [aC]; with_reducible exact H) | (have H2_ := (Option.bind_some _ _).symm.trans H; rw [aC]; with_reducible exact H2_) | (have H2_ := (Option.bind_some _ _).symm.trans H; with_reducible exact H2_) | with_reducible exact H | (rw [aC]; exact H) | exact H
    have bQ := aM aC
    clear aC
    have H' := aM H
    clear H
    have aN : 0 ≤ (s : Int) := of_decide_eq_true (Z4)
    have aO : s < (l0.length : Int) := of_decide_eq_true (Z4)
    obtain ⟨cR, bR, bS, bT, bU, bV, aY, aZ, a2, a3, a5, a6, a7, a8, a9⟩ := at_T91 hr0.out s aN aO
    cases bV
    replace aY := cB HB.out aY
    replace aZ := cB HB.out aZ
    replace a2 := cB HB.out a2
    replace a3 := cB HB.out a3
    replace a5 := cB HB.out a5
    have bW := aM a7
    have bX := aM a6
    clear a7 a6
    have bY := aM a9
    have bZ := aM a8
    clear a9 a8
    replace aN := eq_true aN
    replace aO := eq_true aO
    go_wp2_with (first | ((with_reducible refine gC 58 ?_); refine gL 20 func58 #[.agg #[.string ((rd_T91 l0 s).f0), .int .i64 ((rd_T91 l0 s).f1), .int .i64 ((rd_T91 l0 s).f2), .slice bR ((rd_T91 l0 s).f3).length bS, .slice bT ((rd_T91 l0 s).f4).length bU]] ?_; (with_reducible refine (laws_toBox.calls k1 ((rd_T91 l0 s).f0) ((rd_T91 l0 s).f1) ((rd_T91 l0 s).f2) _ _ ((rd_T91 l0 s).f3) _ _ ((rd_T91 l0 s).f4) J M O aE aF _ ?Y1 ?Y2 ?Y3 ?Y4 A8.out).mono ?_); (case Y1 => have h_ := Kd.C_below bW.out HB.out; exact tC); (case Y2 => exact bX.out); (case Y3 => have h_ := Kd.C_below bY.out HB.out; exact tC); (case Y4 => exact bZ.out); rintro e I ⟨aG, aH, rfl, aP, aQ, hb⟩; refine ⟨_, rfl, ?_⟩; replace HO_3 := aM (Kd.S_mono (Kd.S_told (Kd.S_told (Kd.S_old (Z111) hb) (Kd.R_base aP)) (Kd.R_base aQ)) (fun _ h_ => h_.1)); have aI := aM (Kd.R_lower aP (below_size (Z0))); have aJ := aM (Kd.R_lower aQ (below_size (Z0))); replace HB := aM (below_step (Z0) hb); (try clear hb); (try clear aP); (try clear aQ); have p10 : 0 ≤ (s : Int) := of_decide_eq_true (Z4); have aR : (s : Int) < ((D.length : Int) : Int) := of_decide_eq_true (Z4); obtain ⟨y, bA, bB, bC, b0, cS, bD⟩ := Kd.S_form HO_3.out (Z42); (first | cases bB | (injection bB with ea_ en_ ec_; (first | subst ea_ | (injection ea_ with ea_; subst ea_)); subst ec_; clear en_)); have aD := aM bC; have cT := aM bD; clear bC b0 bD; obtain ⟨_, cU, b1, bE, U, X, _, _⟩ := Kd.S_elem HO_3.out z98 (s : Int) p10 aR; obtain ⟨b2, b6, rfl, cV, cX⟩ := k98_openM bE; have cY : I.cell? ⟨y, (s : Int).toNat * 5, none⟩ = some (.string ((rd_T98 D s).f0)) := U 0 _ rfl; have cZ : I.cell? ⟨y, (s : Int).toNat * 5 + 1, none⟩ = some (.int .i64 ((rd_T98 D s).f1)) := U 1 _ rfl; have dA : I.cell? ⟨y, (s : Int).toNat * 5 + 2, none⟩ = some (.int .i64 ((rd_T98 D s).f2)) := U 2 _ rfl; have dB : I.cell? ⟨y, (s : Int).toNat * 5 + 3, none⟩ = some (b2) := U 3 _ rfl; have dC : I.cell? ⟨y, (s : Int).toNat * 5 + 4, none⟩ = some (b6) := U 4 _ rfl; have dD : I.frozen? ⟨y, (s : Int).toNat * 5, none⟩ = false := X 0; have dE : I.frozen? ⟨y, (s : Int).toNat * 5 + 1, none⟩ = false := X 1; have dF : I.frozen? ⟨y, (s : Int).toNat * 5 + 2, none⟩ = false := X 2; have dG : I.frozen? ⟨y, (s : Int).toNat * 5 + 3, none⟩ = false := X 3; have dH : I.frozen? ⟨y, (s : Int).toNat * 5 + 4, none⟩ = false := X 4; clear b1 U X bE; replace p10 := eq_true p10; replace aR := eq_true aR; have n_ := aM (Kd.S_mono (ok' := (fun k_ => some k_ ≠ (aG : Value).ownBlock ∧ some k_ ≠ (aH : Value).ownBlock)) HO_3.out (fun k_ hk => ⟨hk.1.2, hk.2⟩)); clear HO_3; have HO_3 := n_; clear n_; have b7 := aM (show Kd.S k98 98 I w.heap.size (fun k_ => ((fun _ => True)) k_ ∧ ¬ ((fun k_ => some k_ = (aG : Value).ownBlock ∨ some k_ = (aH : Value).ownBlock)) k_) (.slice (some ⟨y, 0, none⟩) D.length bA) D from (by (with_reducible repeat (first | apply Kd.S_alloc | apply Kd.S_drewN | apply Kd.S_drew)); exact Kd.S_mono HO_3.out (fun k_ hk => ⟨trivial, fun e_ => e_.elim (fun h_ => hk.1 h_) (fun h_ => hk.2 h_)⟩))); obtain ⟨dI, dJ, b8, bF, Y, Z, b9, bG⟩ := Kd.S_elem b7.out z98 (s : Int) (of_decide_eq_true (Z4)) (by have h_ : (s : Int) < ((D.length : Int) : Int) := of_decide_eq_true (Z4); first | exact h_ | (have e_ := (Kd.S_reads' HO_3.out).1; omega) | simpa using h_); obtain ⟨dK, dL, rfl, dM, dN⟩ := k98_openM bF; have aS := Kd.S_seg bG (of_decide_eq_true (Z4)) (by have h_ : (s : Int) < ((D.length : Int) : Int) := of_decide_eq_true (Z4); first | exact h_ | (have e_ := (Kd.S_reads' HO_3.out).1; omega) | simpa using h_) (seg := [.string J, .int .i64 M, .int .i64 O, aG, aH]) (j := 0) (show 5 ≤ 5 from by decide) (x' := (⟨J, M, O, aE, aF⟩ : S98)) (k98_mkM _ _ _ (⟨J, M, O, aE, aF⟩ : S98) (Kd.R_mono (Kd.R_tight rfl (Kd.R_mono (ok' := fun k_ => ((fun _ => True)) k_ ∧ k_ ≠ y) (Kd.R_apart' (aI.out) (Kd.S_typed HO_3.out) (Z101)) (fun k_ hk => ⟨trivial, fun e_ => (hk.2) (by rw [e_]; rfl)⟩))) (fun _ h_ => Or.inr (Or.inl h_))) (Kd.R_mono (Kd.R_tight rfl (Kd.R_mono (ok' := fun k_ => ((fun _ => True)) k_ ∧ k_ ≠ y) (Kd.R_apart' (aJ.out) (Kd.S_typed HO_3.out) (Z101)) (fun k_ hk => ⟨trivial, fun e_ => (hk.2) (by rw [e_]; rfl)⟩))) (fun _ h_ => Or.inr (Or.inr (h_))))) (fun _ hk => hk) (fun k_ hk_ => hk_.elim (fun h_ => ((Kd.R_mono (ok' := fun k_ => ((fun _ => True)) k_ ∧ k_ ≠ y) (Kd.R_apart' (aI.out) (Kd.S_typed HO_3.out) (Z101)) (fun k_ hk => ⟨trivial, fun e_ => (hk.2) (by rw [e_]; rfl)⟩))).1 k_ h_.symm) (fun h_ => ((Kd.R_mono (ok' := fun k_ => ((fun _ => True)) k_ ∧ k_ ≠ y) (Kd.R_apart' (aJ.out) (Kd.S_typed HO_3.out) (Z101)) (fun k_ hk => ⟨trivial, fun e_ => (hk.2) (by rw [e_]; rfl)⟩))).1 k_ h_.symm)); have cA := Y 0 _ rfl; (try simp only [show (k98).sz = 5 from rfl, Nat.mul_one, Nat.add_zero] at cA); have cC := Z 0; (try simp only [show (k98).sz = 5 from rfl, Nat.mul_one, Nat.add_zero] at cC); have cD := Y 1 _ rfl; (try simp only [show (k98).sz = 5 from rfl, Nat.mul_one, Nat.add_zero] at cD); have cG := Z 1; (try simp only [show (k98).sz = 5 from rfl, Nat.mul_one, Nat.add_zero] at cG); have cH := Y 2 _ rfl; (try simp only [show (k98).sz = 5 from rfl, Nat.mul_one, Nat.add_zero] at cH); have cI := Z 2; (try simp only [show (k98).sz = 5 from rfl, Nat.mul_one, Nat.add_zero] at cI); have cJ := Y 3 _ rfl; (try simp only [show (k98).sz = 5 from rfl, Nat.mul_one, Nat.add_zero] at cJ); have cK := Z 3; (try simp only [show (k98).sz = 5 from rfl, Nat.mul_one, Nat.add_zero] at cK); have cL := Y 4 _ rfl; (try simp only [show (k98).sz = 5 from rfl, Nat.mul_one, Nat.add_zero] at cL); have cM := Z 4; (try simp only [show (k98).sz = 5 from rfl, Nat.mul_one, Nat.add_zero] at cM); clear b8 Y Z bF b9 bG) | ((with_reducible refine gate_store (t := 98) (p := 21) rfl ?_); refine store_event (t := 98) (p := 21) (v := ?vo_w13) (w1 := (((((I.setCell ⟨y, (s : Int).toNat * 5, none⟩ (.string J)).setCell ⟨y, (s : Int).toNat * 5 + 1, none⟩ (.int .i64 M)).setCell ⟨y, (s : Int).toNat * 5 + 2, none⟩ (.int .i64 O)).setCell ⟨y, (s : Int).toNat * 5 + 3, none⟩ (aG)).setCell ⟨y, (s : Int).toNat * 5 + 4, none⟩ (aH))) ?hg ?ho ?hn ?hr ?_; (case ho => rfl); (case hg => rfl); (case hn => rfl); (case hr => (obtain ⟨_, _, hv_⟩ := Kd.R_slice aI.out; subst hv_; obtain ⟨_, _, hv_⟩ := Kd.R_slice aJ.out; subst hv_; first | (go_simp; done) | (go_simp; rfl))); intro aT hw; have hg : I.grownBy aT (some y) := (by rw [hw]; exact aS.2); have hp_ : Kd.S k98 98 aT w.heap.size (fun _ => True) (.slice (some ⟨y, 0, none⟩) D.length bA) aL := (by rw [hw, bQ.out]; exact aS.1); clear aS; have n0_ := aM (hp_); have n1_ := aM ((by rw [hw]; exact below_set (below_set (below_set (below_set (below_set (HB.out) aD.out) aD.out) aD.out) aD.out) aD.out : Below w.heap.size w aT)); clear HO_3; clear HB; clear aI; clear aJ; have HO_3 := n0_; have HB := n1_; clear n0_ n1_; clear hg hw hp_))
    go_roundg k1
    case measure => have := HK1.out; omega
    case rel => exact ⟨(aL), (wrap64 (s + 1)), (Z3), H', ⟨Z125⟩, ⟨Z111⟩, ⟨Z0⟩⟩
   ·rw [if_neg c6] at H
    have bO := decide_eq_false c6
    clear c6
    obtain rfl := oI H
    go_wp2
    go_ret
    exact ⟨_, Z1, Z111, Z0⟩
def laws_toEngine.f (k : Nat) (y : Int) (D : ByteArray) (I : Int) (l0_3 : List (S91)) : Option (Int × ByteArray × Int × (List (S98))) := (laws_toLog.f y D I).bind fun s => ((laws_toBoxS.f k l0_3).bind fun J => (some (s.1, s.2.1, s.2.2, J)))
theorem laws_toEngine.calls (k : Nat) (y : Int) (D : ByteArray) (I : Int) (J : Option Addr) (M : Nat) (l0_3 : List (S91)) (r1 : Int) (r2 : ByteArray) (r3 : Int) (r4 : List (S98)) (w : World) (O : Kd.C k91 w J l0_3.length l0_3) (U : l0_3.length ≤ M) (h : laws_toEngine.f k y D I l0_3 = some (r1, r2, r3, r4)) :
  Calls prog 13 #[.agg #[.int .i64 y, .string D, .int .i64 I, .slice J l0_3.length M]] w fun e w' => ∃ v3_ : Value, e = .returned (.agg #[.int .i64 r1, .string r2, .int .i64 r3, v3_]) ∧ Kd.S k98 98 w' w.heap.size (fun _ => True) v3_ r4 ∧ Below w.heap.size w w' := by
 have aV := underlying26
 have aW := underlying35
 have aX := underlying23
 have aY := underlying32
 replace O := aM O
 replace U := aM U
 have HB := aM (Below.refl w.heap.size w)
 have H := h
 clear h
 unfold laws_toEngine.f at H
 obtain ⟨⟨X, Y, Z⟩, A2, H⟩ := bindA H
 try dsimp only at H
 obtain ⟨aA, A3, H⟩ := bindA H
 try dsimp only at H
 simp only [Option.some.injEq, Prod.mk.injEq] at H
 obtain ⟨rfl, rfl, rfl, rfl⟩ := H
 go_enter func13, ntmps13
 go_wp2_with (first | ((with_reducible refine gD 1 ?_); refine bxF w 1 #[.int .i64 y, .string D, .int .i64 I, .slice J l0_3.length M] 26 (Z0) ?_; intro aZ hg w4 BK311 a2 GE311 HB hb; clear hb hg) | ((with_reducible refine gD 2 ?_); refine bxF w 2 #[.int .i64 0, .string (⟨#[]⟩ : ByteArray), .int .i64 0, .slice none 0 0] 35 (Z168) ?_; intro aN hg w5 BK312 a3 GE312 HB hb; have aO := aM ((nL BK311 hg (Z113))); have aP := aM ((nG BK311 hg (Z113))); replace BK311 := aM (kB BK311 (Z113) hb); clear hb hg) | ((with_reducible refine gD 3 ?_); refine bxF w 3 #[.int .i64 0, .string (⟨#[]⟩ : ByteArray), .int .i64 0, .slice none 0 0] 35 (Z148) ?_; intro aF hg w6 s a5 GE313 HB hb; have aQ := aM ((nL BK311 hg (Z113))); have aR := aM ((nG BK311 hg (Z113))); replace BK311 := aM (kB BK311 (Z113) hb); have aS := aM ((nL BK312 hg (Z178))); have aT := aM ((nG BK312 hg (Z178))); replace BK312 := aM (kB BK312 (Z178) hb); clear hb hg; have a6 := aO.out; have a7 := aP.out; have a8 := aQ.out; have a9 := aR.out; refine bD4 BK311 ?_; intros) | ((with_reducible refine gC 32 ?_); refine gL 6 func32 #[.agg #[.int .i64 y, .string D, .int .i64 I]] ?_; (with_reducible refine (laws_toLog.calls y D I X Y Z _ A2.out).mono ?_); rintro e bA ⟨rfl, hb⟩; refine ⟨_, rfl, ?_⟩; replace BK311 := aM (kB BK311 (Z113) hb); replace BK312 := aM (kB BK312 (Z178) hb); replace s := aM (kB s zB hb); replace HB := aM (below_step (Z90) hb); (try clear hb); have bB := aT.out; have bC := aS.out; refine bD4 s ?_; intros; refine bD4 BK311 ?_; intros) | ((with_reducible refine gC 33 ?_); refine gL 10 func33 #[.slice J l0_3.length M] ?_; (with_reducible refine (laws_toBoxS.calls k _ _ l0_3 aA _ ?Y1 ?Y2 A3.out).mono ?_); (case Y1 => exact Kd.C_below O.out (Z90)); (case Y2 => exact U.out); rintro e bD ⟨bE, rfl, aG, hb⟩; refine ⟨_, rfl, ?_⟩; have aH := aM (Kd.S_lower aG (below_size (Z90))); replace BK311 := aM (kB BK311 zB hb); replace BK312 := aM (kB BK312 zB hb); replace s := aM (blk_below (g := aF) (o := .cells #[.int .i64 X, .string Y, .int .i64 Z, .slice none 0 0] 35 (0, 0)) zB hb); replace HB := aM (below_step (Z90) hb); (try clear hb); (try clear aG); obtain ⟨aI, aJ, aU⟩ := Kd.S_slice aH.out; subst aU; refine bD4 s ?_; intros; refine bD4 BK312 ?_; intros))
 refine bodyPost_ret (results_cell_row rfl _ _ aN 35 #[.int .i64 X, .string Y, .int .i64 Z, .slice aI aA.length aJ] (0, 0) _ rfl zB underlying35 rfl (Z18)) rfl ?_
 exact ⟨_, Z1, by (with_reducible repeat (first | apply Kd.S_alloc | apply Kd.S_drewN | apply Kd.S_drew)); exact Kd.S_mono (sF 3 (sF 2 (sF 1 (sF 0 (Kd.S_far (p := ⟨aF, 3, none⟩) (Kd.S_types (Kd.S_types aH.out s.out (Z101)) BK312.out (Z101)) (fun _ hk => hk.1.2) (.slice aI aA.length aJ)))))) (fun _ hk => trivial), Z90⟩
def laws_toIntS.l0 : Nat → List Int → List Int → Int → Option (List Int)
 | 0, _, _, _ => none
 | k + 1, x0, x3, x4 => if x4 < (x0.length : Int) then (if 0 ≤ x4 then (if x4 < (x3.length : Int) then (laws_toIntS.l0 k x0 (x3.set (x4 : Int).toNat (rd x0 x4)) (wrap64 (x4 + 1))) else (none)) else (none)) else (some x3)
def laws_toIntS.f (k : Nat) (l0 : List Int) : Option (List Int) := if 0 ≤ (l0.length : Int) then (if ((l0.length : Int) : Int).toNat ≤ 35184372088832 then (laws_toIntS.l0 k l0 (List.replicate ((l0.length : Int) : Int).toNat 0) 0) else (none)) else (none)
theorem laws_toIntS.calls (k : Nat) (A0 : Option Addr) (c0 : Nat) (l0 : List Int) (r : List Int) (w : World) (hr0 : Kd.C (Kd.int .i64) w A0 l0.length l0) (aC : l0.length ≤ c0) (h : laws_toIntS.f k l0 = some r) :
  Calls prog 92 #[.slice A0 l0.length c0] w fun e w' => ∃ v0_ : Value, e = .returned (v0_) ∧ Kd.R (Kd.int .i64) 3 w' w.heap.size (fun _ => True) v0_ r ∧ Below w.heap.size w w' := by
 replace hr0 := aM hr0
 replace aC := aM aC
 have HB := aM (Below.refl w.heap.size w)
 have H := h
 clear h
 unfold laws_toIntS.f at H
 obtain ⟨c2, H⟩ := ifS H
 have aK := eq_true c2
 have aL : decide (0 ≤ (l0.length : Int)) = true := decide_eq_true c2
 clear c2
 obtain ⟨c3, H⟩ := ifS H
 have aN := eq_true c3
 have aO : decide (((l0.length : Int) : Int).toNat ≤ 35184372088832) = true := decide_eq_true c3
 clear c3
 obtain ⟨aD, D⟩ : ∃ y_ : List Int, y_ = (List.replicate ((l0.length : Int) : Int).toNat 0) := ⟨_, rfl⟩
 replace H : (laws_toIntS.l0 k l0 aD 0) = some r := by first | (rw [D]; with_reducible exact H) | (have H2_ := (Option.bind_some _ _).symm.trans H; rw [D]; with_reducible exact H2_) | (have H2_ := (Option.bind_some _ _).symm.trans H; with_reducible exact H2_) | with_reducible exact H | (rw [D]; exact H) | exact H
 have aE := aM D
 clear D
 have H' := aM H
 clear H
 go_enter func92, ntmps92
 go_wp2_with (first | ((with_reducible refine gD 7 ?_); refine Kd.R_make (Kd.int .i64) _ 3 rfl (N := 7) rfl 46 _ _ rfl (l0.length : Int) rfl rfl underlying46 (.int .i64 0) 8 info3 rfl (Z101) (Z42) 0 (ok := fun _ => True) (okp := fun _ => True) rfl (fun _ hk => hk) trivial (of_decide_eq_true (Z4)) (Nat.le_trans (Nat.mul_le_mul_right _ (of_decide_eq_true (Z4) : (l0.length : Int).toNat ≤ 35184372088832)) (Z42)) (Below.refl _ _) (Nat.le_refl _) ?_; intro aP w4 I hb hg_ hnew_; clear hg_ hnew_; (first | rw [← aE.out] at I | (simp only [Int.reduceToNat] at I; rw [← aE.out] at I)); have aQ := aM (Kd.R_lower I (below_size (Z0))); replace HB := aM (below_step (Z0) hb); clear hb I))
 go_loopg [4] k (fun kq v4 w' => ∃ (y : List Int) (s : Int), v4 = .int .i64 s ∧ Aside0 (laws_toIntS.l0 kq l0 y s = some r) ∧ Aside0 (kq ≤ k) ∧ Aside0 (Kd.R (Kd.int .i64) 3 w' w.heap.size (fun _ => True) aP y) ∧ Aside0 (Below w.heap.size w w'))
 case atStart => exact ⟨(aD), (0), (Z3), H', ⟨Nat.le_refl _⟩, ⟨by (with_reducible repeat (first | apply Kd.R_alloc | apply Kd.R_drewN | apply Kd.R_drew)); exact aQ.out⟩, ⟨Z0⟩⟩
 case round =>
  clear H'
  (try clear c2); (try clear aK); (try clear aL); (try clear c3); (try clear aN); (try clear aO)
  obtain ⟨y, s, rfl, HA, HK1, HO_3, HB⟩ := hrel
  cases gk with
  | zero => exact absurd HA.out (by simp [laws_toIntS.l0])
  | succ k1 =>
   have H := HA.out
   clear HA
   simp only [laws_toIntS.l0] at H
   by_cases c6 : s < (l0.length : Int)
   ·rw [if_pos c6] at H
    have aS := decide_eq_true c6
    clear c6
    obtain ⟨c7, H⟩ := ifS H
    have aY := decide_eq_true c7
    clear c7
    obtain ⟨c8, H⟩ := ifS H
    have aZ := decide_eq_true c8
    clear c8
    obtain ⟨M, J⟩ : ∃ y_ : List Int, y_ = (y.set (s : Int).toNat (rd l0 s)) := ⟨_, rfl⟩
    replace H : (laws_toIntS.l0 k1 l0 M (wrap64 (s + 1))) = some r := by first | (rw [J]; with_reducible exact H) | (have H2_ := (Option.bind_some _ _).symm.trans H; rw [J]; with_reducible exact H2_) | (have H2_ := (Option.bind_some _ _).symm.trans H; with_reducible exact H2_) | with_reducible exact H | (rw [J]; exact H) | exact H
    have aT := aM J
    clear J
    have H' := aM H
    clear H
    have O : 0 ≤ (s : Int) := of_decide_eq_true (Z4)
    have U : s < (l0.length : Int) := of_decide_eq_true (Z4)
    obtain ⟨a2, aU, aG⟩ := Kd.at_int hr0.out s O U
    cases aU
    replace aG := cB HB.out aG
    replace O := eq_true O
    replace U := eq_true U
    have p9 : 0 ≤ (s : Int) := of_decide_eq_true (Z4)
    have X : (s : Int) < ((y.length : Int) : Int) := of_decide_eq_true (Z4)
    obtain ⟨Y, aV, aH, aI, aW, a3, aJ⟩ := Kd.R_form HO_3.out (Z42)
    (first | cases aH | (injection aH with ea_ en_ ec_; (first | subst ea_ | (injection ea_ with ea_; subst ea_)); subst ec_; clear en_))
    have aX := aM aI
    have a5 := aM aJ
    clear aI aW aJ
    obtain ⟨a6, a7⟩ := Kd.R_celln 0 HO_3.out (s : Int) p9 X
    replace p9 := eq_true p9
    replace X := eq_true X
    have Z := Kd.R_putg HO_3.out (s : Int) (rd l0 s)
    go_wp2_with (first | ((with_reducible refine gate_store (t := 3) (p := 20) rfl ?_); refine store_event (t := 3) (p := 20) (v := ?vo_w11) (w1 := (wr.setCell ⟨Y, (s : Int).toNat, none⟩ (.int .i64 (rd l0 s)))) ?hg ?ho ?hn ?hr ?_; (case ho => rfl); (case hg => rfl); (case hn => rfl); (case hr => first | (go_simp; done) | (go_simp; rfl)); intro aA hw; have hg : wr.grownBy aA (some Y) := (by rw [hw]; exact Z.2); have hp_ : Kd.R (Kd.int .i64) 3 aA w.heap.size (fun _ => True) (.slice (some ⟨Y, 0, none⟩) y.length aV) M := (by rw [hw, aT.out]; exact Z.1); clear Z; replace HO_3 := aM (hp_); replace HB := aM ((by rw [hw]; exact below_set (HB.out) aX.out : Below w.heap.size w aA)); clear hg hw hp_))
    go_roundg k1
    case measure => have := HK1.out; omega
    case rel => exact ⟨(M), (wrap64 (s + 1)), (Z3), H', ⟨Z125⟩, ⟨Z112⟩, ⟨Z0⟩⟩
   ·rw [if_neg c6] at H
    have aS := decide_eq_false c6
    clear c6
    obtain rfl := oI H
    go_wp2
    go_ret
    exact ⟨_, Z1, Z112, Z0⟩
def laws_toImap.f (k : Nat) (s : Int) (y : ByteArray) (D : Bool) (l0_3 : List Int) : Option (Int × ByteArray × Bool × List Int) := (laws_toIntS.f k l0_3).bind fun I => (some (s, y, D, I))
theorem laws_toImap.calls (k : Nat) (s : Int) (y : ByteArray) (D : Bool) (I : Option Addr) (J : Nat) (l0_3 : List Int) (Y : Int) (Z : ByteArray) (r3 : Bool) (r4 : List Int) (w : World) (O : Kd.C (Kd.int .i64) w I l0_3.length l0_3) (U : l0_3.length ≤ J) (h : laws_toImap.f k s y D l0_3 = some (Y, Z, r3, r4)) :
  Calls prog 59 #[.agg #[.int .i64 s, .string y, .bool D, .slice I l0_3.length J]] w fun e w' => ∃ v3_ : Value, e = .returned (.agg #[.int .i64 Y, .string Z, .bool r3, v3_]) ∧ Kd.R (Kd.int .i64) 3 w' w.heap.size (fun _ => True) v3_ r4 ∧ Below w.heap.size w w' := by
 have aR := underlying63
 have aS := underlying48
 replace O := aM O
 replace U := aM U
 have HB := aM (Below.refl w.heap.size w)
 have H := h
 clear h
 unfold laws_toImap.f at H
 obtain ⟨X, A2, H⟩ := bindA H
 try dsimp only at H
 simp only [Option.some.injEq, Prod.mk.injEq] at H
 obtain ⟨rfl, rfl, rfl, rfl⟩ := H
 go_enter func59, ntmps59
 go_wp2_with (first | ((with_reducible refine gD 1 ?_); refine bxF w 1 #[.int .i64 s, .string y, .bool D, .slice I l0_3.length J] 63 (Z0) ?_; intro aT hg w3 BK325 aU GE325 HB hb; clear hb hg) | ((with_reducible refine gD 2 ?_); refine bxF w 2 #[.int .i64 0, .string (⟨#[]⟩ : ByteArray), .bool false, .slice none 0 0] 48 (Z169) ?_; intro aI hg w4 BK326 aV GE326 HB hb; have aJ := aM ((nL BK325 hg (Z132))); have aK := aM ((nG BK325 hg (Z132))); replace BK325 := aM (kB BK325 (Z132) hb); clear hb hg) | ((with_reducible refine gD 3 ?_); refine bxF w 3 #[.int .i64 0, .string (⟨#[]⟩ : ByteArray), .bool false, .slice none 0 0] 48 (Z149) ?_; intro aC hg w5 M aW GE327 HB hb; have aL := aM ((nL BK325 hg (Z132))); have aN := aM ((nG BK325 hg (Z132))); replace BK325 := aM (kB BK325 (Z132) hb); have aO := aM ((nL BK326 hg (Z191))); have aP := aM ((nG BK326 hg (Z191))); replace BK326 := aM (kB BK326 (Z191) hb); clear hb hg; have aX := aJ.out; have aY := aK.out; have aZ := aL.out; have a2 := aN.out; refine bD4 BK325 ?_; intros; have a3 := aP.out; have a5 := aO.out; refine bD4 M ?_; intros) | ((with_reducible refine gC 92 ?_); refine gL 15 func92 #[.slice I l0_3.length J] ?_; (with_reducible refine (laws_toIntS.calls k _ _ l0_3 X _ ?Y1 ?Y2 A2.out).mono ?_); (case Y1 => exact Kd.C_below O.out (Z108)); (case Y2 => exact U.out); rintro e a6 ⟨a7, rfl, aD, hb⟩; refine ⟨_, rfl, ?_⟩; have aE := aM (Kd.R_lower aD (below_size (Z108))); replace BK325 := aM (kB BK325 zB hb); replace BK326 := aM (kB BK326 zB hb); replace M := aM (blk_below (g := aC) (o := .cells #[.int .i64 s, .string y, .bool D, .slice none 0 0] 48 (0, 0)) zB hb); replace HB := aM (below_step (Z108) hb); (try clear hb); (try clear aD); obtain ⟨aF, aG, aQ⟩ := Kd.R_slice aE.out; subst aQ; refine bD4 M ?_; intros; refine bD4 BK326 ?_; intros))
 refine bodyPost_ret (results_cell_row rfl _ _ aI 48 #[.int .i64 s, .string y, .bool D, .slice aF X.length aG] (0, 0) _ rfl zB underlying48 rfl (Z18)) rfl ?_
 exact ⟨_, Z1, by (with_reducible repeat (first | apply Kd.R_alloc | apply Kd.R_drewN | apply Kd.R_drew)); exact Kd.R_mono (rF 3 (rF 2 (rF 1 (rF 0 (Kd.R_far (p := ⟨aC, 3, none⟩) (Kd.R_types (Kd.R_types aE.out M.out (Z101)) BK326.out (Z101)) (fun _ hk => hk.1.2) (.slice aF X.length aG)))))) (fun _ hk => trivial), Z108⟩
def laws_toNntp.f (s : ByteArray) (y : Int) (D : Bool) : Option (ByteArray × Int × Bool) := some (s, y, D)
theorem laws_toNntp.calls (s : ByteArray) (y : Int) (D : Bool) (I : ByteArray) (J : Int) (M : Bool) (w : World) (h : laws_toNntp.f s y D = some (I, J, M)) :
  Calls prog 60 #[.agg #[.string s, .int .i64 y, .bool D]] w fun e w' => e = .returned (.agg #[.string I, .int .i64 J, .bool M]) ∧ Below w.heap.size w w' := by
 have aE := underlying64
 have aF := underlying50
 have HB := aM (Below.refl w.heap.size w)
 have H := h
 clear h
 unfold laws_toNntp.f at H
 simp only [Option.some.injEq, Prod.mk.injEq] at H
 obtain ⟨rfl, rfl, rfl⟩ := H
 go_enter func60, ntmps60
 go_wp2_with (first | ((with_reducible refine gD 1 ?_); refine bxF w 1 #[.string s, .int .i64 y, .bool D] 64 (Z0) ?_; intro aG hg w2 BK331 aH GE331 HB hb; clear hb hg) | ((with_reducible refine gD 2 ?_); refine bxF w 2 #[.string (⟨#[]⟩ : ByteArray), .int .i64 0, .bool false] 50 (Z170) ?_; intro O hg w3 BK332 aI GE332 HB hb; have U := aM ((nL BK331 hg (Z133))); have X := aM ((nG BK331 hg (Z133))); replace BK331 := aM (kB BK331 (Z133) hb); clear hb hg) | ((with_reducible refine gD 3 ?_); refine bxF w 3 #[.string (⟨#[]⟩ : ByteArray), .int .i64 0, .bool false] 50 (Z150) ?_; intro aJ hg w4 Y aK Z HB hb; have aA := aM ((nL BK331 hg (Z133))); have aB := aM ((nG BK331 hg (Z133))); replace BK331 := aM (kB BK331 (Z133) hb); have aC := aM ((nL BK332 hg (Z192))); have aD := aM ((nG BK332 hg (Z192))); replace BK332 := aM (kB BK332 (Z192) hb); clear hb hg; have aL := U.out; have aN := X.out; have aO := aA.out; have aP := aB.out; refine bD3 BK331 ?_; intros; have aQ := aD.out; have aR := aC.out; refine bD3 Y ?_; intros; refine bD3 BK332 ?_; intros))
 refine bodyPost_ret (results_cell_row rfl _ _ O 50 #[.string s, .int .i64 y, .bool D] (0, 0) _ rfl zB underlying50 rfl (Z18)) rfl ?_
 exact ⟨Z1, by repeat (first | (with_reducible first | exact HB.out | apply below_alloc | apply pw_below_drewN | apply below_drew1 | refine below_set ?_ GE331.out | refine below_set ?_ GE332.out | refine below_set ?_ Z.out) | exact HB.out)⟩
def laws_toConn.f (k : Nat) (D : Int) (I : ByteArray) (J : Int) (M : ByteArray) (O : Bool) (U : List Int) (X : ByteArray) (Y : Int) (Z : Bool) : Option (Int × ByteArray × Int × ByteArray × Bool × List Int × ByteArray × Int × Bool) := (laws_toImap.f k J M O U).bind fun s => ((laws_toNntp.f X Y Z).bind fun y => (some (D, I, s.1, s.2.1, s.2.2.1, s.2.2.2, y.1, y.2.1, y.2.2)))
theorem laws_toConn.calls (k : Nat) (D : Int) (I : ByteArray) (J : Int) (M : ByteArray) (O : Bool) (aA : Option Addr) (aB : Nat) (s : List Int) (U : ByteArray) (X : Int) (Y : Bool) (r1 : Int) (r2 : ByteArray) (r3 : Int) (r4 : ByteArray) (r5 : Bool) (r6 : List Int) (r7 : ByteArray) (r8 : Int) (r9 : Bool) (w : World) (aD : Kd.C (Kd.int .i64) w aA s.length s) (aE : s.length ≤ aB) (h : laws_toConn.f k D I J M O s U X Y = some (r1, r2, r3, r4, r5, r6, r7, r8, r9)) :
  Calls prog 34 #[.agg #[.int .i64 D, .string I, .int .i64 J, .string M, .bool O, .slice aA s.length aB, .string U, .int .i64 X, .bool Y]] w fun e w' => ∃ v5_ : Value, e = .returned (.agg #[.int .i64 r1, .string r2, .int .i64 r3, .string r4, .bool r5, v5_, .string r7, .int .i64 r8, .bool r9]) ∧ Kd.R (Kd.int .i64) 3 w' w.heap.size (fun _ => True) v5_ r6 ∧ Below w.heap.size w w' := by
 have bA := underlying66
 have bB := underlying52
 have bC := underlying63
 have bD := underlying48
 have bE := underlying64
 have bF := underlying50
 replace aD := aM aD
 replace aE := aM aE
 have HB := aM (Below.refl w.heap.size w)
 have H := h
 clear h
 unfold laws_toConn.f at H
 obtain ⟨⟨aF, aG, aH, aI⟩, A2, H⟩ := bindA H
 try dsimp only at H
 obtain ⟨⟨aJ, aK, aL⟩, A3, H⟩ := bindA H
 try dsimp only at H
 simp only [Option.some.injEq, Prod.mk.injEq] at H
 obtain ⟨rfl, rfl, rfl, rfl, rfl, rfl, rfl, rfl, rfl⟩ := H
 go_enter func34, ntmps34
 go_wp2_with (first | ((with_reducible refine gD 1 ?_); refine bxF w 1 #[.int .i64 D, .string I, .int .i64 J, .string M, .bool O, .slice aA s.length aB, .string U, .int .i64 X, .bool Y] 66 (Z0) ?_; intro bG hg w4 BK334 bH GE334 HB hb; clear hb hg) | ((with_reducible refine gD 2 ?_); refine bxF w 2 #[.int .i64 0, .string (⟨#[]⟩ : ByteArray), .int .i64 0, .string (⟨#[]⟩ : ByteArray), .bool false, .slice none 0 0, .string (⟨#[]⟩ : ByteArray), .int .i64 0, .bool false] 52 (Z171) ?_; intro aZ hg w5 BK335 bI GE335 HB hb; have a2 := aM ((nL BK334 hg (Z134))); have a3 := aM ((nG BK334 hg (Z134))); replace BK334 := aM (kB BK334 (Z134) hb); clear hb hg) | ((with_reducible refine gD 3 ?_); refine bxF w 3 #[.int .i64 0, .string (⟨#[]⟩ : ByteArray), .int .i64 0, .string (⟨#[]⟩ : ByteArray), .bool false, .slice none 0 0, .string (⟨#[]⟩ : ByteArray), .int .i64 0, .bool false] 52 (Z151) ?_; intro Z hg w6 y bJ GE336 HB hb; have a5 := aM ((nL BK334 hg (Z134))); have a6 := aM ((nG BK334 hg (Z134))); replace BK334 := aM (kB BK334 (Z134) hb); have a7 := aM ((nL BK335 hg (Z193))); have a8 := aM ((nG BK335 hg (Z193))); replace BK335 := aM (kB BK335 (Z193) hb); clear hb hg; have bK := a2.out; have bL := a3.out; have bM := a5.out; have bN := a6.out; refine bD9 BK334 ?_; intros; have bO := a8.out; have bP := a7.out; refine bD9 y ?_; intros) | ((with_reducible refine gC 59 ?_); refine gL 12 func59 #[.agg #[.int .i64 J, .string M, .bool O, .slice aA s.length aB]] ?_; (with_reducible refine (laws_toImap.calls k J M O _ _ s aF aG aH aI _ ?Y1 ?Y2 A2.out).mono ?_); (case Y1 => exact Kd.C_below aD.out (Z91)); (case Y2 => exact aE.out); rintro e bQ ⟨bR, rfl, aU, hb⟩; refine ⟨_, rfl, ?_⟩; have aC := aM (Kd.R_lower aU (below_size (Z91))); replace BK334 := aM (kB BK334 zB hb); replace BK335 := aM (kB BK335 zB hb); replace y := aM (blk_below (g := Z) (o := .cells #[.int .i64 D, .string I, .int .i64 0, .string (⟨#[]⟩ : ByteArray), .bool false, .slice none 0 0, .string (⟨#[]⟩ : ByteArray), .int .i64 0, .bool false] 52 (0, 0)) zB hb); replace HB := aM (below_step (Z91) hb); (try clear hb); (try clear aU); refine bD9 y ?_; intros; obtain ⟨aV, aW, a9⟩ := Kd.R_slice aC.out; subst a9; refine bD9 BK334 ?_; intros) | ((with_reducible refine gC 60 ?_); refine gL 16 func60 #[.agg #[.string U, .int .i64 X, .bool Y]] ?_; (with_reducible refine (laws_toNntp.calls U X Y aJ aK aL _ A3.out).mono ?_); rintro e bS ⟨rfl, hb⟩; refine ⟨_, rfl, ?_⟩; replace aC := aM (Kd.R_below (by (with_reducible repeat (first | apply Kd.R_alloc | apply Kd.R_drewN | apply Kd.R_drew)); exact (Kd.R_mono (rF 5 (rF 4 (rF 3 (rF 2 (Kd.R_types aC.out y.out (Z101)))))) (fun _ h_ => h_.1))) hb); replace BK334 := aM (kB BK334 zB hb); replace BK335 := aM (kB BK335 zB hb); replace y := aM (blk_below (g := Z) (o := .cells #[.int .i64 D, .string I, .int .i64 aF, .string aG, .bool aH, .slice aV aI.length aW, .string (⟨#[]⟩ : ByteArray), .int .i64 0, .bool false] 52 (0, 0)) zB hb); replace HB := aM (below_step (Z91) hb); (try clear hb); (try clear hk); refine bD9 y ?_; intros; refine bD9 BK335 ?_; intros))
 refine bodyPost_ret (results_cell_row rfl _ _ aZ 52 #[.int .i64 D, .string I, .int .i64 aF, .string aG, .bool aH, .slice aV aI.length aW, .string aJ, .int .i64 aK, .bool aL] (0, 0) _ rfl zB underlying52 rfl (Z18)) rfl ?_
 exact ⟨_, Z1, by (with_reducible repeat (first | apply Kd.R_alloc | apply Kd.R_drewN | apply Kd.R_drew)); exact Kd.R_mono (rF 8 (rF 7 (rF 6 (rF 5 (rF 4 (rF 3 (rF 2 (rF 1 (rF 0 (Kd.R_far (p := ⟨Z, 8, none⟩) (Kd.R_far (p := ⟨Z, 7, none⟩) (Kd.R_far (p := ⟨Z, 6, none⟩) (Kd.R_types (Kd.R_types aC.out y.out (Z101)) BK335.out (Z101)) (fun _ hk => hk.1.2) (.string aJ)) (fun _ hk => hk.1.2) (.int .i64 aK)) (fun _ hk => hk.1.2) (.bool aL))))))))))) (fun _ hk => trivial), Z91⟩
def laws_toConnS.l0 : Nat → List (S66) → List (S52) → Int → Option ((List (S52)))
 | 0, _, _, _ => none
 | k + 1, x0, x3, x4 => if x4 < (x0.length : Int) then (if 0 ≤ x4 then ((laws_toConn.f k ((rd_T66 x0 x4).f0) ((rd_T66 x0 x4).f1) ((rd_T66 x0 x4).f2.f0) ((rd_T66 x0 x4).f2.f1) ((rd_T66 x0 x4).f2.f2) ((rd_T66 x0 x4).f2.f3) ((rd_T66 x0 x4).f3.f0) ((rd_T66 x0 x4).f3.f1) ((rd_T66 x0 x4).f3.f2)).bind fun s => (if x4 < (x3.length : Int) then (laws_toConnS.l0 k x0 (x3.set (x4 : Int).toNat (⟨s.1, s.2.1, (⟨s.2.2.1, s.2.2.2.1, s.2.2.2.2.1, s.2.2.2.2.2.1⟩ : S48), (⟨s.2.2.2.2.2.2.1, s.2.2.2.2.2.2.2.1, s.2.2.2.2.2.2.2.2⟩ : S50)⟩ : S52)) (wrap64 (x4 + 1))) else (none))) else (none)) else (some x3)
def laws_toConnS.f (k : Nat) (l0 : List (S66)) : Option ((List (S52))) := if 0 ≤ (l0.length : Int) then (if ((l0.length : Int) : Int).toNat ≤ 2513169434916 then (laws_toConnS.l0 k l0 (List.replicate ((l0.length : Int) : Int).toNat z52) 0) else (none)) else (none)
theorem laws_toConnS.calls (k : Nat) (A0 : Option Addr) (c0 : Nat) (l0 : List (S66)) (r : List (S52)) (w : World) (hr0 : Kd.C k66 w A0 l0.length l0) (aW : l0.length ≤ c0) (h : laws_toConnS.f k l0 = some r) :
  Calls prog 14 #[.slice A0 l0.length c0] w fun e w' => ∃ v0_ : Value, e = .returned (v0_) ∧ Kd.S k52 52 w' w.heap.size (fun _ => True) v0_ r ∧ Below w.heap.size w w' := by
 have cT := underlying66
 have cU := underlying52
 replace hr0 := aM hr0
 replace aW := aM aW
 have HB := aM (Below.refl w.heap.size w)
 have H := h
 clear h
 unfold laws_toConnS.f at H
 obtain ⟨c2, H⟩ := ifS H
 have bK := eq_true c2
 have bL : decide (0 ≤ (l0.length : Int)) = true := decide_eq_true c2
 clear c2
 obtain ⟨c3, H⟩ := ifS H
 have bM := eq_true c3
 have bN : decide (((l0.length : Int) : Int).toNat ≤ 2513169434916) = true := decide_eq_true c3
 clear c3
 obtain ⟨aX, aG⟩ : ∃ y_ : List (S52), y_ = (List.replicate ((l0.length : Int) : Int).toNat z52) := ⟨_, rfl⟩
 replace H : (laws_toConnS.l0 k l0 aX 0) = some r := by first | (rw [aG]; with_reducible exact H) | (have H2_ := (Option.bind_some _ _).symm.trans H; rw [aG]; with_reducible exact H2_) | (have H2_ := (Option.bind_some _ _).symm.trans H; with_reducible exact H2_) | with_reducible exact H | (rw [aG]; exact H) | exact H
 have aY := aM aG
 clear aG
 have H' := aM H
 clear H
 go_enter func14, ntmps14
 go_wp2_with (first | ((with_reducible refine gD 7 ?_); refine Kd.S_make k52 _ 52 rfl (N := 7) rfl 36 _ _ rfl (l0.length : Int) rfl rfl underlying36 (.agg #[(.int .i64 0), (.string ⟨#[]⟩), (.int .i64 0), (.string ⟨#[]⟩), (.bool false), (.slice none 0 0), (.string ⟨#[]⟩), (.int .i64 0), (.bool false)]) 112 info52 rfl (Z101) (Z42) z52 (ok := fun _ => True) (okp := fun _ => True) (k52_mkM _ _ _ z52 (Kd.R_nil _ _ _ _ _)) (fun _ hk => hk) trivial (of_decide_eq_true (Z4)) (Nat.le_trans (Nat.mul_le_mul_right _ (of_decide_eq_true (Z4) : (l0.length : Int).toNat ≤ 2513169434916)) (Z42)) (Below.refl _ _) (Nat.le_refl _) ?_; intro bO w4 aH hb hg_ hnew_; clear hg_ hnew_; (first | rw [← aY.out] at aH | (simp only [Int.reduceToNat] at aH; rw [← aY.out] at aH)); have bP := aM (Kd.S_lower aH (below_size (Z0))); replace HB := aM (below_step (Z0) hb); clear hb aH))
 go_loopg [4] k (fun kq v4 w' => ∃ (I : List (S52)) (s : Int), v4 = .int .i64 s ∧ Aside0 (laws_toConnS.l0 kq l0 I s = some r) ∧ Aside0 (kq ≤ k) ∧ Aside0 (Kd.S k52 52 w' w.heap.size (fun _ => True) bO I) ∧ Aside0 (Below w.heap.size w w'))
 case atStart => exact ⟨(aX), (0), (Z3), H', ⟨Nat.le_refl _⟩, ⟨by (with_reducible repeat (first | apply Kd.S_alloc | apply Kd.S_drewN | apply Kd.S_drew)); exact bP.out⟩, ⟨Z0⟩⟩
 case round =>
  clear H'
  (try clear c2); (try clear bK); (try clear bL); (try clear c3); (try clear bM); (try clear bN)
  obtain ⟨I, s, rfl, HA, HK1, HO_3, HB⟩ := hrel
  cases gk with
  | zero => exact absurd HA.out (by simp [laws_toConnS.l0])
  | succ k1 =>
   have H := HA.out
   clear HA
   simp only [laws_toConnS.l0] at H
   by_cases c6 : s < (l0.length : Int)
   ·rw [if_pos c6] at H
    have bR := decide_eq_true c6
    clear c6
    obtain ⟨c7, H⟩ := ifS H
    have cV := decide_eq_true c7
    clear c7
    obtain ⟨⟨Y, Z, aA, aB, aC, aJ, aD, aE, aF⟩, A8, H⟩ := bindA H
    try dsimp only at H
    obtain ⟨c9, H⟩ := ifS H
    have cX := decide_eq_true c9
    clear c9
    obtain ⟨aO, aI⟩ : ∃ y_ : List (S52), y_ = (I.set (s : Int).toNat (⟨Y, Z, (⟨aA, aB, aC, aJ⟩ : S48), (⟨aD, aE, aF⟩ : S50)⟩ : S52)) := ⟨_, rfl⟩
    replace H : (laws_toConnS.l0 k1 l0 aO (wrap64 (s + 1))) = some r := by first | (rw [aI]; with_reducible exact H) | (have H2_ := (Option.bind_some _ _).symm.trans H; rw [aI]; with_reducible exact H2_) | (have H2_ := (Option.bind_some _ _).symm.trans H; with_reducible exact H2_) | with_reducible exact H | (rw [aI]; exact H) | exact H
    have bT := aM aI
    clear aI
    have H' := aM H
    clear H
    have aP : 0 ≤ (s : Int) := of_decide_eq_true (Z4)
    have aQ : s < (l0.length : Int) := of_decide_eq_true (Z4)
    obtain ⟨cY, bU, bV, bW, aZ, a2, a3, a5, a6, a7, a8, a9, bA, bB, bC⟩ := at_T66 hr0.out s aP aQ
    cases bW
    replace aZ := cB HB.out aZ
    replace a2 := cB HB.out a2
    replace a3 := cB HB.out a3
    replace a5 := cB HB.out a5
    replace a6 := cB HB.out a6
    replace a7 := cB HB.out a7
    replace a8 := cB HB.out a8
    replace a9 := cB HB.out a9
    replace bA := cB HB.out bA
    have bX := aM bC
    have bY := aM bB
    clear bC bB
    replace aP := eq_true aP
    replace aQ := eq_true aQ
    go_wp2_with (first | ((with_reducible refine gC 34 ?_); refine gL 20 func34 #[.agg #[.int .i64 ((rd_T66 l0 s).f0), .string ((rd_T66 l0 s).f1), .int .i64 ((rd_T66 l0 s).f2.f0), .string ((rd_T66 l0 s).f2.f1), .bool ((rd_T66 l0 s).f2.f2), .slice bU ((rd_T66 l0 s).f2.f3).length bV, .string ((rd_T66 l0 s).f3.f0), .int .i64 ((rd_T66 l0 s).f3.f1), .bool ((rd_T66 l0 s).f3.f2)]] ?_; (with_reducible refine (laws_toConn.calls k1 ((rd_T66 l0 s).f0) ((rd_T66 l0 s).f1) ((rd_T66 l0 s).f2.f0) ((rd_T66 l0 s).f2.f1) ((rd_T66 l0 s).f2.f2) _ _ ((rd_T66 l0 s).f2.f3) ((rd_T66 l0 s).f3.f0) ((rd_T66 l0 s).f3.f1) ((rd_T66 l0 s).f3.f2) Y Z aA aB aC aJ aD aE aF _ ?Y1 ?Y2 A8.out).mono ?_); (case Y1 => have h_ := Kd.C_below bX.out HB.out; exact tC); (case Y2 => exact bY.out); rintro e D ⟨aK, rfl, aR, hb⟩; refine ⟨_, rfl, ?_⟩; replace HO_3 := aM (Kd.S_elder' (Z111) (Kd.R_base aR) hb); have aL := aM (Kd.R_lower aR (below_size (Z0))); replace HB := aM (below_step (Z0) hb); (try clear hb); (try clear aR); have p10 : 0 ≤ (s : Int) := of_decide_eq_true (Z4); have aS : (s : Int) < ((I.length : Int) : Int) := of_decide_eq_true (Z4); obtain ⟨y, bD, bE, bF, bZ, cZ, bG⟩ := Kd.S_form HO_3.out (Z42); (first | cases bE | (injection bE with ea_ en_ ec_; (first | subst ea_ | (injection ea_ with ea_; subst ea_)); subst ec_; clear en_)); have X := aM bF; have dA := aM bG; clear bF bZ bG; obtain ⟨_, dB, b0, bH, J, M, _, _⟩ := Kd.S_elem HO_3.out z52 (s : Int) p10 aS; obtain ⟨b1, rfl, dC⟩ := k52_openM bH; have dD : D.cell? ⟨y, (s : Int).toNat * 9, none⟩ = some (.int .i64 ((rd_T52 I s).f0)) := J 0 _ rfl; have dE : D.cell? ⟨y, (s : Int).toNat * 9 + 1, none⟩ = some (.string ((rd_T52 I s).f1)) := J 1 _ rfl; have dF : D.cell? ⟨y, (s : Int).toNat * 9 + 2, none⟩ = some (.int .i64 ((rd_T52 I s).f2.f0)) := J 2 _ rfl; have dG : D.cell? ⟨y, (s : Int).toNat * 9 + 3, none⟩ = some (.string ((rd_T52 I s).f2.f1)) := J 3 _ rfl; have dH : D.cell? ⟨y, (s : Int).toNat * 9 + 4, none⟩ = some (.bool ((rd_T52 I s).f2.f2)) := J 4 _ rfl; have dI : D.cell? ⟨y, (s : Int).toNat * 9 + 5, none⟩ = some (b1) := J 5 _ rfl; have dJ : D.cell? ⟨y, (s : Int).toNat * 9 + 6, none⟩ = some (.string ((rd_T52 I s).f3.f0)) := J 6 _ rfl; have dK : D.cell? ⟨y, (s : Int).toNat * 9 + 7, none⟩ = some (.int .i64 ((rd_T52 I s).f3.f1)) := J 7 _ rfl; have dL : D.cell? ⟨y, (s : Int).toNat * 9 + 8, none⟩ = some (.bool ((rd_T52 I s).f3.f2)) := J 8 _ rfl; have dM : D.frozen? ⟨y, (s : Int).toNat * 9, none⟩ = false := M 0; have dN : D.frozen? ⟨y, (s : Int).toNat * 9 + 1, none⟩ = false := M 1; have dO : D.frozen? ⟨y, (s : Int).toNat * 9 + 2, none⟩ = false := M 2; have dP : D.frozen? ⟨y, (s : Int).toNat * 9 + 3, none⟩ = false := M 3; have dQ : D.frozen? ⟨y, (s : Int).toNat * 9 + 4, none⟩ = false := M 4; have dR : D.frozen? ⟨y, (s : Int).toNat * 9 + 5, none⟩ = false := M 5; have dS : D.frozen? ⟨y, (s : Int).toNat * 9 + 6, none⟩ = false := M 6; have dT : D.frozen? ⟨y, (s : Int).toNat * 9 + 7, none⟩ = false := M 7; have dU : D.frozen? ⟨y, (s : Int).toNat * 9 + 8, none⟩ = false := M 8; clear b0 J M bH; replace p10 := eq_true p10; replace aS := eq_true aS; have n_ := aM (Kd.S_mono (ok' := (fun k_ => some k_ ≠ (aK : Value).ownBlock)) HO_3.out (fun k_ hk => hk.2)); clear HO_3; have HO_3 := n_; clear n_; have b2 := aM (show Kd.S k52 52 D w.heap.size (fun k_ => ((fun _ => True)) k_ ∧ ¬ ((fun k_ => some k_ = (aK : Value).ownBlock)) k_) (.slice (some ⟨y, 0, none⟩) I.length bD) I from (by (with_reducible repeat (first | apply Kd.S_alloc | apply Kd.S_drewN | apply Kd.S_drew)); exact Kd.S_mono HO_3.out (fun k_ hk => ⟨trivial, fun e_ => hk e_⟩))); obtain ⟨dV, dW, b6, bI, O, U, b7, bJ⟩ := Kd.S_elem b2.out z52 (s : Int) (of_decide_eq_true (Z4)) (by have h_ : (s : Int) < ((I.length : Int) : Int) := of_decide_eq_true (Z4); first | exact h_ | (have e_ := (Kd.S_reads' HO_3.out).1; omega) | simpa using h_); obtain ⟨dX, rfl, dY⟩ := k52_openM bI; have aT := Kd.S_seg bJ (of_decide_eq_true (Z4)) (by have h_ : (s : Int) < ((I.length : Int) : Int) := of_decide_eq_true (Z4); first | exact h_ | (have e_ := (Kd.S_reads' HO_3.out).1; omega) | simpa using h_) (seg := [.int .i64 Y, .string Z, .int .i64 aA, .string aB, .bool aC, aK, .string aD, .int .i64 aE, .bool aF]) (j := 0) (show 9 ≤ 9 from by decide) (x' := (⟨Y, Z, (⟨aA, aB, aC, aJ⟩ : S48), (⟨aD, aE, aF⟩ : S50)⟩ : S52)) (k52_mkM _ _ _ (⟨Y, Z, (⟨aA, aB, aC, aJ⟩ : S48), (⟨aD, aE, aF⟩ : S50)⟩ : S52) (Kd.R_mono (Kd.R_tight rfl (Kd.R_mono (ok' := fun k_ => ((fun _ => True)) k_ ∧ k_ ≠ y) (Kd.R_apart' (aL.out) (Kd.S_typed HO_3.out) (Z101)) (fun k_ hk => ⟨trivial, fun e_ => (hk.2) (by rw [e_]; rfl)⟩))) (fun _ h_ => Or.inr (h_)))) (fun _ hk => hk) (fun k_ hk_ => ((Kd.R_mono (ok' := fun k_ => ((fun _ => True)) k_ ∧ k_ ≠ y) (Kd.R_apart' (aL.out) (Kd.S_typed HO_3.out) (Z101)) (fun k_ hk => ⟨trivial, fun e_ => (hk.2) (by rw [e_]; rfl)⟩))).1 k_ hk_.symm); have b8 := O 0 _ rfl; (try simp only [show (k52).sz = 9 from rfl, Nat.mul_one, Nat.add_zero] at b8); have b9 := U 0; (try simp only [show (k52).sz = 9 from rfl, Nat.mul_one, Nat.add_zero] at b9); have cA := O 1 _ rfl; (try simp only [show (k52).sz = 9 from rfl, Nat.mul_one, Nat.add_zero] at cA); have cC := U 1; (try simp only [show (k52).sz = 9 from rfl, Nat.mul_one, Nat.add_zero] at cC); have cD := O 2 _ rfl; (try simp only [show (k52).sz = 9 from rfl, Nat.mul_one, Nat.add_zero] at cD); have cG := U 2; (try simp only [show (k52).sz = 9 from rfl, Nat.mul_one, Nat.add_zero] at cG); have cH := O 3 _ rfl; (try simp only [show (k52).sz = 9 from rfl, Nat.mul_one, Nat.add_zero] at cH); have cI := U 3; (try simp only [show (k52).sz = 9 from rfl, Nat.mul_one, Nat.add_zero] at cI); have cJ := O 4 _ rfl; (try simp only [show (k52).sz = 9 from rfl, Nat.mul_one, Nat.add_zero] at cJ); have cK := U 4; (try simp only [show (k52).sz = 9 from rfl, Nat.mul_one, Nat.add_zero] at cK); have cL := O 5 _ rfl; (try simp only [show (k52).sz = 9 from rfl, Nat.mul_one, Nat.add_zero] at cL); have cM := U 5; (try simp only [show (k52).sz = 9 from rfl, Nat.mul_one, Nat.add_zero] at cM); have cN := O 6 _ rfl; (try simp only [show (k52).sz = 9 from rfl, Nat.mul_one, Nat.add_zero] at cN); have cO := U 6; (try simp only [show (k52).sz = 9 from rfl, Nat.mul_one, Nat.add_zero] at cO); have cP := O 7 _ rfl; (try simp only [show (k52).sz = 9 from rfl, Nat.mul_one, Nat.add_zero] at cP); have cQ := U 7; (try simp only [show (k52).sz = 9 from rfl, Nat.mul_one, Nat.add_zero] at cQ); have cR := O 8 _ rfl; (try simp only [show (k52).sz = 9 from rfl, Nat.mul_one, Nat.add_zero] at cR); have cS := U 8; (try simp only [show (k52).sz = 9 from rfl, Nat.mul_one, Nat.add_zero] at cS); clear b6 O U bI b7 bJ) | ((with_reducible refine gate_store (t := 52) (p := 21) rfl ?_); refine store_event (t := 52) (p := 21) (v := ?vo_w13) (w1 := (((((((((D.setCell ⟨y, (s : Int).toNat * 9, none⟩ (.int .i64 Y)).setCell ⟨y, (s : Int).toNat * 9 + 1, none⟩ (.string Z)).setCell ⟨y, (s : Int).toNat * 9 + 2, none⟩ (.int .i64 aA)).setCell ⟨y, (s : Int).toNat * 9 + 3, none⟩ (.string aB)).setCell ⟨y, (s : Int).toNat * 9 + 4, none⟩ (.bool aC)).setCell ⟨y, (s : Int).toNat * 9 + 5, none⟩ (aK)).setCell ⟨y, (s : Int).toNat * 9 + 6, none⟩ (.string aD)).setCell ⟨y, (s : Int).toNat * 9 + 7, none⟩ (.int .i64 aE)).setCell ⟨y, (s : Int).toNat * 9 + 8, none⟩ (.bool aF))) ?hg ?ho ?hn ?hr ?_; (case ho => rfl); (case hg => rfl); (case hn => rfl); (case hr => (obtain ⟨_, _, hv_⟩ := Kd.R_slice aL.out; subst hv_; first | (go_simp; done) | (go_simp; rfl))); intro aU hw; have hg : D.grownBy aU (some y) := (by rw [hw]; exact aT.2); have hp_ : Kd.S k52 52 aU w.heap.size (fun _ => True) (.slice (some ⟨y, 0, none⟩) I.length bD) aO := (by rw [hw, bT.out]; exact aT.1); clear aT; have n0_ := aM (hp_); have n1_ := aM ((by rw [hw]; exact below_set (below_set (below_set (below_set (below_set (below_set (below_set (below_set (below_set (HB.out) X.out) X.out) X.out) X.out) X.out) X.out) X.out) X.out) X.out : Below w.heap.size w aU)); clear HO_3; clear HB; clear aL; have HO_3 := n0_; have HB := n1_; clear n0_ n1_; clear hg hw hp_))
    go_roundg k1
    case measure => have := HK1.out; omega
    case rel => exact ⟨(aO), (wrap64 (s + 1)), (Z3), H', ⟨Z125⟩, ⟨Z111⟩, ⟨Z0⟩⟩
   ·rw [if_neg c6] at H
    have bR := decide_eq_false c6
    clear c6
    obtain rfl := oI H
    go_wp2
    go_ret
    exact ⟨_, Z1, Z111, Z0⟩
def laws_toWorld.f (k : Nat) (y : Int) (D : ByteArray) (I : Int) (l0_3 : List (S91)) (J : List (S66)) : Option (Int × ByteArray × Int × (List (S98)) × (List (S52))) := (laws_toEngine.f k y D I l0_3).bind fun s => ((laws_toConnS.f k J).bind fun M => (some (s.1, s.2.1, s.2.2.1, s.2.2.2, M)))
theorem laws_toWorld.calls (k : Nat) (D : Int) (I : ByteArray) (J : Int) (O : Option Addr) (U : Nat) (l0_3 : List (S91)) (X : Option Addr) (Y : Nat) (s : List (S66)) (r1 : Int) (r2 : ByteArray) (r3 : Int) (r4 : List (S98)) (r5 : List (S52)) (w : World) (aB : Kd.C k91 w O l0_3.length l0_3) (aC : l0_3.length ≤ U) (aD : Kd.C k66 w X s.length s) (aE : s.length ≤ Y) (h : laws_toWorld.f k D I J l0_3 s = some (r1, r2, r3, r4, r5)) :
  Calls prog 6 #[.agg #[.int .i64 D, .string I, .int .i64 J, .slice O l0_3.length U, .slice X s.length Y]] w fun e w' => ∃ v3_ v4_ : Value, e = .returned (.agg #[.int .i64 r1, .string r2, .int .i64 r3, v3_, v4_]) ∧ Kd.S k98 98 w' w.heap.size (fun _ => True) v3_ r4 ∧ Kd.S k52 52 w' w.heap.size (fun _ => True) v4_ r5 ∧ Below w.heap.size w w' := by
 have a9 := underlying29
 have bA := underlying38
 have bB := underlying26
 have bC := underlying35
 replace aB := aM aB
 replace aC := aM aC
 replace aD := aM aD
 replace aE := aM aE
 have HB := aM (Below.refl w.heap.size w)
 have H := h
 clear h
 unfold laws_toWorld.f at H
 obtain ⟨⟨aF, aG, aH, aI⟩, A2, H⟩ := bindA H
 try dsimp only at H
 obtain ⟨Z, A3, H⟩ := bindA H
 try dsimp only at H
 simp only [Option.some.injEq, Prod.mk.injEq] at H
 obtain ⟨rfl, rfl, rfl, rfl, rfl⟩ := H
 go_enter func6, ntmps6
 go_wp2_with (first | ((with_reducible refine gD 1 ?_); refine bxF w 1 #[.int .i64 D, .string I, .int .i64 J, .slice O l0_3.length U, .slice X s.length Y] 29 (Z0) ?_; intro bD hg w4 BK362 bE GE362 HB hb; clear hb hg) | ((with_reducible refine gD 2 ?_); refine bxF w 2 #[.int .i64 0, .string (⟨#[]⟩ : ByteArray), .int .i64 0, .slice none 0 0, .slice none 0 0] 38 (Z172) ?_; intro aX hg w5 BK363 bF GE363 HB hb; have aY := aM ((nL BK362 hg (Z114))); have aZ := aM ((nG BK362 hg (Z114))); replace BK362 := aM (kB BK362 (Z114) hb); clear hb hg) | ((with_reducible refine gD 3 ?_); refine bxF w 3 #[.int .i64 0, .string (⟨#[]⟩ : ByteArray), .int .i64 0, .slice none 0 0, .slice none 0 0] 38 (Z152) ?_; intro aJ hg w6 y bG GE364 HB hb; have a2 := aM ((nL BK362 hg (Z114))); have a3 := aM ((nG BK362 hg (Z114))); replace BK362 := aM (kB BK362 (Z114) hb); have a5 := aM ((nL BK363 hg (Z179))); have a6 := aM ((nG BK363 hg (Z179))); replace BK363 := aM (kB BK363 (Z179) hb); clear hb hg; have bH := aY.out; have bI := aZ.out; have bJ := a2.out; have bK := a3.out; refine bD5 BK362 ?_; intros) | ((with_reducible refine gC 13 ?_); refine gL 6 func13 #[.agg #[.int .i64 D, .string I, .int .i64 J, .slice O l0_3.length U]] ?_; (with_reducible refine (laws_toEngine.calls k D I J _ _ l0_3 aF aG aH aI _ ?Y1 ?Y2 A2.out).mono ?_); (case Y1 => have h_ := Kd.C_below aB.out HB.out; exact tC); (case Y2 => exact aC.out); rintro e bL ⟨bM, rfl, M, hb⟩; refine ⟨_, rfl, ?_⟩; have aA := aM (Kd.S_lower M (below_size (Z79))); replace BK362 := aM (kB BK362 (Z114) hb); replace BK363 := aM (kB BK363 (Z179) hb); replace y := aM (kB y zB hb); replace HB := aM (below_step (Z79) hb); (try clear hb); (try clear M); have bN := a6.out; have bO := a5.out; refine bD5 y ?_; intros; obtain ⟨aS, aT, a7⟩ := Kd.S_slice aA.out; subst a7; refine bD5 BK362 ?_; intros) | ((with_reducible refine gC 14 ?_); refine gL 10 func14 #[.slice X s.length Y] ?_; (with_reducible refine (laws_toConnS.calls k _ _ s Z _ ?Y1 ?Y2 A3.out).mono ?_); (case Y1 => exact Kd.C_below aD.out (Z79)); (case Y2 => exact aE.out); rintro e bP ⟨bQ, rfl, M, hb⟩; refine ⟨_, rfl, ?_⟩; replace aA := aM (Kd.S_below (by (with_reducible repeat (first | apply Kd.S_alloc | apply Kd.S_drewN | apply Kd.S_drew)); exact (Kd.S_mono (sF 3 (sF 2 (sF 1 (sF 0 (Kd.S_types aA.out y.out (Z101)))))) (fun _ h_ => h_.1))) hb); have aU := aM (Kd.S_lower M (below_size (Z79))); replace BK362 := aM (kB BK362 zB hb); replace BK363 := aM (kB BK363 zB hb); replace y := aM (blk_below (g := aJ) (o := .cells #[.int .i64 aF, .string aG, .int .i64 aH, .slice aS aI.length aT, .slice none 0 0] 38 (0, 0)) zB hb); replace HB := aM (below_step (Z79) hb); (try clear hb); (try clear hk); (try clear M); obtain ⟨aK, aL, a8⟩ := Kd.S_slice aU.out; subst a8; refine bD5 y ?_; intros; refine bD5 BK363 ?_; intros))
 refine bodyPost_ret (results_cell_row rfl _ _ aX 38 #[.int .i64 aF, .string aG, .int .i64 aH, .slice aS aI.length aT, .slice aK Z.length aL] (0, 0) _ rfl zB underlying38 rfl (Z18)) rfl ?_
 exact ⟨_, _, Z1, by (with_reducible repeat (first | apply Kd.S_alloc | apply Kd.S_drewN | apply Kd.S_drew)); exact Kd.S_mono (sF 4 (sF 3 (sF 2 (sF 1 (sF 0 (Kd.S_far (p := ⟨aJ, 4, none⟩) (Kd.S_types (Kd.S_types aA.out y.out (Z101)) BK363.out (Z101)) (fun _ hk => hk.1.2) (.slice aK Z.length aL))))))) (fun _ hk => trivial), by (with_reducible repeat (first | apply Kd.S_alloc | apply Kd.S_drewN | apply Kd.S_drew)); exact Kd.S_mono (sF 4 (sF 3 (sF 2 (sF 1 (sF 0 (Kd.S_far (p := ⟨aJ, 4, none⟩) (Kd.S_types (Kd.S_types aU.out y.out (Z101)) BK363.out (Z101)) (fun _ hk => hk.1.2) (.slice aK Z.length aL))))))) (fun _ hk => trivial), Z79⟩
def impl_LogOK.f (s : Int) (y : ByteArray) (D : Int) : Option (Bool) := (impl_within.f s 0 60000).bind fun I => (if I = true then (if (y.size : Int) ≤ s then ((impl_within.f D 0 (y.size : Int)).bind fun J => (some J)) else (some false)) else (some false))
theorem impl_LogOK.calls (s : Int) (y : ByteArray) (D : Int) (r : Bool) (w : World) (h : impl_LogOK.f s y D = some r) :
  Calls prog 35 #[.agg #[.int .i64 s, .string y, .int .i64 D]] w fun e w' => e = .returned (.bool r) ∧ Below w.heap.size w w' := by
 have aA := underlying32
 have HB := aM (Below.refl w.heap.size w)
 have H := h
 clear h
 unfold impl_LogOK.f at H
 obtain ⟨U, J, H⟩ := bindA H
 try dsimp only at H
 by_cases c3 : U = true
 ·subst c3
  replace H := ifT H
  by_cases c4 : (y.size : Int) ≤ s
  ·rw [if_pos c4] at H
   have X := decide_eq_true c4
   clear c4
   obtain ⟨Y, Z, H⟩ := bindA H
   try dsimp only at H
   obtain rfl := oI H
   go_enter func35, ntmps35
   go_wp2_with (first | ((with_reducible refine gD 1 ?_); (try (refine gate_guard (Z117) ?_; dsimp only)); refine bxF w 1 #[.int .i64 s, .string y, .int .i64 D] 32 (Z0) ?_; intro M hg w6 I O GE374 HB hb; clear hb hg; refine bD3 I ?_; intros) | ((with_reducible refine gC 61 ?_); refine gL 5 func61 #[.int .i64 s, .int .i64 0, .int .i64 60000] ?_; (with_reducible refine (impl_within.calls s 0 60000 true _ J.out).mono ?_); rintro e w' ⟨rfl, ⟨nd, rfl⟩⟩; refine ⟨_, rfl, ?_⟩) | (go_at_call 61; (with_reducible refine (impl_within.calls D 0 (y.size : Int) Y _ Z.out).mono ?_); rintro e w' ⟨rfl, ⟨nd, rfl⟩⟩))
   go_ret
   exact ⟨Z1, Z173⟩
  ·rw [if_neg c4] at H
   have X := decide_eq_false c4
   clear c4
   obtain rfl := oI H
   go_enter func35, ntmps35
   go_wp2_with (first | ((with_reducible refine gD 1 ?_); (try (refine gate_guard (Z117) ?_; dsimp only)); refine bxF w 1 #[.int .i64 s, .string y, .int .i64 D] 32 (Z0) ?_; intro M hg w8 I O GE374 HB hb; clear hb hg; refine bD3 I ?_; intros) | ((with_reducible refine gC 61 ?_); refine gL 5 func61 #[.int .i64 s, .int .i64 0, .int .i64 60000] ?_; (with_reducible refine (impl_within.calls s 0 60000 true _ J.out).mono ?_); rintro e w' ⟨rfl, ⟨nd, rfl⟩⟩; refine ⟨_, rfl, ?_⟩))
   go_ret
   exact ⟨Z1, Z173⟩
 ·replace c3 := Bool.eq_false_iff.mpr c3
  subst c3
  replace H := ifF H
  obtain rfl := oI H
  go_enter func35, ntmps35
  go_wp2_with (first | ((with_reducible refine gD 1 ?_); (try (refine gate_guard (Z117) ?_; dsimp only)); refine bxF w 1 #[.int .i64 s, .string y, .int .i64 D] 32 (Z0) ?_; intro M hg aC I O GE374 HB hb; clear hb hg; refine bD3 I ?_; intros) | ((with_reducible refine gC 61 ?_); refine gL 5 func61 #[.int .i64 s, .int .i64 0, .int .i64 60000] ?_; (with_reducible refine (impl_within.calls s 0 60000 false _ J.out).mono ?_); rintro e w' ⟨rfl, ⟨nd, rfl⟩⟩; refine ⟨_, rfl, ?_⟩))
  go_ret
  exact ⟨Z1, Z173⟩
def impl_EngineOK.j0 : Nat → Bool → Int → ByteArray → Int → List (S98) → Option (Bool)
 | 0, _, _, _, _, _ => none
 | k + 1, J, s, y, D, M => if J = true then (some false) else ((impl_Log_records.f s y D).bind fun O => (if O.2.2 = 0 then ((impl_Log_replay.f k s y D).bind fun I => (if I.2.2 = 0 then ((impl_sameStore.f k I.1 M).bind fun U => (some U)) else (some false))) else (some false)))
def impl_EngineOK.f (k : Nat) (D : Int) (s : ByteArray) (y : Int) (l0_3 : List (S98)) : Option (Bool) := (impl_LogOK.f D s y).bind fun I => (if I = true then (if y = (s.size : Int) then ((impl_StoreOK.f k l0_3).bind fun J => (impl_EngineOK.j0 k (!J) D s y l0_3)) else (impl_EngineOK.j0 k true D s y l0_3)) else (impl_EngineOK.j0 k true D s y l0_3))
theorem impl_EngineOK.calls (k : Nat) (D : Int) (s : ByteArray) (y : Int) (X : Option Addr) (Y : Nat) (l0_3 : List (S98)) (r : Bool) (w : World) (Z : Kd.C k98 w X l0_3.length l0_3) (aA : l0_3.length ≤ Y) (h : impl_EngineOK.f k D s y l0_3 = some r) :
  Calls prog 15 #[.agg #[.int .i64 D, .string s, .int .i64 y, .slice X l0_3.length Y]] w fun e w' => e = .returned (.bool r) ∧ Below w.heap.size w w' := by
 have a7 := underlying35
 have a8 := underlying32
 replace Z := aM Z
 replace aA := aM aA
 have HB := aM (Below.refl w.heap.size w)
 have H := h
 clear h
 unfold impl_EngineOK.f at H
 have aE := aM H
 clear H
 go_enter func15, ntmps15
 go_upto_region 1 with (first | ((with_reducible refine gD 1 ?_); (try (refine gate_guard (Z117) ?_; dsimp only)); refine bxF w 1 #[.int .i64 D, .string s, .int .i64 y, .slice X l0_3.length Y] 35 (Z0) ?_; intro aS hg w3 BK441 a9 GE441 HB hb; clear hb hg))
 (try simp only [Act.put, List.setIfInBounds_toArray, List.set_cons_zero, List.set_cons_succ])
 go_cut [28] (fun aT wc => ∃ (kq : Nat) (aB : Bool), aT = .bool aB ∧ Aside0 (impl_EngineOK.j0 kq aB D s y l0_3 = some r) ∧ Aside0 (kq ≤ k) ∧ Aside0 (wc.heap[aS]? = some (.cells #[.int .i64 D, .string s, .int .i64 y, (.slice X l0_3.length Y)] 35 (0, 0))) ∧ Aside0 (Below w.heap.size w wc))
 case first =>
  have H := aE.out
  clear aE
  obtain ⟨aU, A4, H⟩ := bindA H
  try dsimp only at H
  by_cases c5 : aU = true
  ·subst c5
   replace H := ifT H
   by_cases c6 : y = (s.size : Int)
   ·rw [if_pos c6] at H
    have U := beq_iff_eq.mpr c6
    have aG := bne_eq_false_iff_eq.mpr c6
    clear c6
    (first | rw [U] | rw [aG] | (simp only [i64_w, i32_w]; rw [U]) | skip)
    obtain ⟨aO, A7, H⟩ := bindA H
    try dsimp only at H
    have H' := aM H
    clear H
    refine bD4 BK441 ?_
    intros
    go_wp2_with (first | ((with_reducible refine gC 35 ?_); refine gL 11 func35 #[.agg #[.int .i64 D, .string s, .int .i64 y]] ?_; (with_reducible refine (impl_LogOK.calls D s y true _ A4.out).mono ?_); rintro e w9 ⟨rfl, hb⟩; refine ⟨_, rfl, ?_⟩; replace BK441 := aM (kB BK441 (Z69) hb); replace HB := aM (below_step (Z25) hb); (try clear hb); refine bD4 BK441 ?_; intros) | (go_at_call 36; (with_reducible refine (impl_StoreOK.calls k _ _ l0_3 aO _ ?Y1 ?Y2 A7.out).mono ?_); (case Y1 => have h_ := Kd.C_below Z.out HB.out; exact tC); (case Y2 => exact aA.out); rintro e bB ⟨rfl, hb⟩; replace BK441 := aM (kB BK441 (Z69) hb); replace HB := aM (below_step (Z25) hb); (try clear hb)))
    go_meet
    case rel => exact ⟨_, (!aO), (Z3), H', ⟨Z84⟩, ⟨Z69⟩, ⟨Z25⟩⟩
   ·rw [if_neg c6] at H
    have U := beq_eq_false_iff_ne.mpr c6
    have aG := bne_iff_ne.mpr c6
    (first | rw [U] | rw [aG] | (simp only [i64_w, i32_w]; rw [U]) | skip)
    have H' := aM H
    clear H
    refine bD4 BK441 ?_
    intros
    go_wp2_with (first | ((with_reducible refine gC 35 ?_); refine gL 11 func35 #[.agg #[.int .i64 D, .string s, .int .i64 y]] ?_; (with_reducible refine (impl_LogOK.calls D s y true _ A4.out).mono ?_); rintro e bC ⟨rfl, hb⟩; refine ⟨_, rfl, ?_⟩; replace BK441 := aM (kB BK441 (Z69) hb); replace HB := aM (below_step (Z25) hb); (try clear hb); refine bD4 BK441 ?_; intros))
    go_meet
    case rel => exact ⟨_, (true), (Z3), H', ⟨Z84⟩, ⟨Z69⟩, ⟨Z25⟩⟩
  ·replace c5 := Bool.eq_false_iff.mpr c5
   subst c5
   replace H := ifF H
   have H' := aM H
   clear H
   refine bD4 BK441 ?_
   intros
   go_wp2_with (first | ((with_reducible refine gC 35 ?_); refine gL 11 func35 #[.agg #[.int .i64 D, .string s, .int .i64 y]] ?_; (with_reducible refine (impl_LogOK.calls D s y false _ A4.out).mono ?_); rintro e bD ⟨rfl, hb⟩; refine ⟨_, rfl, ?_⟩; replace BK441 := aM (kB BK441 (Z69) hb); replace HB := aM (below_step (Z25) hb); (try clear hb)))
   go_meet
   case rel => exact ⟨_, (true), (Z3), H', ⟨Z84⟩, ⟨Z69⟩, ⟨Z25⟩⟩
 case rest =>
  clear aE
  obtain ⟨kq, aB, rfl, HA, HJ1, BK441, HB⟩ := hcut
  cases kq with
  | zero => exact absurd HA.out (by simp [impl_EngineOK.j0])
  | succ aH =>
   have H := HA.out
   clear HA
   simp only [impl_EngineOK.j0] at H
   by_cases aC : aB = true
   ·subst aC
    replace H := ifT H
    obtain rfl := oI H
    go_wp2
    go_ret
    exact ⟨Z1, Z25⟩
   ·replace aC := Bool.eq_false_iff.mpr aC
    subst aC
    replace H := ifF H
    obtain ⟨⟨aI, aJ, aD⟩, aK, H⟩ := bindA H
    try dsimp only at H
    by_cases J : aD = 0
    ·rw [if_pos J] at H
     have aW := beq_iff_eq.mpr J
     have aX := bne_eq_false_iff_eq.mpr J
     clear J
     obtain ⟨⟨aL, aP, aN⟩, aQ, H⟩ := bindA H
     try dsimp only at H
     by_cases M : aN = 0
     ·rw [if_pos M] at H
      have aY := beq_iff_eq.mpr M
      have aZ := bne_eq_false_iff_eq.mpr M
      clear M
      obtain ⟨a2, a3, H⟩ := bindA H
      try dsimp only at H
      obtain rfl := oI H
      refine bD4 BK441 ?_
      intros
      go_wp2_with (first | ((with_reducible refine gC 37 ?_); refine gL 32 func37 #[.agg #[.int .i64 D, .string s, .int .i64 y]] ?_; (with_reducible refine (impl_Log_records.calls D s y aI aJ aD _ aK.out).mono ?_); rintro e bE ⟨aR, rfl, I, hb⟩; refine ⟨_, rfl, ?_⟩; have HO446 := aM (Kd.R_lower I (below_size (Z25))); replace BK441 := aM (kB BK441 (Z69) hb); replace HB := aM (below_step (Z25) hb); (try clear hb); (try clear I); refine bD4 BK441 ?_; intros) | ((with_reducible refine gC 38 ?_); refine gL 41 func38 #[.agg #[.int .i64 D, .string s, .int .i64 y]] ?_; (with_reducible refine (impl_Log_replay.calls aH D s y aL aP aN _ aQ.out).mono ?_); rintro e bF ⟨a5, rfl, I, hb⟩; refine ⟨_, rfl, ?_⟩; have O := aM (Kd.S_lower (Kd.S_new' I (Kd.R_lt (Z158))) (below_size (Z25))); replace HO446 := aM (Kd.R_below (Z158) hb); replace BK441 := aM (kB BK441 (Z69) hb); replace HB := aM (below_step (Z25) hb); (try clear hb); (try clear I); refine bD4 BK441 ?_; intros; obtain ⟨bG, bH, a6⟩ := Kd.S_slice O.out; subst a6) | (go_at_call 39; (with_reducible refine (impl_sameStore.calls aH _ _ aL _ _ l0_3 a2 _ ?Y1 ?Y2 ?Y3 ?Y4 a3.out).mono ?_); (case Y1 => have h_ := (Kd.S_reads' O.out).2.2; exact tC); (case Y2 => exact (Kd.S_reads' O.out).2.1); (case Y3 => have h_ := Kd.C_below Z.out HB.out; exact tC); (case Y4 => exact aA.out); rintro e bI ⟨rfl, hb⟩; replace HO446 := aM (Kd.R_below (Z158) hb); replace O := aM (Kd.S_below (by (with_reducible repeat (first | apply Kd.S_alloc | apply Kd.S_drewN | apply Kd.S_drew)); exact O.out) hb); replace BK441 := aM (kB BK441 (Z69) hb); replace HB := aM (below_step (Z25) hb); (try clear hb)))
      go_ret
      exact ⟨Z1, Z25⟩
     ·rw [if_neg M] at H
      have aY := beq_eq_false_iff_ne.mpr M
      have aZ := bne_iff_ne.mpr M
      obtain rfl := oI H
      refine bD4 BK441 ?_
      intros
      go_wp2_with (first | ((with_reducible refine gC 37 ?_); refine gL 32 func37 #[.agg #[.int .i64 D, .string s, .int .i64 y]] ?_; (with_reducible refine (impl_Log_records.calls D s y aI aJ aD _ aK.out).mono ?_); rintro e bJ ⟨aR, rfl, I, hb⟩; refine ⟨_, rfl, ?_⟩; have HO446 := aM (Kd.R_lower I (below_size (Z25))); replace BK441 := aM (kB BK441 (Z69) hb); replace HB := aM (below_step (Z25) hb); (try clear hb); (try clear I); refine bD4 BK441 ?_; intros) | ((with_reducible refine gC 38 ?_); refine gL 41 func38 #[.agg #[.int .i64 D, .string s, .int .i64 y]] ?_; (with_reducible refine (impl_Log_replay.calls aH D s y aL aP aN _ aQ.out).mono ?_); rintro e bK ⟨a5, rfl, I, hb⟩; refine ⟨_, rfl, ?_⟩; have O := aM (Kd.S_lower (Kd.S_new' I (Kd.R_lt (Z158))) (below_size (Z25))); replace HO446 := aM (Kd.R_below (Z158) hb); replace BK441 := aM (kB BK441 (Z69) hb); replace HB := aM (below_step (Z25) hb); (try clear hb); (try clear I)))
      go_ret
      exact ⟨Z1, Z25⟩
    ·rw [if_neg J] at H
     have aW := beq_eq_false_iff_ne.mpr J
     have aX := bne_iff_ne.mpr J
     obtain rfl := oI H
     refine bD4 BK441 ?_
     intros
     go_wp2_with (first | ((with_reducible refine gC 37 ?_); refine gL 32 func37 #[.agg #[.int .i64 D, .string s, .int .i64 y]] ?_; (with_reducible refine (impl_Log_records.calls D s y aI aJ aD _ aK.out).mono ?_); rintro e bL ⟨aR, rfl, I, hb⟩; refine ⟨_, rfl, ?_⟩; have HO446 := aM (Kd.R_lower I (below_size (Z25))); replace BK441 := aM (kB BK441 (Z69) hb); replace HB := aM (below_step (Z25) hb); (try clear hb); (try clear I)))
     go_ret
     exact ⟨Z1, Z25⟩
def slices_Equal_int_int.l0 : Nat → List Int → List Int → Int → Int → Option (Bool)
 | 0, _, _, _, _ => none
 | k + 1, x0, x1, x12, s => if s < x12 then (if 0 ≤ s then (if s < (x0.length : Int) then (if s < (x1.length : Int) then (if (rd x0 s) = (rd x1 s) then (slices_Equal_int_int.l0 k x0 x1 x12 (wrap64 (s + 1))) else (some false)) else (none)) else (none)) else (none)) else (some true)
def slices_Equal_int_int.f (k : Nat) (l0 : List Int) (l1 : List Int) : Option (Bool) := if (l0.length : Int) = (l1.length : Int) then (slices_Equal_int_int.l0 k l0 l1 (l0.length : Int) 0) else (some false)
theorem slices_Equal_int_int.calls (k : Nat) (X : Option Addr) (c0 : Nat) (l0 : List Int) (Y : Option Addr) (c1 : Nat) (l1 : List Int) (r : Bool) (w : World) (hr0 : Kd.C (Kd.int .i64) w X l0.length l0) (Z : l0.length ≤ c0) (M : Kd.C (Kd.int .i64) w Y l1.length l1) (aA : l1.length ≤ c1) (h : slices_Equal_int_int.f k l0 l1 = some r) :
  Calls prog 73 #[.slice X l0.length c0, .slice Y l1.length c1] w fun e w' => e = .returned (.bool r) ∧ Drawn0 w w' := by
 replace hr0 := aM hr0
 replace Z := aM Z
 replace M := aM M
 replace aA := aM aA
 have H := h
 clear h
 unfold slices_Equal_int_int.f at H
 by_cases c3 : (l0.length : Int) = (l1.length : Int)
 ·rw [if_pos c3] at H
  have aB := beq_iff_eq.mpr c3
  have aC := bne_eq_false_iff_eq.mpr c3
  have aD : (l0.length == l1.length) = true := by first | simpa using c3 | (simp at c3 ⊢; omega)
  clear c3
  have H' := aM H
  clear H
  go_enter func73, ntmps73
  go_wp2
  repeat (go_quiet (fail); try go_wp2)
  go_loopg [13] k (fun kq aE w' => ∃ (s : Int), aE = .int .i64 s ∧ Aside0 (slices_Equal_int_int.l0 kq l0 l1 (l0.length : Int) s = some r) ∧ Aside0 (kq ≤ k) ∧ Drawn0 w w')
  case atStart => exact ⟨(0), (Z3), H', ⟨Nat.le_refl _⟩, Z9⟩
  case round =>
   clear H'
   (try clear c1); (try clear c3); (try clear aB); (try clear aC); (try clear aD)
   obtain ⟨s, rfl, HA, HK1, ⟨m1, rfl⟩⟩ := hrel
   cases gk with
   | zero => exact absurd HA.out (by simp [slices_Equal_int_int.l0])
   | succ k1 =>
    have H := HA.out
    clear HA
    simp only [slices_Equal_int_int.l0] at H
    by_cases c4 : s < (l0.length : Int)
    ·rw [if_pos c4] at H
     have aG := decide_eq_true c4
     clear c4
     obtain ⟨c5, H⟩ := ifS H
     have aO := decide_eq_true c5
     clear c5
     obtain ⟨c6, H⟩ := ifS H
     have aP := decide_eq_true c6
     clear c6
     obtain ⟨c7, H⟩ := ifS H
     have aQ := decide_eq_true c7
     clear c7
     by_cases c8 : (rd l0 s) = (rd l1 s)
     ·rw [if_pos c8] at H
      have aH := beq_iff_eq.mpr c8
      have aI := bne_eq_false_iff_eq.mpr c8
      clear c8
      have H' := aM H
      clear H
      have y : 0 ≤ (s : Int) := of_decide_eq_true (Z4)
      have D : s < (l0.length : Int) := of_decide_eq_true (Z4)
      obtain ⟨aJ, O, aK⟩ := Kd.at_int hr0.out s y D
      cases O
      replace y := eq_true y
      replace D := eq_true D
      have I : 0 ≤ (s : Int) := of_decide_eq_true (Z4)
      have J : s < (l1.length : Int) := of_decide_eq_true (Z4)
      obtain ⟨aL, U, aN⟩ := Kd.at_int M.out s I J
      cases U
      replace I := eq_true I
      replace J := eq_true J
      go_wp2
      repeat (go_quiet (fail); try go_wp2)
      go_roundg k1
      case measure => have := HK1.out; omega
      case rel => exact ⟨(wrap64 (s + 1)), (Z3), H', ⟨Z125⟩, Z9⟩
     ·rw [if_neg c8] at H
      have aH := beq_eq_false_iff_ne.mpr c8
      have aI := bne_iff_ne.mpr c8
      obtain rfl := oI H
      have y : 0 ≤ (s : Int) := of_decide_eq_true (Z4)
      have D : s < (l0.length : Int) := of_decide_eq_true (Z4)
      obtain ⟨aJ, O, aK⟩ := Kd.at_int hr0.out s y D
      cases O
      replace y := eq_true y
      replace D := eq_true D
      have I : 0 ≤ (s : Int) := of_decide_eq_true (Z4)
      have J : s < (l1.length : Int) := of_decide_eq_true (Z4)
      obtain ⟨aL, U, aN⟩ := Kd.at_int M.out s I J
      cases U
      replace I := eq_true I
      replace J := eq_true J
      go_wp2
      repeat (go_quiet (fail); try go_wp2)
      go_ret
      exact ⟨Z3, Z9⟩
    ·rw [if_neg c4] at H
     have aG := decide_eq_false c4
     clear c4
     obtain rfl := oI H
     go_wp2
     repeat (go_quiet (fail); try go_wp2)
     go_ret
     exact ⟨Z3, Z9⟩
 ·rw [if_neg c3] at H
  have aB := beq_eq_false_iff_ne.mpr c3
  have aC := bne_iff_ne.mpr c3
  have aD : (l0.length == l1.length) = false := by first | simpa using c3 | (simp at c3 ⊢; omega)
  obtain rfl := oI H
  go_enter func73, ntmps73
  go_wp2
  repeat (go_quiet (fail); try go_wp2)
  go_ret
  exact ⟨Z3, Z9⟩
def impl_sameImap.f (k : Nat) (s : Int) (y : ByteArray) (D : Bool) (l0_3 : List Int) (I : Int) (J : ByteArray) (M : Bool) (O : List Int) : Option (Bool) := if s = I then (if y.toList = J.toList then (if (D == M) = true then ((slices_Equal_int_int.f k l0_3 O).bind fun U => (some U)) else (some false)) else (some false)) else (some false)
theorem impl_sameImap.calls (k : Nat) (I : Int) (J : ByteArray) (s : Bool) (Z : Option Addr) (aA : Nat) (l0_3 : List Int) (M : Int) (O : ByteArray) (y : Bool) (aB : Option Addr) (aC : Nat) (D : List Int) (r : Bool) (w : World) (aD : Kd.C (Kd.int .i64) w Z l0_3.length l0_3) (aE : l0_3.length ≤ aA) (aF : Kd.C (Kd.int .i64) w aB D.length D) (aG : D.length ≤ aC) (h : impl_sameImap.f k I J s l0_3 M O y D = some r) :
  Calls prog 41 #[.agg #[.int .i64 I, .string J, .bool s, .slice Z l0_3.length aA], .agg #[.int .i64 M, .string O, .bool y, .slice aB D.length aC]] w fun e w' => e = .returned (.bool r) ∧ Below w.heap.size w w' := by
 have aV := underlying48
 replace aD := aM aD
 replace aE := aM aE
 replace aF := aM aF
 replace aG := aM aG
 have HB := aM (Below.refl w.heap.size w)
 have H := h
 clear h
 unfold impl_sameImap.f at H
 by_cases c3 : I = M
 ·rw [if_pos c3] at H
  have aL := beq_iff_eq.mpr c3
  have aN := bne_eq_false_iff_eq.mpr c3
  clear c3
  by_cases c4 : J.toList = O.toList
  ·rw [if_pos c4] at H
   have aO := beq_iff_eq.mpr c4
   have aP := bne_eq_false_iff_eq.mpr c4
   clear c4
   by_cases c5 : (s == y) = true
   ·rw [if_pos c5] at H
    have aQ : (s == y) = true := c5
    (try (have aR : decide (s = y) = true := by simpa using c5))
    (try (have aS : (s == y) = true := by simpa using c5))
    clear c5
    obtain ⟨aT, A6, H⟩ := bindA H
    try dsimp only at H
    obtain rfl := oI H
    go_enter func41, ntmps41
    go_wp2_with (first | ((with_reducible refine gD 2 ?_); refine bxF w 2 #[.int .i64 I, .string J, .bool s, .slice Z l0_3.length aA] 48 (Z0) ?_; intro aH hg w7 BK457 aI GE457 HB hb; clear hb hg) | ((with_reducible refine gD 3 ?_); refine bxF w 3 #[.int .i64 M, .string O, .bool y, .slice aB D.length aC] 48 (Z46) ?_; intro aJ hg w8 U aK GE458 HB hb; have X := aM ((nL BK457 hg (Z75))); have Y := aM ((nG BK457 hg (Z75))); replace BK457 := aM (kB BK457 (Z75) hb); clear hb hg; have aX := X.out; have aY := Y.out; refine bD4 BK457 ?_; intros; refine bD4 U ?_; intros) | (go_at_call 73; (with_reducible refine (slices_Equal_int_int.calls k _ _ l0_3 _ _ D aT _ ?Y1 ?Y2 ?Y3 ?Y4 A6.out).mono ?_); (case Y1 => have h_ := Kd.C_below aD.out HB.out; exact tC); (case Y2 => exact aE.out); (case Y3 => have h_ := Kd.C_below aF.out HB.out; exact tC); (case Y4 => exact aG.out); rintro e w' ⟨rfl, ⟨nd, rfl⟩⟩))
    go_ret
    exact ⟨Z1, Z119⟩
   ·rw [if_neg c5] at H
    have aQ : (s == y) = false := by simpa using c5
    (try (have aR : decide (s = y) = false := by simpa using c5))
    (try (have aS : (s == y) = false := by simpa using c5))
    (try (have aZ : ¬ (s = y) := by simpa using c5))
    clear c5
    obtain rfl := oI H
    go_enter func41, ntmps41
    go_wp2_with (first | ((with_reducible refine gD 2 ?_); refine bxF w 2 #[.int .i64 I, .string J, .bool s, .slice Z l0_3.length aA] 48 (Z0) ?_; intro aH hg a2 BK457 aI GE457 HB hb; clear hb hg) | ((with_reducible refine gD 3 ?_); refine bxF w 3 #[.int .i64 M, .string O, .bool y, .slice aB D.length aC] 48 (Z46) ?_; intro aJ hg a3 U aK GE458 HB hb; have X := aM ((nL BK457 hg (Z75))); have Y := aM ((nG BK457 hg (Z75))); replace BK457 := aM (kB BK457 (Z75) hb); clear hb hg; have a5 := X.out; have a6 := Y.out; refine bD4 BK457 ?_; intros; refine bD4 U ?_; intros))
    go_ret
    exact ⟨Z1, Z119⟩
  ·rw [if_neg c4] at H
   have aO := beq_eq_false_iff_ne.mpr c4
   have aP := bne_iff_ne.mpr c4
   obtain rfl := oI H
   go_enter func41, ntmps41
   go_wp2_with (first | ((with_reducible refine gD 2 ?_); refine bxF w 2 #[.int .i64 I, .string J, .bool s, .slice Z l0_3.length aA] 48 (Z0) ?_; intro aH hg a7 BK457 aI GE457 HB hb; clear hb hg) | ((with_reducible refine gD 3 ?_); refine bxF w 3 #[.int .i64 M, .string O, .bool y, .slice aB D.length aC] 48 (Z46) ?_; intro aJ hg a8 U aK GE458 HB hb; have X := aM ((nL BK457 hg (Z75))); have Y := aM ((nG BK457 hg (Z75))); replace BK457 := aM (kB BK457 (Z75) hb); clear hb hg; have a9 := X.out; have bA := Y.out; refine bD4 BK457 ?_; intros; refine bD4 U ?_; intros))
   go_ret
   exact ⟨Z1, Z119⟩
 ·rw [if_neg c3] at H
  have aL := beq_eq_false_iff_ne.mpr c3
  have aN := bne_iff_ne.mpr c3
  obtain rfl := oI H
  go_enter func41, ntmps41
  go_wp2_with (first | ((with_reducible refine gD 2 ?_); refine bxF w 2 #[.int .i64 I, .string J, .bool s, .slice Z l0_3.length aA] 48 (Z0) ?_; intro aH hg bB BK457 aI GE457 HB hb; clear hb hg) | ((with_reducible refine gD 3 ?_); refine bxF w 3 #[.int .i64 M, .string O, .bool y, .slice aB D.length aC] 48 (Z46) ?_; intro aJ hg bC U aK GE458 HB hb; have X := aM ((nL BK457 hg (Z75))); have Y := aM ((nG BK457 hg (Z75))); replace BK457 := aM (kB BK457 (Z75) hb); clear hb hg; have bD := X.out; have bE := Y.out; refine bD4 BK457 ?_; intros; refine bD4 U ?_; intros))
  go_ret
  exact ⟨Z1, Z119⟩
def impl_viewOK.l0 : Nat → Int → List Int → Int → Int → Option (Bool)
 | 0, _, _, _, _ => none
 | k + 1, x3, x6, x7, x8 => if x8 < x7 then (if 0 ≤ x8 then (if x8 < (x6.length : Int) then ((impl_within.f (rd x6 x8) (wrap64 (x3 + 1)) 1000).bind fun s => (if s = true then (impl_viewOK.l0 k (rd x6 x8) x6 x7 (wrap64 (x8 + 1))) else (some false))) else (none)) else (none)) else (some true)
def impl_viewOK.f (k : Nat) (l0 : List Int) : Option (Bool) := impl_viewOK.l0 k 0 l0 (l0.length : Int) 0
theorem impl_viewOK.calls (k : Nat) (M : Option Addr) (c0 : Nat) (l0 : List Int) (r : Bool) (w : World) (hr0 : Kd.C (Kd.int .i64) w M l0.length l0) (O : l0.length ≤ c0) (h : impl_viewOK.f k l0 = some r) :
  Calls prog 107 #[.slice M l0.length c0] w fun e w' => e = .returned (.bool r) ∧ Drawn0 w w' := by
 replace hr0 := aM hr0
 replace O := aM O
 have H := h
 clear h
 unfold impl_viewOK.f at H
 have H' := aM H
 clear H
 go_enter func107, ntmps107
 go_wp2
 go_loopg [3, 8] k (fun kq X Y w' => ∃ (y : Int) (s : Int), X = .int .i64 y ∧ Y = .int .i64 s ∧ Aside0 (impl_viewOK.l0 kq y l0 (l0.length : Int) s = some r) ∧ Aside0 (kq ≤ k) ∧ Drawn0 w w')
 case atStart => exact ⟨(0), (0), (Z3), (Z3), H', ⟨Nat.le_refl _⟩, Z9⟩
 case round =>
  clear H'
  obtain ⟨y, s, rfl, rfl, HA, HK1, ⟨m1, rfl⟩⟩ := hrel
  cases gk with
  | zero => exact absurd HA.out (by simp [impl_viewOK.l0])
  | succ Z =>
   have H := HA.out
   clear HA
   simp only [impl_viewOK.l0] at H
   by_cases c2 : s < (l0.length : Int)
   ·rw [if_pos c2] at H
    have aA := decide_eq_true c2
    clear c2
    obtain ⟨c3, H⟩ := ifS H
    have aE := decide_eq_true c3
    clear c3
    obtain ⟨c4, H⟩ := ifS H
    have aF := decide_eq_true c4
    clear c4
    obtain ⟨aB, U, H⟩ := bindA H
    try dsimp only at H
    by_cases c6 : aB = true
    ·subst c6
     replace H := ifT H
     have H' := aM H
     clear H
     have D : 0 ≤ (s : Int) := of_decide_eq_true (Z4)
     have I : s < (l0.length : Int) := of_decide_eq_true (Z4)
     obtain ⟨aC, J, aD⟩ := Kd.at_int hr0.out s D I
     cases J
     replace D := eq_true D
     replace I := eq_true I
     go_wp2_with (first | ((with_reducible refine gC 61 ?_); refine gL 15 func61 #[.int .i64 (rd l0 s), .int .i64 (wrap64 (y + 1)), .int .i64 1000] ?_; (with_reducible refine (impl_within.calls (rd l0 s) (wrap64 (y + 1)) 1000 true _ U.out).mono ?_); rintro e w' ⟨rfl, ⟨nd, rfl⟩⟩; refine ⟨_, rfl, ?_⟩))
     go_roundg Z
     case measure => have := HK1.out; omega
     case rel => exact ⟨(rd l0 s), (wrap64 (s + 1)), (Z3), (Z3), H', ⟨Z125⟩, Z9⟩
    ·replace c6 := Bool.eq_false_iff.mpr c6
     subst c6
     replace H := ifF H
     obtain rfl := oI H
     have D : 0 ≤ (s : Int) := of_decide_eq_true (Z4)
     have I : s < (l0.length : Int) := of_decide_eq_true (Z4)
     obtain ⟨aC, J, aD⟩ := Kd.at_int hr0.out s D I
     cases J
     replace D := eq_true D
     replace I := eq_true I
     go_wp2_with (first | ((with_reducible refine gC 61 ?_); refine gL 15 func61 #[.int .i64 (rd l0 s), .int .i64 (wrap64 (y + 1)), .int .i64 1000] ?_; (with_reducible refine (impl_within.calls (rd l0 s) (wrap64 (y + 1)) 1000 false _ U.out).mono ?_); rintro e w' ⟨rfl, ⟨nd, rfl⟩⟩; refine ⟨_, rfl, ?_⟩))
     go_ret
     exact ⟨Z3, Z9⟩
   ·rw [if_neg c2] at H
    have aA := decide_eq_false c2
    clear c2
    obtain rfl := oI H
    go_wp2
    go_ret
    exact ⟨Z3, Z9⟩
def impl_ImapOK.f (k : Nat) (s : Int) (y : ByteArray) (D : Bool) (l0_3 : List Int) : Option (Bool) := if s = 3 then ((impl_NameOK.f k y).bind fun I => (if I = true then ((impl_viewOK.f k l0_3).bind fun J => (some J)) else (some false))) else ((impl_within.f s 0 2).bind fun M => (if M = true then (if y.toList = ([] : List UInt8) then (if D = true then (some false) else (some ((l0_3.length : Int) == 0))) else (some false)) else (some false)))
theorem impl_ImapOK.calls (k : Nat) (s : Int) (y : ByteArray) (M : Bool) (I : Option Addr) (J : Nat) (l0_3 : List Int) (r : Bool) (w : World) (aB : Kd.C (Kd.int .i64) w I l0_3.length l0_3) (aC : l0_3.length ≤ J) (h : impl_ImapOK.f k s y M l0_3 = some r) :
  Calls prog 74 #[.agg #[.int .i64 s, .string y, .bool M, .slice I l0_3.length J]] w fun e w' => e = .returned (.bool r) ∧ Below w.heap.size w w' := by
 have aN := underlying48
 replace aB := aM aB
 replace aC := aM aC
 have HB := aM (Below.refl w.heap.size w)
 have H := h
 clear h
 unfold impl_ImapOK.f at H
 by_cases c2 : s = 3
 ·rw [if_pos c2] at H
  have aE := beq_iff_eq.mpr c2
  have aF := bne_eq_false_iff_eq.mpr c2
  clear c2
  obtain ⟨aG, A3, H⟩ := bindA H
  try dsimp only at H
  by_cases c4 : aG = true
  ·subst c4
   replace H := ifT H
   obtain ⟨aH, A5, H⟩ := bindA H
   try dsimp only at H
   obtain rfl := oI H
   go_enter func74, ntmps74
   go_wp2_with (first | ((with_reducible refine gD 1 ?_); (try (refine gate_guard (Z117) ?_; dsimp only)); refine bxF w 1 #[.int .i64 s, .string y, .bool M, .slice I l0_3.length J] 48 (Z0) ?_; intro U hg w6 D X GE462 HB hb; clear hb hg; refine bD4 D ?_; intros) | ((with_reducible refine gC 75 ?_); refine gL 8 func75 #[.string y] ?_; (with_reducible refine (impl_NameOK.calls k y true _ A3.out).mono ?_); rintro e w' ⟨rfl, ⟨nd, rfl⟩⟩; refine ⟨_, rfl, ?_⟩) | (go_at_call 107; (with_reducible refine (impl_viewOK.calls k _ _ l0_3 aH _ ?Y1 ?Y2 A5.out).mono ?_); (case Y1 => repeat (first | exact (Kd.C_below aB.out (Z88)) | (with_reducible refine Kd.C_alloc ?_ _) | (with_reducible refine Kd.C_drewN ?_ _) | (with_reducible refine Kd.C_drew ?_))); (case Y2 => exact aC.out); rintro e w' ⟨rfl, ⟨nd, rfl⟩⟩))
   go_ret
   exact ⟨Z1, Z88⟩
  ·replace c4 := Bool.eq_false_iff.mpr c4
   subst c4
   replace H := ifF H
   obtain rfl := oI H
   go_enter func74, ntmps74
   go_wp2_with (first | ((with_reducible refine gD 1 ?_); (try (refine gate_guard (Z117) ?_; dsimp only)); refine bxF w 1 #[.int .i64 s, .string y, .bool M, .slice I l0_3.length J] 48 (Z0) ?_; intro U hg w8 D X GE462 HB hb; clear hb hg; refine bD4 D ?_; intros) | ((with_reducible refine gC 75 ?_); refine gL 8 func75 #[.string y] ?_; (with_reducible refine (impl_NameOK.calls k y false _ A3.out).mono ?_); rintro e w' ⟨rfl, ⟨nd, rfl⟩⟩; refine ⟨_, rfl, ?_⟩))
   go_ret
   exact ⟨Z1, Z88⟩
 ·rw [if_neg c2] at H
  have aE := beq_eq_false_iff_ne.mpr c2
  have aF := bne_iff_ne.mpr c2
  obtain ⟨aJ, Y, H⟩ := bindA H
  try dsimp only at H
  by_cases Z : aJ = true
  ·subst Z
   replace H := ifT H
   by_cases O : y.toList = ([] : List UInt8)
   ·rw [if_pos O] at H
    have aK := beq_iff_eq.mpr O
    have aL := bne_eq_false_iff_eq.mpr O
    clear O
    by_cases aA : M = true
    ·subst aA
     replace H := ifT H
     obtain rfl := oI H
     go_enter func74, ntmps74
     go_wp2_with (first | ((with_reducible refine gD 1 ?_); (try (refine gate_guard (Z117) ?_; dsimp only)); refine bxF w 1 #[.int .i64 s, .string y, .bool true, .slice I l0_3.length J] 48 (Z0) ?_; intro U hg aP D X GE462 HB hb; clear hb hg; refine bD4 D ?_; intros) | ((with_reducible refine gC 61 ?_); refine gL 16 func61 #[.int .i64 s, .int .i64 0, .int .i64 2] ?_; (with_reducible refine (impl_within.calls s 0 2 true _ Y.out).mono ?_); rintro e w' ⟨rfl, ⟨nd, rfl⟩⟩; refine ⟨_, rfl, ?_⟩))
     go_ret
     exact ⟨Z1, Z88⟩
    ·replace aA := Bool.eq_false_iff.mpr aA
     subst aA
     replace H := ifF H
     obtain rfl := oI H
     go_enter func74, ntmps74
     go_wp2_with (first | ((with_reducible refine gD 1 ?_); (try (refine gate_guard (Z117) ?_; dsimp only)); refine bxF w 1 #[.int .i64 s, .string y, .bool false, .slice I l0_3.length J] 48 (Z0) ?_; intro U hg aQ D X GE462 HB hb; clear hb hg; refine bD4 D ?_; intros) | ((with_reducible refine gC 61 ?_); refine gL 16 func61 #[.int .i64 s, .int .i64 0, .int .i64 2] ?_; (with_reducible refine (impl_within.calls s 0 2 true _ Y.out).mono ?_); rintro e w' ⟨rfl, ⟨nd, rfl⟩⟩; refine ⟨_, rfl, ?_⟩))
     go_ret
     exact ⟨Z1, Z88⟩
   ·rw [if_neg O] at H
    have aK := beq_eq_false_iff_ne.mpr O
    have aL := bne_iff_ne.mpr O
    obtain rfl := oI H
    go_enter func74, ntmps74
    go_wp2_with (first | ((with_reducible refine gD 1 ?_); (try (refine gate_guard (Z117) ?_; dsimp only)); refine bxF w 1 #[.int .i64 s, .string y, .bool M, .slice I l0_3.length J] 48 (Z0) ?_; intro U hg aR D X GE462 HB hb; clear hb hg; refine bD4 D ?_; intros) | ((with_reducible refine gC 61 ?_); refine gL 16 func61 #[.int .i64 s, .int .i64 0, .int .i64 2] ?_; (with_reducible refine (impl_within.calls s 0 2 true _ Y.out).mono ?_); rintro e w' ⟨rfl, ⟨nd, rfl⟩⟩; refine ⟨_, rfl, ?_⟩))
    go_ret
    exact ⟨Z1, Z88⟩
  ·replace Z := Bool.eq_false_iff.mpr Z
   subst Z
   replace H := ifF H
   obtain rfl := oI H
   go_enter func74, ntmps74
   go_wp2_with (first | ((with_reducible refine gD 1 ?_); (try (refine gate_guard (Z117) ?_; dsimp only)); refine bxF w 1 #[.int .i64 s, .string y, .bool M, .slice I l0_3.length J] 48 (Z0) ?_; intro U hg aS D X GE462 HB hb; clear hb hg; refine bD4 D ?_; intros) | ((with_reducible refine gC 61 ?_); refine gL 16 func61 #[.int .i64 s, .int .i64 0, .int .i64 2] ?_; (with_reducible refine (impl_within.calls s 0 2 false _ Y.out).mono ?_); rintro e w' ⟨rfl, ⟨nd, rfl⟩⟩; refine ⟨_, rfl, ?_⟩))
   go_ret
   exact ⟨Z1, Z88⟩
def impl_sessionOK.f (k : Nat) (l0 : List (S98)) (s : Int) (y : ByteArray) (D : Bool) (I : List Int) : Option (Bool) := (impl_ImapOK.f k s y D I).bind fun J => (if J = true then (if s = 3 then ((impl_boxIndex.f l0 y).bind fun M => (some (decide (M ≥ 0)))) else (some true)) else (some false))
theorem impl_sessionOK.calls (k : Nat) (Z : Option Addr) (c0 : Nat) (l0 : List (S98)) (y : Int) (D : ByteArray) (I : Bool) (J : Option Addr) (M : Nat) (s : List Int) (r : Bool) (w : World) (hr0 : Kd.C k98 w Z l0.length l0) (X : l0.length ≤ c0) (O : Kd.C (Kd.int .i64) w J s.length s) (U : s.length ≤ M) (h : impl_sessionOK.f k l0 y D I s = some r) :
  Calls prog 42 #[.slice Z l0.length c0, .agg #[.int .i64 y, .string D, .bool I, .slice J s.length M]] w fun e w' => e = .returned (.bool r) ∧ Below w.heap.size w w' := by
 have aH := underlying48
 replace hr0 := aM hr0
 replace X := aM X
 replace O := aM O
 replace U := aM U
 have HB := aM (Below.refl w.heap.size w)
 have H := h
 clear h
 unfold impl_sessionOK.f at H
 obtain ⟨aC, Y, H⟩ := bindA H
 try dsimp only at H
 by_cases c4 : aC = true
 ·subst c4
  replace H := ifT H
  by_cases c5 : y = 3
  ·rw [if_pos c5] at H
   have aD := beq_iff_eq.mpr c5
   have aE := bne_eq_false_iff_eq.mpr c5
   clear c5
   obtain ⟨aF, A6, H⟩ := bindA H
   try dsimp only at H
   obtain rfl := oI H
   go_enter func42, ntmps42
   go_wp2_with (first | ((with_reducible refine gD 3 ?_); refine bxF w 3 #[.int .i64 y, .string D, .bool I, .slice J s.length M] 48 (Z0) ?_; intro aA hg w7 BK466 aB GE466 HB hb; clear hb hg; refine bD4 BK466 ?_; intros) | ((with_reducible refine gC 74 ?_); refine gL 6 func74 #[.agg #[.int .i64 y, .string D, .bool I, .slice J s.length M]] ?_; (with_reducible refine (impl_ImapOK.calls k y D I _ _ s true _ ?Y1 ?Y2 Y.out).mono ?_); (case Y1 => have h_ := Kd.C_below O.out HB.out; exact tC); (case Y2 => exact U.out); rintro e w9 ⟨rfl, hb⟩; refine ⟨_, rfl, ?_⟩; replace BK466 := aM (kB BK466 (Z180) hb); replace HB := aM (below_step (Z89) hb); (try clear hb); refine bD4 BK466 ?_; intros) | (go_at_call 63; (with_reducible refine (impl_boxIndex.calls _ _ l0 D aF _ ?Y1 ?Y2 A6.out).mono ?_); (case Y1 => have h_ := Kd.C_below hr0.out HB.out; exact tC); (case Y2 => exact X.out); rintro e aJ ⟨rfl, hb⟩; replace BK466 := aM (kB BK466 (Z180) hb); replace HB := aM (below_step (Z89) hb); (try clear hb)))
   go_ret
   exact ⟨Z1, Z89⟩
  ·rw [if_neg c5] at H
   have aD := beq_eq_false_iff_ne.mpr c5
   have aE := bne_iff_ne.mpr c5
   obtain rfl := oI H
   go_enter func42, ntmps42
   go_wp2_with (first | ((with_reducible refine gD 3 ?_); refine bxF w 3 #[.int .i64 y, .string D, .bool I, .slice J s.length M] 48 (Z0) ?_; intro aA hg aK BK466 aB GE466 HB hb; clear hb hg; refine bD4 BK466 ?_; intros) | ((with_reducible refine gC 74 ?_); refine gL 6 func74 #[.agg #[.int .i64 y, .string D, .bool I, .slice J s.length M]] ?_; (with_reducible refine (impl_ImapOK.calls k y D I _ _ s true _ ?Y1 ?Y2 Y.out).mono ?_); (case Y1 => have h_ := Kd.C_below O.out HB.out; exact tC); (case Y2 => exact U.out); rintro e aL ⟨rfl, hb⟩; refine ⟨_, rfl, ?_⟩; replace BK466 := aM (kB BK466 (Z180) hb); replace HB := aM (below_step (Z89) hb); (try clear hb); refine bD4 BK466 ?_; intros))
   go_ret
   exact ⟨Z1, Z89⟩
 ·replace c4 := Bool.eq_false_iff.mpr c4
  subst c4
  replace H := ifF H
  obtain rfl := oI H
  go_enter func42, ntmps42
  go_wp2_with (first | ((with_reducible refine gD 3 ?_); refine bxF w 3 #[.int .i64 y, .string D, .bool I, .slice J s.length M] 48 (Z0) ?_; intro aA hg aN BK466 aB GE466 HB hb; clear hb hg; refine bD4 BK466 ?_; intros) | ((with_reducible refine gC 74 ?_); refine gL 6 func74 #[.agg #[.int .i64 y, .string D, .bool I, .slice J s.length M]] ?_; (with_reducible refine (impl_ImapOK.calls k y D I _ _ s false _ ?Y1 ?Y2 Y.out).mono ?_); (case Y1 => have h_ := Kd.C_below O.out HB.out; exact tC); (case Y2 => exact U.out); rintro e aO ⟨rfl, hb⟩; refine ⟨_, rfl, ?_⟩; replace BK466 := aM (kB BK466 (Z180) hb); replace HB := aM (below_step (Z89) hb); (try clear hb)))
  go_ret
  exact ⟨Z1, Z89⟩
attribute [local go_sem high] eqA50
def impl_nntpOK.j0 : Nat → Bool → ByteArray → Int → Bool → Option (Bool)
 | 0, _, _, _, _ => none
 | k + 1, x9, s, y, J => if x9 = true then (if s.toList = ([] : List UInt8) then (some (y == 0)) else (some false)) else ((impl_NameOK.f k s).bind fun D => (if D = true then ((impl_within.f y 0 1000).bind fun I => (some I)) else (some false)))
def impl_nntpOK.f (k : Nat) (s : ByteArray) (D : Int) (y : Bool) : Option (Bool) := if s.toList = ([] : List UInt8) then (impl_nntpOK.j0 k true s D y) else (impl_nntpOK.j0 k y s D y)
theorem impl_nntpOK.calls (k : Nat) (s : ByteArray) (D : Int) (I : Bool) (r : Bool) (w : World) (h : impl_nntpOK.f k s D I = some r) :
  Calls prog 43 #[.agg #[.string s, .int .i64 D, .bool I]] w fun e w' => e = .returned (.bool r) ∧ Below w.heap.size w w' := by
 have aH := underlying50
 have HB := aM (Below.refl w.heap.size w)
 have H := h
 clear h
 unfold impl_nntpOK.f at H
 have U := aM H
 clear H
 go_enter func43, ntmps43
 go_upto_region 1 with (first | ((with_reducible refine gD 1 ?_); refine bxF w 1 #[.string s, .int .i64 D, .bool I] 50 (Z0) ?_; intro aA hg w3 y aI GE469 HB hb; clear hb hg))
 (try simp only [Act.put, List.setIfInBounds_toArray, List.set_cons_zero, List.set_cons_succ])
 go_cut [9] (fun v9 wc => ∃ (kq : Nat) (M : Bool), v9 = .bool M ∧ Aside0 (impl_nntpOK.j0 kq M s D I = some r) ∧ Aside0 (kq ≤ k) ∧ Aside0 (wc.heap[aA]? = some (.cells #[.string s, .int .i64 D, .bool I] 50 (0, 0))) ∧ Aside0 (Below w.heap.size w wc))
 case first =>
  have H := U.out
  clear U
  by_cases c4 : s.toList = ([] : List UInt8)
  ·rw [if_pos c4] at H
   have J := beq_iff_eq.mpr c4
   have X := bne_eq_false_iff_eq.mpr c4
   clear c4
   (first | rw [J] | rw [X] | (simp only [i64_w, i32_w]; rw [J]) | skip)
   have H' := aM H
   clear H
   refine bD3 y ?_
   intros
   go_wp2
   go_meet
   case rel => exact ⟨_, (true), (Z3), H', ⟨Z84⟩, ⟨zB⟩, ⟨Z103⟩⟩
  ·rw [if_neg c4] at H
   have J := beq_eq_false_iff_ne.mpr c4
   have X := bne_iff_ne.mpr c4
   (first | rw [J] | rw [X] | (simp only [i64_w, i32_w]; rw [J]) | skip)
   have H' := aM H
   clear H
   refine bD3 y ?_
   intros
   go_wp2
   go_meet
   case rel => exact ⟨_, (I), (Z3), H', ⟨Z84⟩, ⟨zB⟩, ⟨Z103⟩⟩
 case rest =>
  clear U
  obtain ⟨kq, M, rfl, HA, HJ1, y, HB⟩ := hcut
  cases kq with
  | zero => exact absurd HA.out (by simp [impl_nntpOK.j0])
  | succ Y =>
   have H := HA.out
   clear HA
   simp only [impl_nntpOK.j0] at H
   by_cases c7 : M = true
   ·subst c7
    replace H := ifT H
    by_cases c8 : s.toList = ([] : List UInt8)
    ·rw [if_pos c8] at H
     have aC := beq_iff_eq.mpr c8
     have aD := bne_eq_false_iff_eq.mpr c8
     clear c8
     obtain rfl := oI H
     refine bD3 y ?_
     intros
     go_wp2
     go_ret
     exact ⟨Z1, Z103⟩
    ·rw [if_neg c8] at H
     have aC := beq_eq_false_iff_ne.mpr c8
     have aD := bne_iff_ne.mpr c8
     obtain rfl := oI H
     refine bD3 y ?_
     intros
     go_wp2
     go_ret
     exact ⟨Z1, Z103⟩
   ·replace c7 := Bool.eq_false_iff.mpr c7
    subst c7
    replace H := ifF H
    obtain ⟨aE, Z, H⟩ := bindA H
    try dsimp only at H
    by_cases O : aE = true
    ·subst O
     replace H := ifT H
     obtain ⟨aF, aG, H⟩ := bindA H
     try dsimp only at H
     obtain rfl := oI H
     refine bD3 y ?_
     intros
     go_wp2_with (first | ((with_reducible refine gC 75 ?_); refine gL 20 func75 #[.string s] ?_; (with_reducible refine (impl_NameOK.calls Y s true _ Z.out).mono ?_); rintro e w' ⟨rfl, ⟨nd, rfl⟩⟩; refine ⟨_, rfl, ?_⟩) | (go_at_call 61; (with_reducible refine (impl_within.calls D 0 1000 aF _ aG.out).mono ?_); rintro e w' ⟨rfl, ⟨nd, rfl⟩⟩))
     go_ret
     exact ⟨Z1, Z103⟩
    ·replace O := Bool.eq_false_iff.mpr O
     subst O
     replace H := ifF H
     obtain rfl := oI H
     refine bD3 y ?_
     intros
     go_wp2_with (first | ((with_reducible refine gC 75 ?_); refine gL 20 func75 #[.string s] ?_; (with_reducible refine (impl_NameOK.calls Y s false _ Z.out).mono ?_); rintro e w' ⟨rfl, ⟨nd, rfl⟩⟩; refine ⟨_, rfl, ?_⟩))
     go_ret
     exact ⟨Z1, Z103⟩
def impl_connOK.f (k : Nat) (l0 : List (S98)) (D : Int) (X : ByteArray) (s : Int) (I : ByteArray) (J : Bool) (M : List Int) (O : ByteArray) (U : Int) (y : Bool) : Option (Bool) := if (X.size : Int) > 8000 then (some false) else (if D = 0 then (if X.toList = ([] : List UInt8) then ((impl_sameImap.f k s I J M 0 (⟨#[]⟩ : ByteArray) false ([] : List Int)).bind fun Y => (if Y = true then (some (O.toList == ([] : List UInt8) && (U == 0 && (!y)))) else (some false))) else (some false)) else (if D = 1 then ((impl_sessionOK.f k l0 s I J M).bind fun Z => (if Z = true then (if s = 0 then (some false) else (some (O.toList == ([] : List UInt8) && (U == 0 && (!y))))) else (some false))) else (if D = 2 then ((impl_nntpOK.f k O U y).bind fun aA => (if aA = true then (if y = true then (some false) else ((impl_sameImap.f k s I J M 0 (⟨#[]⟩ : ByteArray) false ([] : List Int)).bind fun aB => (some aB))) else (some false))) else (some false))))
theorem impl_connOK.calls (k : Nat) (A0 : Option Addr) (c0 : Nat) (l0 : List (S98)) (U : Int) (J : ByteArray) (y : Int) (D : ByteArray) (I : Bool) (X : Option Addr) (Y : Nat) (s : List Int) (M : ByteArray) (O : Int) (Z : Bool) (r : Bool) (w : World) (hr0 : Kd.C k98 w A0 l0.length l0) (aI : l0.length ≤ c0) (aC : Kd.C (Kd.int .i64) w X s.length s) (aD : s.length ≤ Y) (h : impl_connOK.f k l0 U J y D I s M O Z = some r) :
  Calls prog 18 #[.slice A0 l0.length c0, .agg #[.int .i64 U, .string J, .int .i64 y, .string D, .bool I, .slice X s.length Y, .string M, .int .i64 O, .bool Z]] w fun e w' => e = .returned (.bool r) ∧ Below w.heap.size w w' := by
 have bA := underlying52
 have bB := underlying48
 have bC := underlying50
 replace hr0 := aM hr0
 replace aI := aM aI
 replace aC := aM aC
 replace aD := aM aD
 have HB := aM (Below.refl w.heap.size w)
 have H := h
 clear h
 unfold impl_connOK.f at H
 by_cases c3 : (J.size : Int) > 8000
 ·rw [if_pos c3] at H
  have aQ : decide (8000 < (J.size : Int)) = true := decide_eq_true c3
  have aR : decide (8000 < J.size) = true := decide_eq_true (Z42)
  clear c3
  obtain rfl := oI H
  go_enter func18, ntmps18
  go_wp2_with (first | ((with_reducible refine gD 3 ?_); refine bxF w 3 #[.int .i64 U, .string J, .int .i64 y, .string D, .bool I, .slice X s.length Y, .string M, .int .i64 O, .bool Z] 52 (Z0) ?_; intro aA hg w4 BK472 aB GE472 HB hb; clear hb hg; refine bD9 BK472 ?_; intros))
  go_ret
  exact ⟨Z1, Z27⟩
 ·rw [if_neg c3] at H
  have aQ : decide (8000 < (J.size : Int)) = false := decide_eq_false c3
  have aR : decide (8000 < J.size) = false := decide_eq_false (Z42)
  clear c3
  by_cases c6 : U = 0
  ·rw [if_pos c6] at H
   have aS := beq_iff_eq.mpr c6
   have aT := bne_eq_false_iff_eq.mpr c6
   clear c6
   by_cases c7 : J.toList = ([] : List UInt8)
   ·rw [if_pos c7] at H
    have aU := beq_iff_eq.mpr c7
    have aV := bne_eq_false_iff_eq.mpr c7
    clear c7
    obtain ⟨aW, A8, H⟩ := bindA H
    try dsimp only at H
    by_cases c9 : aW = true
    ·subst c9
     replace H := ifT H
     obtain rfl := oI H
     go_enter func18, ntmps18
     go_wp2_with (first | ((with_reducible refine gD 3 ?_); refine bxF w 3 #[.int .i64 U, .string J, .int .i64 y, .string D, .bool I, .slice X s.length Y, .string M, .int .i64 O, .bool Z] 52 (Z0) ?_; intro aA hg bD BK472 aB GE472 HB hb; clear hb hg; refine bD9 BK472 ?_; intros) | (go_at_call 41; (refine (impl_sameImap.calls k y D I _ _ s 0 (⟨#[]⟩ : ByteArray) false _ _ ([] : List Int) true _ ?Y1 ?Y2 ?Y3 ?Y4 A8.out).mono ?_); (case Y1 => have h_ := Kd.C_below aC.out HB.out; exact tC); (case Y2 => exact aD.out); (case Y3 => exact Kd.C_nil _ _); (case Y4 => exact Nat.le_refl _); rintro e bE ⟨rfl, hb⟩; replace BK472 := aM (kB BK472 (Z98) hb); replace HB := aM (below_step (Z27) hb); (try clear hb); refine bD9 BK472 ?_; intros))
     go_ret
     exact ⟨Z1, Z27⟩
    ·replace c9 := Bool.eq_false_iff.mpr c9
     subst c9
     replace H := ifF H
     obtain rfl := oI H
     go_enter func18, ntmps18
     go_wp2_with (first | ((with_reducible refine gD 3 ?_); refine bxF w 3 #[.int .i64 U, .string J, .int .i64 y, .string D, .bool I, .slice X s.length Y, .string M, .int .i64 O, .bool Z] 52 (Z0) ?_; intro aA hg bF BK472 aB GE472 HB hb; clear hb hg; refine bD9 BK472 ?_; intros) | (go_at_call 41; (refine (impl_sameImap.calls k y D I _ _ s 0 (⟨#[]⟩ : ByteArray) false _ _ ([] : List Int) false _ ?Y1 ?Y2 ?Y3 ?Y4 A8.out).mono ?_); (case Y1 => have h_ := Kd.C_below aC.out HB.out; exact tC); (case Y2 => exact aD.out); (case Y3 => exact Kd.C_nil _ _); (case Y4 => exact Nat.le_refl _); rintro e bG ⟨rfl, hb⟩; replace BK472 := aM (kB BK472 (Z98) hb); replace HB := aM (below_step (Z27) hb); (try clear hb)))
     go_ret
     exact ⟨Z1, Z27⟩
   ·rw [if_neg c7] at H
    have aU := beq_eq_false_iff_ne.mpr c7
    have aV := bne_iff_ne.mpr c7
    obtain rfl := oI H
    go_enter func18, ntmps18
    go_wp2_with (first | ((with_reducible refine gD 3 ?_); refine bxF w 3 #[.int .i64 U, .string J, .int .i64 y, .string D, .bool I, .slice X s.length Y, .string M, .int .i64 O, .bool Z] 52 (Z0) ?_; intro aA hg bH BK472 aB GE472 HB hb; clear hb hg; refine bD9 BK472 ?_; intros))
    go_ret
    exact ⟨Z1, Z27⟩
  ·rw [if_neg c6] at H
   have aS := beq_eq_false_iff_ne.mpr c6
   have aT := bne_iff_ne.mpr c6
   by_cases aE : U = 1
   ·rw [if_pos aE] at H
    have aX := beq_iff_eq.mpr aE
    have aY := bne_eq_false_iff_eq.mpr aE
    clear aE
    obtain ⟨aZ, aN, H⟩ := bindA H
    try dsimp only at H
    by_cases aJ : aZ = true
    ·subst aJ
     replace H := ifT H
     by_cases aF : y = 0
     ·rw [if_pos aF] at H
      have a2 := beq_iff_eq.mpr aF
      have a3 := bne_eq_false_iff_eq.mpr aF
      clear aF
      obtain rfl := oI H
      go_enter func18, ntmps18
      go_wp2_with (first | ((with_reducible refine gD 3 ?_); refine bxF w 3 #[.int .i64 U, .string J, .int .i64 y, .string D, .bool I, .slice X s.length Y, .string M, .int .i64 O, .bool Z] 52 (Z0) ?_; intro aA hg bI BK472 aB GE472 HB hb; clear hb hg; refine bD9 BK472 ?_; intros) | ((with_reducible refine gC 42 ?_); refine gL 33 func42 #[.slice A0 l0.length c0, .agg #[.int .i64 y, .string D, .bool I, .slice X s.length Y]] ?_; (with_reducible refine (impl_sessionOK.calls k _ _ l0 y D I _ _ s true _ ?Y1 ?Y2 ?Y3 ?Y4 aN.out).mono ?_); (case Y1 => have h_ := Kd.C_below hr0.out HB.out; exact tC); (case Y2 => exact aI.out); (case Y3 => have h_ := Kd.C_below aC.out HB.out; exact tC); (case Y4 => exact aD.out); rintro e bJ ⟨rfl, hb⟩; refine ⟨_, rfl, ?_⟩; replace BK472 := aM (kB BK472 (Z98) hb); replace HB := aM (below_step (Z27) hb); (try clear hb); refine bD9 BK472 ?_; intros))
      go_ret
      exact ⟨Z1, Z27⟩
     ·rw [if_neg aF] at H
      have a2 := beq_eq_false_iff_ne.mpr aF
      have a3 := bne_iff_ne.mpr aF
      obtain rfl := oI H
      go_enter func18, ntmps18
      go_wp2_with (first | ((with_reducible refine gD 3 ?_); refine bxF w 3 #[.int .i64 U, .string J, .int .i64 y, .string D, .bool I, .slice X s.length Y, .string M, .int .i64 O, .bool Z] 52 (Z0) ?_; intro aA hg bK BK472 aB GE472 HB hb; clear hb hg; refine bD9 BK472 ?_; intros) | ((with_reducible refine gC 42 ?_); refine gL 33 func42 #[.slice A0 l0.length c0, .agg #[.int .i64 y, .string D, .bool I, .slice X s.length Y]] ?_; (with_reducible refine (impl_sessionOK.calls k _ _ l0 y D I _ _ s true _ ?Y1 ?Y2 ?Y3 ?Y4 aN.out).mono ?_); (case Y1 => have h_ := Kd.C_below hr0.out HB.out; exact tC); (case Y2 => exact aI.out); (case Y3 => have h_ := Kd.C_below aC.out HB.out; exact tC); (case Y4 => exact aD.out); rintro e bL ⟨rfl, hb⟩; refine ⟨_, rfl, ?_⟩; replace BK472 := aM (kB BK472 (Z98) hb); replace HB := aM (below_step (Z27) hb); (try clear hb); refine bD9 BK472 ?_; intros))
      go_ret
      exact ⟨Z1, Z27⟩
    ·replace aJ := Bool.eq_false_iff.mpr aJ
     subst aJ
     replace H := ifF H
     obtain rfl := oI H
     go_enter func18, ntmps18
     go_wp2_with (first | ((with_reducible refine gD 3 ?_); refine bxF w 3 #[.int .i64 U, .string J, .int .i64 y, .string D, .bool I, .slice X s.length Y, .string M, .int .i64 O, .bool Z] 52 (Z0) ?_; intro aA hg bM BK472 aB GE472 HB hb; clear hb hg; refine bD9 BK472 ?_; intros) | ((with_reducible refine gC 42 ?_); refine gL 33 func42 #[.slice A0 l0.length c0, .agg #[.int .i64 y, .string D, .bool I, .slice X s.length Y]] ?_; (with_reducible refine (impl_sessionOK.calls k _ _ l0 y D I _ _ s false _ ?Y1 ?Y2 ?Y3 ?Y4 aN.out).mono ?_); (case Y1 => have h_ := Kd.C_below hr0.out HB.out; exact tC); (case Y2 => exact aI.out); (case Y3 => have h_ := Kd.C_below aC.out HB.out; exact tC); (case Y4 => exact aD.out); rintro e bN ⟨rfl, hb⟩; refine ⟨_, rfl, ?_⟩; replace BK472 := aM (kB BK472 (Z98) hb); replace HB := aM (below_step (Z27) hb); (try clear hb)))
     go_ret
     exact ⟨Z1, Z27⟩
   ·rw [if_neg aE] at H
    have aX := beq_eq_false_iff_ne.mpr aE
    have aY := bne_iff_ne.mpr aE
    by_cases aG : U = 2
    ·rw [if_pos aG] at H
     have a5 := beq_iff_eq.mpr aG
     have a6 := bne_eq_false_iff_eq.mpr aG
     clear aG
     obtain ⟨a7, aO, H⟩ := bindA H
     try dsimp only at H
     by_cases aK : a7 = true
     ·subst aK
      replace H := ifT H
      by_cases aL : Z = true
      ·subst aL
       replace H := ifT H
       obtain rfl := oI H
       go_enter func18, ntmps18
       go_wp2_with (first | ((with_reducible refine gD 3 ?_); refine bxF w 3 #[.int .i64 U, .string J, .int .i64 y, .string D, .bool I, .slice X s.length Y, .string M, .int .i64 O, .bool true] 52 (Z0) ?_; intro aA hg bO BK472 aB GE472 HB hb; clear hb hg; refine bD9 BK472 ?_; intros) | ((with_reducible refine gC 43 ?_); refine gL 50 func43 #[.agg #[.string M, .int .i64 O, .bool true]] ?_; (with_reducible refine (impl_nntpOK.calls k M O true true _ aO.out).mono ?_); rintro e bP ⟨rfl, hb⟩; refine ⟨_, rfl, ?_⟩; replace BK472 := aM (kB BK472 (Z98) hb); replace HB := aM (below_step (Z27) hb); (try clear hb); refine bD9 BK472 ?_; intros))
       go_ret
       exact ⟨Z1, Z27⟩
      ·replace aL := Bool.eq_false_iff.mpr aL
       subst aL
       replace H := ifF H
       obtain ⟨a8, a9, H⟩ := bindA H
       try dsimp only at H
       obtain rfl := oI H
       go_enter func18, ntmps18
       go_wp2_with (first | ((with_reducible refine gD 3 ?_); refine bxF w 3 #[.int .i64 U, .string J, .int .i64 y, .string D, .bool I, .slice X s.length Y, .string M, .int .i64 O, .bool false] 52 (Z0) ?_; intro aA hg bQ BK472 aB GE472 HB hb; clear hb hg; refine bD9 BK472 ?_; intros) | ((with_reducible refine gC 43 ?_); refine gL 50 func43 #[.agg #[.string M, .int .i64 O, .bool false]] ?_; (with_reducible refine (impl_nntpOK.calls k M O false true _ aO.out).mono ?_); rintro e bR ⟨rfl, hb⟩; refine ⟨_, rfl, ?_⟩; replace BK472 := aM (kB BK472 (Z98) hb); replace HB := aM (below_step (Z27) hb); (try clear hb); refine bD9 BK472 ?_; intros) | (go_at_call 41; (refine (impl_sameImap.calls k y D I _ _ s 0 (⟨#[]⟩ : ByteArray) false _ _ ([] : List Int) a8 _ ?Y1 ?Y2 ?Y3 ?Y4 a9.out).mono ?_); (case Y1 => have h_ := Kd.C_below aC.out HB.out; exact tC); (case Y2 => exact aD.out); (case Y3 => exact Kd.C_nil _ _); (case Y4 => exact Nat.le_refl _); rintro e bS ⟨rfl, hb⟩; replace BK472 := aM (kB BK472 (Z98) hb); replace HB := aM (below_step (Z27) hb); (try clear hb)))
       go_ret
       exact ⟨Z1, Z27⟩
     ·replace aK := Bool.eq_false_iff.mpr aK
      subst aK
      replace H := ifF H
      obtain rfl := oI H
      go_enter func18, ntmps18
      go_wp2_with (first | ((with_reducible refine gD 3 ?_); refine bxF w 3 #[.int .i64 U, .string J, .int .i64 y, .string D, .bool I, .slice X s.length Y, .string M, .int .i64 O, .bool Z] 52 (Z0) ?_; intro aA hg bT BK472 aB GE472 HB hb; clear hb hg; refine bD9 BK472 ?_; intros) | ((with_reducible refine gC 43 ?_); refine gL 50 func43 #[.agg #[.string M, .int .i64 O, .bool Z]] ?_; (with_reducible refine (impl_nntpOK.calls k M O Z false _ aO.out).mono ?_); rintro e bU ⟨rfl, hb⟩; refine ⟨_, rfl, ?_⟩; replace BK472 := aM (kB BK472 (Z98) hb); replace HB := aM (below_step (Z27) hb); (try clear hb)))
      go_ret
      exact ⟨Z1, Z27⟩
    ·rw [if_neg aG] at H
     have a5 := beq_eq_false_iff_ne.mpr aG
     have a6 := bne_iff_ne.mpr aG
     obtain rfl := oI H
     go_enter func18, ntmps18
     go_wp2_with (first | ((with_reducible refine gD 3 ?_); refine bxF w 3 #[.int .i64 U, .string J, .int .i64 y, .string D, .bool I, .slice X s.length Y, .string M, .int .i64 O, .bool Z] 52 (Z0) ?_; intro aA hg bV BK472 aB GE472 HB hb; clear hb hg; refine bD9 BK472 ?_; intros))
     go_ret
     exact ⟨Z1, Z27⟩
def connF (k : Nat) (bl : List S98) : List S52 → Option Bool
 | [] => some true
 | c :: r => (impl_connOK.f k bl c.f0 c.f1 c.f2.f0 c.f2.f1 c.f2.f2 c.f2.f3 c.f3.f0 c.f3.f1 c.f3.f2).bind fun b => if b = true then connF k bl r else some false
theorem rdCo (l : List S52) (k : Nat) (h : k < l.length) : rd_T52 l (k : Int) = l[k] := by unfold rd_T52; simp [List.getD, List.getElem?_eq_getElem h]
theorem connF_drop {k : Nat} {bl : List S98} {l : List S52} {kk : Nat} {r : Bool} (h : connF k bl (l.drop kk) = some r) (hk : kk < l.length) :
  ∃ b, impl_connOK.f k bl (rd_T52 l (kk : Int)).f0 (rd_T52 l (kk : Int)).f1 (rd_T52 l (kk : Int)).f2.f0 (rd_T52 l (kk : Int)).f2.f1 (rd_T52 l (kk : Int)).f2.f2 (rd_T52 l (kk : Int)).f2.f3 (rd_T52 l (kk : Int)).f3.f0 (rd_T52 l (kk : Int)).f3.f1 (rd_T52 l (kk : Int)).f3.f2 = some b ∧
   (b = false ∧ r = false ∨ b = true ∧ connF k bl (l.drop (kk + 1)) = some r) := by
 rw [List.drop_eq_getElem_cons hk] at h
 unfold connF at h
 obtain ⟨b, hb, h⟩ := Option.bind_eq_some_iff.mp h
 refine ⟨b, by rw [rdCo l kk hk]; exact hb, ?_⟩
 cases b with
 | true => rw [if_pos rfl] at h; exact .inr ⟨rfl, h⟩
 | false => rw [if_neg (Z174)] at h; injection h with h; exact .inl ⟨rfl, h.symm⟩
theorem connBad (k : Nat) (B : Nat) (s : Option Addr) (c0 : Nat) (bl : List S98) (x : S52) (y : Option Addr) (c5 : Nat) (b : Bool) (w : World) (hc : w.cell? ⟨B, 3, none⟩ = some (.slice s bl.length c0)) (hC : Kd.C k98 w s bl.length bl) (hl : bl.length ≤ c0)
  (hv : Kd.C (Kd.int .i64) w y x.f2.f3.length x.f2.f3) (hvc : x.f2.f3.length ≤ c5) (h : impl_connOK.f k bl x.f0 x.f1 x.f2.f0 x.f2.f1 x.f2.f2 x.f2.f3 x.f3.f0 x.f3.f1 x.f3.f2 = some b) :
  Calls prog 17 #[.agg #[.int .i64 x.f0, .string x.f1, .int .i64 x.f2.f0, .string x.f2.f1, .bool x.f2.f2, .slice y x.f2.f3.length c5, .string x.f3.f0, .int .i64 x.f3.f1, .bool x.f3.f2], .pointer (some ⟨B, 0, none⟩)] w fun e w' => e = .returned (.bool (!b)) ∧ Below w.heap.size w w' := by
 have I : ∀ o, (w.alloc o).cell? ⟨B, 3, none⟩ = some (.slice s bl.length c0) := fun o => (World.cell?_alloc_past _ _ _ (World.block_lt_of_cell? w _ hc)).trans hc
 have HC := aM hC
 have HV := aM hv
 have HH := aM h
 clear hC hv h
 go_enter func17, ntmps17
 go_wp2_with (go_at_call 18; refine (impl_connOK.calls k s c0 bl x.f0 x.f1 x.f2.f0 x.f2.f1 x.f2.f2 y c5 x.f2.f3 x.f3.f0 x.f3.f1 x.f3.f2 b _ (by (with_reducible repeat (first | exact HC.out | apply Kd.C_alloc | apply Kd.C_drewN | apply Kd.C_drew))) hl (by (with_reducible repeat (first | exact HV.out | apply Kd.C_alloc | apply Kd.C_drewN | apply Kd.C_drew))) hvc HH.out).mono ?_; rintro e w1 ⟨rfl, D⟩)
 go_ret
 exact ⟨rfl, Below.trans (Below.alloc (Below.refl _ _) (Nat.le_refl _) _) (D.mono (Z174))⟩
theorem connsIndex (k : Nat) (B : Nat) (s : Option Addr) (c0 : Nat) (bl : List S98) (A : Option Addr) (c : Nat) (l : List S52) (r : Bool) (w : World) (hB : B < w.heap.size) (hc : w.cell? ⟨B, 3, none⟩ = some (.slice s bl.length c0)) (hC : Kd.C k98 w s bl.length bl) (hl : bl.length ≤ c0)
  (hL : Kd.C k52 w A l.length l) (hll : l.length ≤ 1099511627776) (h : connF k bl l = some r) :
  Calls prog 40 #[.slice A l.length c, .func (.func 17) #[] #[.pointer (some ⟨B, 0, none⟩)]] w fun e w' => ∃ i : Int, e = .returned (.int .i64 i) ∧ Aside0 (decide (0 ≤ i) = !r) ∧ Below w.heap.size w w' := by
 have eg := enters_of func17 (Z18) rfl
 have HC := aM hC
 have HL := aM hL
 have HQ := aM hc
 have HH := aM h
 clear hC hL hc h
 go_enter func40, ntmps40
 go_wp2
 go_loopg [5, 8] l.length (fun gg _ y wr => ∃ kk : Nat, kk ≤ l.length ∧ l.length - kk ≤ gg ∧ y = .int .i64 kk ∧ Aside0 (Below w.heap.size w wr) ∧ Aside0 (connF k bl (l.drop kk) = some r))
 case atStart => exact ⟨0, Nat.zero_le _, Z42, rfl, ⟨Below.refl _ w⟩, HH⟩
 case round =>
  obtain ⟨kk, hkk, hg, rfl, BW, AI⟩ := hrel
  by_cases hlt : kk < l.length
  ·have hltz : (kk : Int) < (l.length : Int) := by omega
   have D : 0 ≤ (kk : Int) := by omega
   obtain ⟨b, hb, hcase⟩ := connF_drop AI.out hlt
   obtain ⟨ad, I, c5, e, J, hx1, M, O, U, X, Y, Z, aA, hvl, hvC⟩ := at_T52 (Kd.C_below HL.out BW.out) kk D hltz
   cases e
   simp only [Int.toNat_natCast] at J hx1 M O U X Y Z aA
   generalize rd_T52 l (kk : Int) = x at *
   have hcall := connBad k B s c0 bl x I c5 b wr ((BW.out.cell (p := ⟨B, 3, none⟩) hB).trans HQ.out) (Kd.C_below HC.out BW.out) hl hvC hvl hb
   have HCA := aM hcase
   clear hb hcase AI hvC
   rcases HCA.out with ⟨rfl, rfl⟩ | ⟨rfl, hnx⟩
   ·clear HCA
    go_wp2_with (go_at_call 17; refine hcall.mono ?_; rintro e w' ⟨rfl, hb'⟩)
    go_ret
    exact ⟨(kk : Int), rfl, ⟨Z174⟩, Below.trans BW.out (hb'.mono BW.out.size)⟩
   ·have HNX := aM hnx
    clear HCA hnx
    go_wp2_with (go_at_call 17; refine hcall.mono ?_; rintro e w' ⟨rfl, hb'⟩)
    go_roundg (l.length - (kk + 1))
    case measure => omega
    case rel => exact ⟨kk + 1, Z42, Z42, by go_num, ⟨Below.trans BW.out (hb'.mono BW.out.size)⟩, HNX⟩
  ·have hltz : ¬ (kk : Int) < (l.length : Int) := by omega
   obtain rfl : kk = l.length := by omega
   have hr := AI.out
   rw [List.drop_of_length_le (Nat.le_refl _)] at hr
   unfold connF at hr
   injection hr with hr
   subst hr
   go_wp2
   go_ret
   exact ⟨-1, rfl, ⟨Z101⟩, BW.out⟩
theorem connsBad (k : Nat) (B : Nat) (s : Option Addr) (c0 : Nat) (bl : List S98) (A : Option Addr) (c : Nat) (l : List S52) (r : Bool) (w : World) (hB : B < w.heap.size) (hc : w.cell? ⟨B, 3, none⟩ = some (.slice s bl.length c0)) (hC : Kd.C k98 w s bl.length bl) (hl : bl.length ≤ c0)
  (hL : Kd.C k52 w A l.length l) (hll : l.length ≤ 1099511627776) (h : connF k bl l = some r) :
  Calls prog 16 #[.slice A l.length c, .func (.func 17) #[] #[.pointer (some ⟨B, 0, none⟩)]] w fun e w' => e = .returned (.bool (!r)) ∧ Below w.heap.size w w' := by
 have HI := aM (connsIndex k B s c0 bl A c l r w hB hc hC hl hL hll h)
 clear hB hc hC hl hL hll h
 go_enter func16, ntmps16
 go_wp2_with (go_at_call 40; refine HI.out.mono ?_; rintro e w1 ⟨i, rfl, hi, y⟩)
 go_ret
 exact ⟨by rw [← hi.out]; rfl, y⟩
def impl_WorldOK.f (k : Nat) (y : Int) (D : ByteArray) (I : Int) (l0_3 : List S98) (s : List S52) : Option Bool :=
 (impl_EngineOK.f k y D I l0_3).bind fun e => if e = true then (if s.length = 4 then connF k l0_3 s else some false) else some false
theorem impl_WorldOK.calls (k : Nat) (I : Int) (J : ByteArray) (M : Int) (y : Option Addr) (D : Nat) (l0_3 : List S98) (O : Option Addr) (U : Nat) (s : List S52) (r : Bool) (w : World) (aC : Kd.C k98 w y l0_3.length l0_3) (aD : l0_3.length ≤ D) (aE : Kd.C k52 w O s.length s) (aR : s.length ≤ U) (h : impl_WorldOK.f k I J M l0_3 s = some r) :
  Calls prog 7 #[.agg #[.int .i64 I, .string J, .int .i64 M, .slice y l0_3.length D, .slice O s.length U]] w fun e w' => e = .returned (.bool r) ∧ Below w.heap.size w w' := by
 unfold impl_WorldOK.f at h
 obtain ⟨eo, he, h⟩ := Option.bind_eq_some_iff.mp h
 have HE := aM he
 have H3 := aM (Kd.C_alloc aC (.cells #[.int .i64 I, .string J, .int .i64 M, .slice y l0_3.length D, .slice O s.length U] 38))
 have H4 := aM (Kd.C_alloc aE (.cells #[.int .i64 I, .string J, .int .i64 M, .slice y l0_3.length D, .slice O s.length U] 38))
 have BX := aM (show (w.alloc (.cells #[.int .i64 I, .string J, .int .i64 M, .slice y l0_3.length D, .slice O s.length U] 38)).heap[w.heap.size]? = some (.cells #[.int .i64 I, .string J, .int .i64 M, .slice y l0_3.length D, .slice O s.length U] 38 (0, 0)) from by simpa using heap_alloc_new w _)
 have HB := aM (below_alloc (Below.refl w.heap.size w) (.cells #[.int .i64 I, .string J, .int .i64 M, .slice y l0_3.length D, .slice O s.length U] 38))
 have HH := aM h
 clear aC aE he h
 go_enter func7, ntmps7
 go_upto_region 1 with (fail)
 generalize w.alloc (.cells #[.int .i64 I, .string J, .int .i64 M, .slice y l0_3.length D, .slice O s.length U] 38) = W1 at *
 generalize aG : w.heap.size = x0 at BX ⊢
 have aS := aM aG
 clear aG
 have y0 : W1.cell? ⟨x0, 0, none⟩ = some (.int .i64 I) := (blk_cell BX.out 0).trans rfl
 have y1 : W1.cell? ⟨x0, 1, none⟩ = some (.string J) := (blk_cell BX.out 1).trans rfl
 have y2 : W1.cell? ⟨x0, 2, none⟩ = some (.int .i64 M) := (blk_cell BX.out 2).trans rfl
 have y3 : W1.cell? ⟨x0, 3, none⟩ = some (.slice y l0_3.length D) := (blk_cell BX.out 3).trans rfl
 go_wp2_with fail
 refine (impl_EngineOK.calls k I J M y D l0_3 eo _ H3.out aD HE.out).mono ?_
 rintro e w1 ⟨rfl, X⟩
 have hlt : x0 < W1.heap.size := blk_lt BX.out
 have Y := aM (blk_below BX.out X)
 have G3 := aM (Kd.C_below H3.out X)
 have G4 := aM (Kd.C_below H4.out X)
 have Z := aM (Below.trans HB.out (X.mono HB.out.size))
 have aO := aM (blk_lt Y.out)
 clear y0 y1 y2 y3 H3 H4 BX hlt HB X
 have z0 : w1.cell? ⟨x0, 0, none⟩ = some (.int .i64 I) := (blk_cell Y.out 0).trans rfl
 have z3 : w1.cell? ⟨x0, 3, none⟩ = some (.slice y l0_3.length D) := (blk_cell Y.out 3).trans rfl
 have z4 : w1.cell? ⟨x0, 4, none⟩ = some (.slice O s.length U) := (blk_cell Y.out 4).trans rfl
 have Z3 := aM z3
 cases eo with
 | false =>
  have h := HH.out
  rw [if_neg (Z174)] at h
  injection h with h
  subst h
  go_wp2
  go_ret
  exact ⟨rfl, Z.out⟩
 | true =>
  have h := HH.out
  rw [if_pos rfl] at h
  by_cases h4 : s.length = 4
  ·rw [if_pos h4] at h
   have e4 : ((s.length : Int) == 4) = true := beq_iff_eq.mpr (Z42)
   have HF := aM h
   have HN := aM h4
   clear h h4
   go_wp2_with (go_at_call 16; refine (connsBad k x0 y D l0_3 O U s r _ (by simpa using aO.out) Z3.out G3.out aD G4.out (by have := HN.out; omega) HF.out).mono ?_; rintro e w2 ⟨rfl, aQ⟩)
   go_ret
   exact ⟨rfl, Below.trans Z.out (aQ.mono (by have := Z.out.size; simpa using this))⟩
  ·rw [if_neg h4] at h
   injection h with h
   subst h
   have e4 : ((s.length : Int) == 4) = false := beq_eq_false_iff_ne.mpr (Z42)
   go_wp2
   go_ret
   exact ⟨rfl, Z.out⟩
def laws_eqLog.f (s : Int) (y : ByteArray) (D : Int) (I : Int) (J : ByteArray) (M : Int) : Option (Bool) := if s = I then (if y.toList = J.toList then (if D = M then (some true) else (some false)) else (some false)) else (some false)
theorem laws_eqLog.calls (s : Int) (y : ByteArray) (D : Int) (I : Int) (J : ByteArray) (M : Int) (r : Bool) (w : World) (h : laws_eqLog.f s y D I J M = some r) :
  Calls prog 44 #[.agg #[.int .i64 s, .string y, .int .i64 D], .agg #[.int .i64 I, .string J, .int .i64 M]] w fun e w' => e = .returned (.bool r) ∧ Below w.heap.size w w' := by
 have aI := underlying32
 have HB := aM (Below.refl w.heap.size w)
 have H := h
 clear h
 unfold laws_eqLog.f at H
 by_cases c3 : s = I
 ·rw [if_pos c3] at H
  have aC := beq_iff_eq.mpr c3
  have aD := bne_eq_false_iff_eq.mpr c3
  clear c3
  by_cases c4 : y.toList = J.toList
  ·rw [if_pos c4] at H
   have aE := beq_iff_eq.mpr c4
   have aF := bne_eq_false_iff_eq.mpr c4
   clear c4
   by_cases c5 : D = M
   ·rw [if_pos c5] at H
    have aG := beq_iff_eq.mpr c5
    have aH := bne_eq_false_iff_eq.mpr c5
    clear c5
    obtain rfl := oI H
    go_enter func44, ntmps44
    go_wp2_with (first | ((with_reducible refine gD 2 ?_); refine bxF w 2 #[.int .i64 s, .string y, .int .i64 D] 32 (Z0) ?_; intro Y hg w6 BK477 Z GE477 HB hb; clear hb hg) | ((with_reducible refine gD 3 ?_); refine bxF w 3 #[.int .i64 I, .string J, .int .i64 M] 32 (Z47) ?_; intro aA hg w7 O aB GE478 HB hb; have U := aM ((nL BK477 hg (Z76))); have X := aM ((nG BK477 hg (Z76))); replace BK477 := aM (kB BK477 (Z76) hb); clear hb hg; have aJ := U.out; have aK := X.out; refine bD3 BK477 ?_; intros; refine bD3 O ?_; intros))
    go_ret
    exact ⟨Z1, Z120⟩
   ·rw [if_neg c5] at H
    have aG := beq_eq_false_iff_ne.mpr c5
    have aH := bne_iff_ne.mpr c5
    obtain rfl := oI H
    go_enter func44, ntmps44
    go_wp2_with (first | ((with_reducible refine gD 2 ?_); refine bxF w 2 #[.int .i64 s, .string y, .int .i64 D] 32 (Z0) ?_; intro Y hg aL BK477 Z GE477 HB hb; clear hb hg) | ((with_reducible refine gD 3 ?_); refine bxF w 3 #[.int .i64 I, .string J, .int .i64 M] 32 (Z47) ?_; intro aA hg aN O aB GE478 HB hb; have U := aM ((nL BK477 hg (Z76))); have X := aM ((nG BK477 hg (Z76))); replace BK477 := aM (kB BK477 (Z76) hb); clear hb hg; have aO := U.out; have aP := X.out; refine bD3 BK477 ?_; intros; refine bD3 O ?_; intros))
    go_ret
    exact ⟨Z1, Z120⟩
  ·rw [if_neg c4] at H
   have aE := beq_eq_false_iff_ne.mpr c4
   have aF := bne_iff_ne.mpr c4
   obtain rfl := oI H
   go_enter func44, ntmps44
   go_wp2_with (first | ((with_reducible refine gD 2 ?_); refine bxF w 2 #[.int .i64 s, .string y, .int .i64 D] 32 (Z0) ?_; intro Y hg aQ BK477 Z GE477 HB hb; clear hb hg) | ((with_reducible refine gD 3 ?_); refine bxF w 3 #[.int .i64 I, .string J, .int .i64 M] 32 (Z47) ?_; intro aA hg aR O aB GE478 HB hb; have U := aM ((nL BK477 hg (Z76))); have X := aM ((nG BK477 hg (Z76))); replace BK477 := aM (kB BK477 (Z76) hb); clear hb hg; have aS := U.out; have aT := X.out; refine bD3 BK477 ?_; intros; refine bD3 O ?_; intros))
   go_ret
   exact ⟨Z1, Z120⟩
 ·rw [if_neg c3] at H
  have aC := beq_eq_false_iff_ne.mpr c3
  have aD := bne_iff_ne.mpr c3
  obtain rfl := oI H
  go_enter func44, ntmps44
  go_wp2_with (first | ((with_reducible refine gD 2 ?_); refine bxF w 2 #[.int .i64 s, .string y, .int .i64 D] 32 (Z0) ?_; intro Y hg aU BK477 Z GE477 HB hb; clear hb hg) | ((with_reducible refine gD 3 ?_); refine bxF w 3 #[.int .i64 I, .string J, .int .i64 M] 32 (Z47) ?_; intro aA hg aV O aB GE478 HB hb; have U := aM ((nL BK477 hg (Z76))); have X := aM ((nG BK477 hg (Z76))); replace BK477 := aM (kB BK477 (Z76) hb); clear hb hg; have aW := U.out; have aX := X.out; refine bD3 BK477 ?_; intros; refine bD3 O ?_; intros))
  go_ret
  exact ⟨Z1, Z120⟩
def laws_eqStored.f (s : Int) (y : Int) (D : ByteArray) (I : Int) (J : Int) (M : ByteArray) : Option (Bool) := if s = I then (if y = J then (if D.toList = M.toList then (some true) else (some false)) else (some false)) else (some false)
theorem laws_eqStored.calls (s : Int) (y : Int) (D : ByteArray) (I : Int) (J : Int) (M : ByteArray) (r : Bool) (w : World) (h : laws_eqStored.f s y D I J M = some r) :
  Calls prog 125 #[.agg #[.int .i64 s, .int .i64 y, .string D], .agg #[.int .i64 I, .int .i64 J, .string M]] w fun e w' => e = .returned (.bool r) ∧ Below w.heap.size w w' := by
 have aI := underlying109
 have HB := aM (Below.refl w.heap.size w)
 have H := h
 clear h
 unfold laws_eqStored.f at H
 by_cases c3 : s = I
 ·rw [if_pos c3] at H
  have aC := beq_iff_eq.mpr c3
  have aD := bne_eq_false_iff_eq.mpr c3
  clear c3
  by_cases c4 : y = J
  ·rw [if_pos c4] at H
   have aE := beq_iff_eq.mpr c4
   have aF := bne_eq_false_iff_eq.mpr c4
   clear c4
   by_cases c5 : D.toList = M.toList
   ·rw [if_pos c5] at H
    have aG := beq_iff_eq.mpr c5
    have aH := bne_eq_false_iff_eq.mpr c5
    clear c5
    obtain rfl := oI H
    go_enter func125, ntmps125
    go_wp2_with (first | ((with_reducible refine gD 2 ?_); refine bxF w 2 #[.int .i64 s, .int .i64 y, .string D] 109 (Z0) ?_; intro Y hg w6 BK479 Z GE479 HB hb; clear hb hg) | ((with_reducible refine gD 3 ?_); refine bxF w 3 #[.int .i64 I, .int .i64 J, .string M] 109 (Z48) ?_; intro aA hg w7 O aB GE480 HB hb; have U := aM ((nL BK479 hg (Z77))); have X := aM ((nG BK479 hg (Z77))); replace BK479 := aM (kB BK479 (Z77) hb); clear hb hg; have aJ := U.out; have aK := X.out; refine bD3 BK479 ?_; intros; refine bD3 O ?_; intros))
    go_ret
    exact ⟨Z1, Z121⟩
   ·rw [if_neg c5] at H
    have aG := beq_eq_false_iff_ne.mpr c5
    have aH := bne_iff_ne.mpr c5
    obtain rfl := oI H
    go_enter func125, ntmps125
    go_wp2_with (first | ((with_reducible refine gD 2 ?_); refine bxF w 2 #[.int .i64 s, .int .i64 y, .string D] 109 (Z0) ?_; intro Y hg aL BK479 Z GE479 HB hb; clear hb hg) | ((with_reducible refine gD 3 ?_); refine bxF w 3 #[.int .i64 I, .int .i64 J, .string M] 109 (Z48) ?_; intro aA hg aN O aB GE480 HB hb; have U := aM ((nL BK479 hg (Z77))); have X := aM ((nG BK479 hg (Z77))); replace BK479 := aM (kB BK479 (Z77) hb); clear hb hg; have aO := U.out; have aP := X.out; refine bD3 BK479 ?_; intros; refine bD3 O ?_; intros))
    go_ret
    exact ⟨Z1, Z121⟩
  ·rw [if_neg c4] at H
   have aE := beq_eq_false_iff_ne.mpr c4
   have aF := bne_iff_ne.mpr c4
   obtain rfl := oI H
   go_enter func125, ntmps125
   go_wp2_with (first | ((with_reducible refine gD 2 ?_); refine bxF w 2 #[.int .i64 s, .int .i64 y, .string D] 109 (Z0) ?_; intro Y hg aQ BK479 Z GE479 HB hb; clear hb hg) | ((with_reducible refine gD 3 ?_); refine bxF w 3 #[.int .i64 I, .int .i64 J, .string M] 109 (Z48) ?_; intro aA hg aR O aB GE480 HB hb; have U := aM ((nL BK479 hg (Z77))); have X := aM ((nG BK479 hg (Z77))); replace BK479 := aM (kB BK479 (Z77) hb); clear hb hg; have aS := U.out; have aT := X.out; refine bD3 BK479 ?_; intros; refine bD3 O ?_; intros))
   go_ret
   exact ⟨Z1, Z121⟩
 ·rw [if_neg c3] at H
  have aC := beq_eq_false_iff_ne.mpr c3
  have aD := bne_iff_ne.mpr c3
  obtain rfl := oI H
  go_enter func125, ntmps125
  go_wp2_with (first | ((with_reducible refine gD 2 ?_); refine bxF w 2 #[.int .i64 s, .int .i64 y, .string D] 109 (Z0) ?_; intro Y hg aU BK479 Z GE479 HB hb; clear hb hg) | ((with_reducible refine gD 3 ?_); refine bxF w 3 #[.int .i64 I, .int .i64 J, .string M] 109 (Z48) ?_; intro aA hg aV O aB GE480 HB hb; have U := aM ((nL BK479 hg (Z77))); have X := aM ((nG BK479 hg (Z77))); replace BK479 := aM (kB BK479 (Z77) hb); clear hb hg; have aW := U.out; have aX := X.out; refine bD3 BK479 ?_; intros; refine bD3 O ?_; intros))
  go_ret
  exact ⟨Z1, Z121⟩
end Go.Proofs.YtifkmkiljpeaaacGreat.PFnExactWorldOK
