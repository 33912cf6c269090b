/- Contracts of functions that a statement reaches (wip/x/xprint.py, short.py, compact.py). -/
import Derived.Test.YtbikfhccfenkdaaPFnExactEngineOKx0
import Derived.Test.YtbikfhccfenkdaaPFnExactEngineOKx1
import Derived.Test.YtbikfhccfenkdaaPFnExactEngineOKx10
import Derived.Test.YtbikfhccfenkdaaPFnExactEngineOKx12
import Derived.Test.YtbikfhccfenkdaaPFnExactEngineOKx13
import Derived.Test.YtbikfhccfenkdaaPFnExactEngineOKx14
import Derived.Test.YtbikfhccfenkdaaPFnExactEngineOKx19
import Derived.Test.YtbikfhccfenkdaaPFnExactEngineOKx20
namespace Go.Proofs.Ytbikfhccfenkdaa.PFnExactEngineOK
open Go.RowKit Go.Proofs.YtbikfhccfenkdaaW.PrintWords Go.Proofs.YtbikfhccfenkdaaW.PrintLast Go.Proofs.YtbikfhccfenkdaaW.PrintMore Go.Proofs.Ytbikfhccfenkdaa.Mac
attribute [local go_sem] max2_int min2_int max_two min_two max_three min_three max_four min_four
set_option linter.unusedVariables false
set_option linter.unusedSimpArgs false

attribute [local go_sem high] eqA71
-- EXTERNAL: function 21 (impl_Log_replay)
def impl_Log_replay.f (k : Nat) (a0_0 : Int) (a0_1 : ByteArray) (a0_2 : Int) : Option ((List S59) × Int × Int) :=
 (impl_Log_records.f a0_0 a0_1 a0_2).bind fun q => if q.1.length ≤ 1048576 then (replF (impl_readMutation.f k) q.1 []).bind fun o => (match o with
  | none => some ([], 0, 3)
  | some xs => if q.2.2 = 8 then some ([], 0, 8) else some (xs, (q.1.length : Int), 0)) else none
theorem impl_Log_replay.mono : ∀ a0 a1 a2 k, LeO (impl_Log_replay.f k a0 a1 a2) (impl_Log_replay.f (k + 1) a0 a1 a2) := by
 intro a0 a1 a2 k r h
 unfold impl_Log_replay.f at h ⊢
 obtain ⟨q, hq, h⟩ := Option.bind_eq_some_iff.mp h
 rw [hq]
 refine (Option.bind_some _ _).trans ?_
 revert h
 split
 ·intro h
  obtain ⟨o, ho, h⟩ := Option.bind_eq_some_iff.mp h
  rw [replF_mono (fun r => impl_readMutation.mono r k) _ _ o ho]
  exact (Option.bind_some _ _).trans h
 ·exact fun h => h
set_option maxHeartbeats 16000000 in
set_option maxRecDepth 100000 in
theorem i_replay (k : Nat) (a0_0 : Int) (a0_1 : ByteArray) (a0_2 : Int) (r1 : List S59) (r2 r3 : Int) (w : World) (h : impl_Log_replay.f k a0_0 a0_1 a0_2 = some (r1, r2, r3)) :
  Calls Try.prog 21 #[.agg #[.int .i64 a0_0, .string a0_1, .int .i64 a0_2]] w (ReplRet w r1 r2 r3) := by
 unfold impl_Log_replay.f at h
 obtain ⟨⟨rs, q2, q3⟩, hq, h⟩ := Option.bind_eq_some_iff.mp h
 dsimp only at h
 have hrl : rs.length ≤ 1048576 := by
  by_cases c : rs.length ≤ 1048576
  ·exact c
  ·rw [if_neg c] at h; cases h
 rw [if_pos hrl] at h
 obtain ⟨o, ho, h⟩ := Option.bind_eq_some_iff.mp h
 have HQ := Aside0.mk hq
 have HO := Aside0.mk ho
 have HH := Aside0.mk h
 have HB0 := Aside0.mk (below_alloc (Below.refl w.heap.size w) (.cells #[.int .i64 a0_0, .string a0_1, .int .i64 a0_2] 29))
 clear h hq ho
 go_enter Try.func21, Try.ntmps21
 go_wp2_with fail
 generalize w.alloc (.cells #[.int .i64 a0_0, .string a0_1, .int .i64 a0_2] 29) = w0 at *
 refine (impl_Log_records.calls a0_0 a0_1 a0_2 rs q2 q3 _ HQ.out).mono ?_
 rintro e w1 ⟨v, rfl, hR, hb⟩
 obtain ⟨A, c, rfl, hc, hC⟩ := Kd.R_reads hR
 have HC := Aside0.mk hC
 have HB := Aside0.mk (Below.trans HB0.out (hb.mono HB0.out.size))
 clear hC hb hR
 go_wp2_with fail
 go_loopg [8, 24] rs.length (fun gg s8 s24 wr => ∃ (kk : Nat) (xs : List S59), kk ≤ rs.length ∧ rs.length - kk ≤ gg ∧ s24 = .int .i64 kk ∧ Aside0 (Kd.S k59 59 wr w1.heap.size (fun _ => True) s8 xs) ∧ Aside0 (Below w1.heap.size w1 wr) ∧ Aside0 (replF (impl_readMutation.f k) (rs.drop kk) xs = some o))
 case atStart => exact ⟨0, [], Nat.zero_le _, Z43, rfl, ⟨S_empty_at _ (blk_made rfl) (Nat.le_refl _) trivial⟩, ⟨below_alloc (Below.refl _ _) _⟩, HO⟩
 case round =>
  obtain ⟨kk, xs, hkk, hgg, rfl, HS, HBW, HR⟩ := hrel
  by_cases hlt : kk < rs.length
  ·have hltz : (kk : Int) < (rs.length : Int) := by omega
   have h0k : 0 ≤ (kk : Int) := by omega
   obtain ⟨m1, m2, m3, m4, m5, m6, m7, hm, hor⟩ := replF_cons HR.out hlt
   have HM := Aside0.mk hm
   obtain ⟨ad, e, hx0⟩ := Kd.at_string (Kd.C_below HC.out HBW.out) (kk : Int) h0k hltz
   cases e
   simp only [Int.toNat_natCast] at hx0
   clear hm HR
   generalize (rdOf ByteArray.empty rs (kk : Int)) = q0 at *
   have HOR := Aside0.mk hor
   clear hor
   go_wp2_with fail
   refine (impl_readMutation.calls k q0 m1 m2 m3 m4 m5 m6 m7 _ HM.out).mono ?_
   rintro e w3 ⟨v5, rfl, hR6, hb3⟩
   obtain ⟨A6, c6, rfl, hc6, hC6⟩ := Kd.R_reads hR6
   have HS3 := Aside0.mk (Kd.S_below (Kd.S_bound HS.out) hb3)
   have HBW3 := Aside0.mk (Below.trans HBW.out (hb3.mono HBW.out.size))
   have HR6 := Aside0.mk hR6
   have HZ3 := Aside0.mk hb3.size
   clear hR6 hC6 hb3 HS hx0
   rcases HOR.out with ⟨rfl, rfl⟩ | ⟨rfl, hs, hl6, hcase⟩
   ·have hh := HH.out
    dsimp only at hh
    simp only [Option.some.injEq, Prod.mk.injEq] at hh
    obtain ⟨rfl, rfl, rfl⟩ := hh
    go_wp2
    go_ret3
    exact ⟨_, rfl, Kd.S_nil _ _ _ _ _, below_alloc (Below.trans HB.out (HBW3.out.mono HB.out.size)) _⟩
   ·obtain ⟨AS, cS, rfl⟩ := Kd.S_slice HS3.out
    have HSM := Aside0.mk hs
    have HCA := Aside0.mk hcase
    clear hs hcase HOR
    have HS4 := Aside0.mk (Kd.S_alloc HS3.out (.cells #[.int .i64 m1, .int .i64 m2, .int .i64 m3, .int .i64 m4, .string m5, .slice A6 m6.length c6] 65))
    have HR4 := Aside0.mk (Kd.R_bound (Kd.R_alloc HR6.out (.cells #[.int .i64 m1, .int .i64 m2, .int .i64 m3, .int .i64 m4, .string m5, .slice A6 m6.length c6] 65)))
    have HBW4 := Aside0.mk (below_alloc HBW3.out (.cells #[.int .i64 m1, .int .i64 m2, .int .i64 m3, .int .i64 m4, .string m5, .slice A6 m6.length c6] 65))
    have HZ4 := Aside0.mk (show wr.heap.size ≤ (w3.alloc (.cells #[.int .i64 m1, .int .i64 m2, .int .i64 m3, .int .i64 m4, .string m5, .slice A6 m6.length c6] 65)).heap.size from by have := HZ3.out; simp; omega)
    clear HS3 HR6 HBW3 HZ3
    go_wp2_with fail
    generalize w3.alloc (.cells #[.int .i64 m1, .int .i64 m2, .int .i64 m3, .int .i64 m4, .string m5, .slice A6 m6.length c6] 65) = w4 at *
    have HZW := Aside0.mk HBW.out.size
    obtain ⟨ok, hok⟩ : ∃ ok : Nat → Prop, ok = fun q => (w1.heap.size ≤ q ∧ q < wr.heap.size) ∨ w4.heap.size ≤ q := ⟨_, rfl⟩
    have hnew : ∀ q, w4.heap.size ≤ q → ok q := fun q hq => by rw [hok]; exact .inr hq
    have hold : ∀ q, ok q → w1.heap.size ≤ q := fun q hq => by rw [hok] at hq; rcases hq with hq | hq; exact hq.1; have := HZ4.out; have := HZW.out; omega
    have hitm : ∀ q, wr.heap.size ≤ q → q < w4.heap.size → ¬ ok q := fun q h1 h2 hq => by rw [hok] at hq; rcases hq with hq | hq <;> omega
    refine (i_mutate w1.heap.size ok _ xs m1 m2 m3 m4 m5 A6 c6 m6 w4 (Kd.S_mono HS4.out (fun q hq => by rw [hok]; exact .inl ⟨hq.2.1, hq.2.2.1⟩)) HBW4.out.size hnew (fun W' hk => (Kd.R_reads' (Kd.R_step HR4.out (fun q hq hlt => hk.block q hlt (hitm q hq.2.1 hlt)))).2.2) HSM.out.1 HSM.out.2 hl6).mono ?_
    rintro e w5 ⟨v7, rfl, hS7, hk7⟩
    have HBW5 := Aside0.mk (Below.trans HBW4.out (hk7.is_below HBW4.out.size hold))
    clear hnew hold hitm hok hk7
    rcases HCA.out with ⟨hne, rfl⟩ | ⟨h0, hr⟩
    ·have hh := HH.out
     dsimp only at hh
     simp only [Option.some.injEq, Prod.mk.injEq] at hh
     obtain ⟨rfl, rfl, rfl⟩ := hh
     have tne : ((mutL xs m1 m2 m3 m4 m5 m6).2 != 0) = true := bne_iff_ne.mpr hne
     clear hne hS7 HCA
     generalize (mutL xs m1 m2 m3 m4 m5 m6).2 = cd at *
     go_wp2
     go_ret3
     exact ⟨_, rfl, Kd.S_nil _ _ _ _ _, Below.trans HB.out (HBW5.out.mono HB.out.size)⟩
    ·have HS7 := Aside0.mk hS7
     have HR7 := Aside0.mk hr
     clear hS7 hr HCA
     generalize (mutL xs m1 m2 m3 m4 m5 m6).1 = xs' at *
     rw [h0]
     clear h0
     go_wp2
     go_roundg (rs.length - (kk + 1))
     case measure => omega
     case rel => exact ⟨kk + 1, xs', Z43, Z43, by go_num, ⟨Kd.S_mono HS7.out (fun _ _ => trivial)⟩, HBW5, HR7⟩
  ·have hltz : ¬ (kk : Int) < (rs.length : Int) := by omega
   obtain rfl : kk = rs.length := by omega
   have hr := HR.out
   rw [List.drop_of_length_le (Nat.le_refl _)] at hr
   have hoe := replF_nil hr
   subst hoe
   have hh := HH.out
   dsimp only at hh
   clear hr
   obtain ⟨AS, cS, rfl⟩ := Kd.S_slice HS.out
   by_cases h8 : q3 = 8
   ·rw [if_pos h8] at hh
    simp only [Option.some.injEq, Prod.mk.injEq] at hh
    obtain ⟨rfl, rfl, rfl⟩ := hh
    subst h8
    go_wp2
    go_ret3
    exact ⟨_, rfl, Kd.S_nil _ _ _ _ _, Below.trans HB.out (HBW.out.mono HB.out.size)⟩
   ·rw [if_neg h8] at hh
    simp only [Option.some.injEq, Prod.mk.injEq] at hh
    obtain ⟨rfl, rfl, rfl⟩ := hh
    have t8 : (q3 == 8) = false := beq_eq_false_iff_ne.mpr h8
    clear h8
    go_wp2
    go_ret3
    exact ⟨_, rfl, Kd.S_lower HS.out HB.out.size, Below.trans HB.out (HBW.out.mono HB.out.size)⟩
theorem impl_Log_replay.calls (k : Nat) (a0_0 : Int) (a0_1 : ByteArray) (a0_2 : Int) (r1 : List S59) (r2 r3 : Int) (w : World) (h : impl_Log_replay.f k a0_0 a0_1 a0_2 = some (r1, r2, r3)) :
  Calls Try.prog 21 #[.agg #[.int .i64 a0_0, .string a0_1, .int .i64 a0_2]] w fun e w' => ∃ v0_ : Value, e = .returned (.tuple #[v0_, .int .i64 r2, .int .i64 r3]) ∧ Kd.S k59 59 w' w.heap.size (fun _ => True) v0_ r1 ∧ Below w.heap.size w w' := i_replay k a0_0 a0_1 a0_2 r1 r2 r3 w h

/-! ### impl_Stored: function 44 -/
def impl_Stored.l0 : Nat → List (S71) → List (S71) → Int → Int → Option (Bool)
 | 0, _, _, _, _ => none
 | k + 1, x0, x1, x12, x13 => if x13 < x12 then (if 0 ≤ x13 then (if x13 < (x0.length : Int) then (if x13 < (x1.length : Int) then (if (!(((rd_T71 x0 x13).f0) == ((rd_T71 x1 x13).f0)) || (!(((rd_T71 x0 x13).f1) == ((rd_T71 x1 x13).f1)) || (!((((rd_T71 x0 x13).f2).toList) == (((rd_T71 x1 x13).f2).toList))))) = true then (some false) else (impl_Stored.l0 k x0 x1 x12 (wrap64 (x13 + 1)))) else (none)) else (none)) else (none)) else (some true)
def impl_Stored.f (k : Nat) (l0 : List (S71)) (l1 : List (S71)) : Option (Bool) := if (l0.length : Int) = (l1.length : Int) then (impl_Stored.l0 k l0 l1 (l0.length : Int) 0) else (some false)
theorem impl_Stored.mono_l : ∀ k, (∀ y0 y1 y2 y3, LeO (impl_Stored.l0 k y0 y1 y2 y3) (impl_Stored.l0 (k + 1) y0 y1 y2 y3))
 | 0 => fun _ _ _ _ r h => by simp [impl_Stored.l0] at h
 | k + 1 => by
  have ih0 := impl_Stored.mono_l k
  ·intro y0 y1 y2 y3
   unfold impl_Stored.l0
   exact tM
theorem impl_Stored.mono : ∀ a0 a1 k, LeO (impl_Stored.f k a0 a1) (impl_Stored.f (k + 1) a0 a1) := by
 intro a0 a1 k
 have ih0 := impl_Stored.mono_l k
 unfold impl_Stored.f
 exact tM
set_option maxHeartbeats 40000000 in
set_option maxRecDepth 100000 in
theorem impl_Stored.calls (k : Nat) (A0 : Option Addr) (c0 : Nat) (l0 : List (S71)) (A1 : Option Addr) (c1 : Nat) (l1 : List (S71)) (r : Bool) (w : World) (hr0 : Kd.C k71 w A0 l0.length l0) (hc0 : l0.length ≤ c0) (hr1 : Kd.C k71 w A1 l1.length l1) (hc1 : l1.length ≤ c1) (h : impl_Stored.f k l0 l1 = some r) :
  Calls Try.prog 44 #[.slice A0 l0.length c0, .slice A1 l1.length c1] w fun e w' => e = .returned (.bool r) ∧ Drawn0 w w' := by
 have hu71 := Try.underlying71
 have HR0 := Aside0.mk hr0
 have HC0 := Aside0.mk hc0
 clear hr0 hc0
 have HR1 := Aside0.mk hr1
 have HC1 := Aside0.mk hc1
 clear hr1 hc1
 have H : (if (l0.length : Int) = (l1.length : Int) then (impl_Stored.l0 k l0 l1 (l0.length : Int) 0) else (some false)) = some r := h
 clear h
 by_cases c3 : (l0.length : Int) = (l1.length : Int)
 ·rw [if_pos c3] at H
  have c3b0 := beq_iff_eq.mpr c3
  have c3b1 := bne_eq_false_iff_eq.mpr c3
  have c3b2 : (l0.length == l1.length) = true := by first | simpa using c3 | (simp at c3 ⊢; omega)
  clear c3
  have H' := Aside0.mk H
  clear H
  go_enter Try.func44, Try.ntmps44
  go_wp2
  repeat (go_quiet (fail); try go_wp2)
  go_loopg [13] k (fun kq v13 w' => ∃ (x13_1 : Int), v13 = .int .i64 x13_1 ∧ Aside0 (impl_Stored.l0 kq l0 l1 (l0.length : Int) x13_1 = some r) ∧ Aside0 (kq ≤ k) ∧ Drawn0 w w')
  case atStart => exact ⟨(0), (Z3), H', ⟨Nat.le_refl _⟩, Z13⟩
  case round =>
   clear H'
   (try clear c1); (try clear c3); (try clear c3b0); (try clear c3b1); (try clear c3b2)
   obtain ⟨x13_1, rfl, HA, HK1, ⟨m1, rfl⟩⟩ := hrel
   cases gk with
   | zero => exact absurd HA.out (by simp [impl_Stored.l0])
   | succ k1 =>
    have H := HA.out
    clear HA
    simp only [impl_Stored.l0] at H
    by_cases c4 : x13_1 < (l0.length : Int)
    ·rw [if_pos c4] at H
     have c4b0 := decide_eq_true c4
     clear c4
     obtain ⟨c5, H⟩ := ifS H
     have c5b0 : decide (0 ≤ x13_1) = true := decide_eq_true c5
     clear c5
     obtain ⟨c6, H⟩ := ifS H
     have c6b0 : decide (x13_1 < (l0.length : Int)) = true := decide_eq_true c6
     clear c6
     obtain ⟨c7, H⟩ := ifS H
     have c7b0 : decide (x13_1 < (l1.length : Int)) = true := decide_eq_true c7
     clear c7
     by_cases c8 : (!(((rd_T71 l0 x13_1).f0) == ((rd_T71 l1 x13_1).f0)) || (!(((rd_T71 l0 x13_1).f1) == ((rd_T71 l1 x13_1).f1)) || (!((((rd_T71 l0 x13_1).f2).toList) == (((rd_T71 l1 x13_1).f2).toList))))) = true
     ·rw [if_pos c8] at H
      have c8b0 : (!(((rd_T71 l0 x13_1).f0) == ((rd_T71 l1 x13_1).f0)) || (!(((rd_T71 l0 x13_1).f1) == ((rd_T71 l1 x13_1).f1)) || (!((((rd_T71 l0 x13_1).f2).toList) == (((rd_T71 l1 x13_1).f2).toList))))) = true := c8
      clear c8
      obtain rfl := Option.some.inj H
      have p353 : 0 ≤ (x13_1 : Int) := of_decide_eq_true (Z4)
      have q353 : x13_1 < (l0.length : Int) := of_decide_eq_true (Z4)
      obtain ⟨ad353, e353, hx353_0, hx353_1, hx353_2⟩ := at_T71 HR0.out x13_1 p353 q353
      cases e353
      replace p353 := eq_true p353
      replace q353 := eq_true q353
      have p354 : 0 ≤ (x13_1 : Int) := of_decide_eq_true (Z4)
      have q354 : x13_1 < (l1.length : Int) := of_decide_eq_true (Z4)
      obtain ⟨ad354, e354, hx354_0, hx354_1, hx354_2⟩ := at_T71 HR1.out x13_1 p354 q354
      cases e354
      replace p354 := eq_true p354
      replace q354 := eq_true q354
      go_wp2
      repeat (go_quiet (fail); try go_wp2)
      go_ret
      exact ⟨Z3, Z13⟩
     ·rw [if_neg c8] at H
      have c8b0 : (!(((rd_T71 l0 x13_1).f0) == ((rd_T71 l1 x13_1).f0)) || (!(((rd_T71 l0 x13_1).f1) == ((rd_T71 l1 x13_1).f1)) || (!((((rd_T71 l0 x13_1).f2).toList) == (((rd_T71 l1 x13_1).f2).toList))))) = false := by simpa using c8
      clear c8
      have H' := Aside0.mk H
      clear H
      have p353 : 0 ≤ (x13_1 : Int) := of_decide_eq_true (Z4)
      have q353 : x13_1 < (l0.length : Int) := of_decide_eq_true (Z4)
      obtain ⟨ad353, e353, hx353_0, hx353_1, hx353_2⟩ := at_T71 HR0.out x13_1 p353 q353
      cases e353
      replace p353 := eq_true p353
      replace q353 := eq_true q353
      have p354 : 0 ≤ (x13_1 : Int) := of_decide_eq_true (Z4)
      have q354 : x13_1 < (l1.length : Int) := of_decide_eq_true (Z4)
      obtain ⟨ad354, e354, hx354_0, hx354_1, hx354_2⟩ := at_T71 HR1.out x13_1 p354 q354
      cases e354
      replace p354 := eq_true p354
      replace q354 := eq_true q354
      go_wp2
      repeat (go_quiet (fail); try go_wp2)
      go_roundg k1
      case measure => have := HK1.out; omega
      case rel => exact ⟨(wrap64 (x13_1 + 1)), (Z3), H', ⟨Z110⟩, Z13⟩
    ·rw [if_neg c4] at H
     have c4b0 := decide_eq_false c4
     clear c4
     obtain rfl := Option.some.inj H
     go_wp2
     repeat (go_quiet (fail); try go_wp2)
     go_ret
     exact ⟨Z3, Z13⟩
 ·rw [if_neg c3] at H
  have c3b0 := beq_eq_false_iff_ne.mpr c3
  have c3b1 := bne_iff_ne.mpr c3
  have c3b2 : (l0.length == l1.length) = false := by first | simpa using c3 | (simp at c3 ⊢; omega)
  obtain rfl := Option.some.inj H
  go_enter Try.func44, Try.ntmps44
  go_wp2
  repeat (go_quiet (fail); try go_wp2)
  go_ret
  exact ⟨Z3, Z13⟩

/-! ### slices_Equal_string_string: function 45 -/
def slices_Equal_string_string.l0 : Nat → List ByteArray → List ByteArray → Int → Int → Option (Bool)
 | 0, _, _, _, _ => none
 | k + 1, x0, x1, x12, x13 => if x13 < x12 then (if 0 ≤ x13 then (if x13 < (x0.length : Int) then (if x13 < (x1.length : Int) then (if (rdOf ByteArray.empty x0 x13).toList = (rdOf ByteArray.empty x1 x13).toList then (slices_Equal_string_string.l0 k x0 x1 x12 (wrap64 (x13 + 1))) else (some false)) else (none)) else (none)) else (none)) else (some true)
def slices_Equal_string_string.f (k : Nat) (l0 : List ByteArray) (l1 : List ByteArray) : Option (Bool) := if (l0.length : Int) = (l1.length : Int) then (slices_Equal_string_string.l0 k l0 l1 (l0.length : Int) 0) else (some false)
theorem slices_Equal_string_string.mono_l : ∀ k, (∀ y0 y1 y2 y3, LeO (slices_Equal_string_string.l0 k y0 y1 y2 y3) (slices_Equal_string_string.l0 (k + 1) y0 y1 y2 y3))
 | 0 => fun _ _ _ _ r h => by simp [slices_Equal_string_string.l0] at h
 | k + 1 => by
  have ih0 := slices_Equal_string_string.mono_l k
  ·intro y0 y1 y2 y3
   unfold slices_Equal_string_string.l0
   exact tM
theorem slices_Equal_string_string.mono : ∀ a0 a1 k, LeO (slices_Equal_string_string.f k a0 a1) (slices_Equal_string_string.f (k + 1) a0 a1) := by
 intro a0 a1 k
 have ih0 := slices_Equal_string_string.mono_l k
 unfold slices_Equal_string_string.f
 exact tM
set_option maxHeartbeats 40000000 in
set_option maxRecDepth 100000 in
theorem slices_Equal_string_string.calls (k : Nat) (A0 : Option Addr) (c0 : Nat) (l0 : List ByteArray) (A1 : Option Addr) (c1 : Nat) (l1 : List ByteArray) (r : Bool) (w : World) (hr0 : Kd.C Kd.string w A0 l0.length l0) (hc0 : l0.length ≤ c0) (hr1 : Kd.C Kd.string w A1 l1.length l1) (hc1 : l1.length ≤ c1) (h : slices_Equal_string_string.f k l0 l1 = some r) :
  Calls Try.prog 45 #[.slice A0 l0.length c0, .slice A1 l1.length c1] w fun e w' => e = .returned (.bool r) ∧ Drawn0 w w' := by
 have HR0 := Aside0.mk hr0
 have HC0 := Aside0.mk hc0
 clear hr0 hc0
 have HR1 := Aside0.mk hr1
 have HC1 := Aside0.mk hc1
 clear hr1 hc1
 have H : (if (l0.length : Int) = (l1.length : Int) then (slices_Equal_string_string.l0 k l0 l1 (l0.length : Int) 0) else (some false)) = some r := h
 clear h
 by_cases c3 : (l0.length : Int) = (l1.length : Int)
 ·rw [if_pos c3] at H
  have c3b0 := beq_iff_eq.mpr c3
  have c3b1 := bne_eq_false_iff_eq.mpr c3
  have c3b2 : (l0.length == l1.length) = true := by first | simpa using c3 | (simp at c3 ⊢; omega)
  clear c3
  have H' := Aside0.mk H
  clear H
  go_enter Try.func45, Try.ntmps45
  go_wp2
  repeat (go_quiet (fail); try go_wp2)
  go_loopg [13] k (fun kq v13 w' => ∃ (x13_1 : Int), v13 = .int .i64 x13_1 ∧ Aside0 (slices_Equal_string_string.l0 kq l0 l1 (l0.length : Int) x13_1 = some r) ∧ Aside0 (kq ≤ k) ∧ Drawn0 w w')
  case atStart => exact ⟨(0), (Z3), H', ⟨Nat.le_refl _⟩, Z13⟩
  case round =>
   clear H'
   (try clear c1); (try clear c3); (try clear c3b0); (try clear c3b1); (try clear c3b2)
   obtain ⟨x13_1, rfl, HA, HK1, ⟨m1, rfl⟩⟩ := hrel
   cases gk with
   | zero => exact absurd HA.out (by simp [slices_Equal_string_string.l0])
   | succ k1 =>
    have H := HA.out
    clear HA
    simp only [slices_Equal_string_string.l0] at H
    by_cases c4 : x13_1 < (l0.length : Int)
    ·rw [if_pos c4] at H
     have c4b0 := decide_eq_true c4
     clear c4
     obtain ⟨c5, H⟩ := ifS H
     have c5b0 : decide (0 ≤ x13_1) = true := decide_eq_true c5
     clear c5
     obtain ⟨c6, H⟩ := ifS H
     have c6b0 : decide (x13_1 < (l0.length : Int)) = true := decide_eq_true c6
     clear c6
     obtain ⟨c7, H⟩ := ifS H
     have c7b0 : decide (x13_1 < (l1.length : Int)) = true := decide_eq_true c7
     clear c7
     by_cases c8 : (rdOf ByteArray.empty l0 x13_1).toList = (rdOf ByteArray.empty l1 x13_1).toList
     ·rw [if_pos c8] at H
      have c8b0 := beq_iff_eq.mpr c8
      have c8b1 := bne_eq_false_iff_eq.mpr c8
      clear c8
      have H' := Aside0.mk H
      clear H
      have p355 : 0 ≤ (x13_1 : Int) := of_decide_eq_true (Z4)
      have q355 : x13_1 < (l0.length : Int) := of_decide_eq_true (Z4)
      obtain ⟨ad355, e355, hx355_0⟩ := Kd.at_string HR0.out x13_1 p355 q355
      cases e355
      replace p355 := eq_true p355
      replace q355 := eq_true q355
      have p356 : 0 ≤ (x13_1 : Int) := of_decide_eq_true (Z4)
      have q356 : x13_1 < (l1.length : Int) := of_decide_eq_true (Z4)
      obtain ⟨ad356, e356, hx356_0⟩ := Kd.at_string HR1.out x13_1 p356 q356
      cases e356
      replace p356 := eq_true p356
      replace q356 := eq_true q356
      go_wp2
      repeat (go_quiet (fail); try go_wp2)
      go_roundg k1
      case measure => have := HK1.out; omega
      case rel => exact ⟨(wrap64 (x13_1 + 1)), (Z3), H', ⟨Z110⟩, Z13⟩
     ·rw [if_neg c8] at H
      have c8b0 := beq_eq_false_iff_ne.mpr c8
      have c8b1 := bne_iff_ne.mpr c8
      obtain rfl := Option.some.inj H
      have p355 : 0 ≤ (x13_1 : Int) := of_decide_eq_true (Z4)
      have q355 : x13_1 < (l0.length : Int) := of_decide_eq_true (Z4)
      obtain ⟨ad355, e355, hx355_0⟩ := Kd.at_string HR0.out x13_1 p355 q355
      cases e355
      replace p355 := eq_true p355
      replace q355 := eq_true q355
      have p356 : 0 ≤ (x13_1 : Int) := of_decide_eq_true (Z4)
      have q356 : x13_1 < (l1.length : Int) := of_decide_eq_true (Z4)
      obtain ⟨ad356, e356, hx356_0⟩ := Kd.at_string HR1.out x13_1 p356 q356
      cases e356
      replace p356 := eq_true p356
      replace q356 := eq_true q356
      go_wp2
      repeat (go_quiet (fail); try go_wp2)
      go_ret
      exact ⟨Z3, Z13⟩
    ·rw [if_neg c4] at H
     have c4b0 := decide_eq_false c4
     clear c4
     obtain rfl := Option.some.inj H
     go_wp2
     repeat (go_quiet (fail); try go_wp2)
     go_ret
     exact ⟨Z3, Z13⟩
 ·rw [if_neg c3] at H
  have c3b0 := beq_eq_false_iff_ne.mpr c3
  have c3b1 := bne_iff_ne.mpr c3
  have c3b2 : (l0.length == l1.length) = false := by first | simpa using c3 | (simp at c3 ⊢; omega)
  obtain rfl := Option.some.inj H
  go_enter Try.func45, Try.ntmps45
  go_wp2
  repeat (go_quiet (fail); try go_wp2)
  go_ret
  exact ⟨Z3, Z13⟩

-- EXTERNAL: function 22 (impl_sameStore)
def sameB (k : Nat) (x y : S59) : Option Bool := if x.f0.toList = y.f0.toList then (if x.f1 = y.f1 then (if x.f2 = y.f2 then (impl_Stored.f k x.f3 y.f3).bind fun b => (if b = true then slices_Equal_string_string.f k x.f4 y.f4 else some false) else some false) else some false) else some false
theorem sameB_mono (k : Nat) (x y : S59) : LeO (sameB k x y) (sameB (k + 1) x y) := by
 intro r h
 unfold sameB at h ⊢
 revert h
 split
 ·split
  ·split
   ·intro h
    obtain ⟨b, hb, h⟩ := Option.bind_eq_some_iff.mp h
    rw [impl_Stored.mono _ _ k b hb]
    refine (Option.bind_some _ _).trans ?_
    revert h
    split
    ·exact slices_Equal_string_string.mono _ _ k r
    ·exact fun h => h
   ·exact fun h => h
  ·exact fun h => h
 ·exact fun h => h
def sameF (k : Nat) : List S59 → List S59 → Option Bool
 | x :: xs, y :: ys => (sameB k x y).bind fun b => if b = true then sameF k xs ys else some false
 | _, _ => some true
theorem sameF_mono (k : Nat) : ∀ xs ys, LeO (sameF k xs ys) (sameF (k + 1) xs ys)
 | x :: xs, y :: ys => by
  intro r h
  unfold sameF at h ⊢
  obtain ⟨b, hb, h⟩ := Option.bind_eq_some_iff.mp h
  rw [sameB_mono k x y b hb]
  refine (Option.bind_some _ _).trans ?_
  revert h
  split
  ·exact sameF_mono k xs ys r
  ·exact fun h => h
 | [], _ => fun r h => by unfold sameF at h ⊢; exact h
 | _ :: _, [] => fun r h => by unfold sameF at h ⊢; exact h
def impl_sameStore.f (k : Nat) (l0 l1 : List S59) : Option Bool := if l0.length = l1.length then (if l0.length ≤ 1099511627776 then sameF k l0 l1 else none) else some false
theorem impl_sameStore.mono : ∀ a0 a1 k, LeO (impl_sameStore.f k a0 a1) (impl_sameStore.f (k + 1) a0 a1) := by
 intro a0 a1 k r h
 unfold impl_sameStore.f at h ⊢
 revert h
 split
 ·split
  ·exact sameF_mono k a0 a1 r
  ·exact fun h => h
 ·exact fun h => h
theorem sameF_drop {k : Nat} {l0 l1 : List S59} {kk : Nat} {r : Bool} (h : sameF k (l0.drop kk) (l1.drop kk) = some r) (h0 : kk < l0.length) (h1 : kk < l1.length) :
  ∃ b, sameB k (rd_T59 l0 (kk : Int)) (rd_T59 l1 (kk : Int)) = some b ∧ (b = false ∧ r = false ∨ b = true ∧ sameF k (l0.drop (kk + 1)) (l1.drop (kk + 1)) = some r) := by
 rw [List.drop_eq_getElem_cons h0, List.drop_eq_getElem_cons h1] at h
 unfold sameF at h
 obtain ⟨b, hb, h⟩ := Option.bind_eq_some_iff.mp h
 refine ⟨b, by rw [rdBox l0 kk h0, rdBox l1 kk h1]; exact hb, ?_⟩
 cases b with
 | true => rw [if_pos rfl] at h; exact .inr ⟨rfl, h⟩
 | false => rw [if_neg (Z124)] at h; injection h with h; exact .inl ⟨rfl, h.symm⟩
set_option maxHeartbeats 16000000 in
set_option maxRecDepth 100000 in
theorem same_clo (k : Nat) (x y : S59) (A3 A4 B3 B4 : Option Addr) (c3 c4 d3 d4 : Nat) (r : Bool) (w : World) (h3 : Kd.C k71 w A3 x.f3.length x.f3) (l3 : x.f3.length ≤ c3) (h4 : Kd.C Kd.string w A4 x.f4.length x.f4) (l4 : x.f4.length ≤ c4)
  (g3 : Kd.C k71 w B3 y.f3.length y.f3) (m3 : y.f3.length ≤ d3) (g4 : Kd.C Kd.string w B4 y.f4.length y.f4) (m4 : y.f4.length ≤ d4) (h : sameB k x y = some r) :
  Calls Try.prog 43 #[.agg #[.string x.f0, .int .i64 x.f1, .int .i64 x.f2, .slice A3 x.f3.length c3, .slice A4 x.f4.length c4], .agg #[.string y.f0, .int .i64 y.f1, .int .i64 y.f2, .slice B3 y.f3.length d3, .slice B4 y.f4.length d4]] w fun e w' => e = .returned (.bool r) ∧ Below w.heap.size w w' := by
 have H3 := Aside0.mk (Kd.C_alloc (Kd.C_alloc h3 (.cells #[.string x.f0, .int .i64 x.f1, .int .i64 x.f2, .slice A3 x.f3.length c3, .slice A4 x.f4.length c4] 59)) (.cells #[.string y.f0, .int .i64 y.f1, .int .i64 y.f2, .slice B3 y.f3.length d3, .slice B4 y.f4.length d4] 59))
 have H4 := Aside0.mk (Kd.C_alloc (Kd.C_alloc h4 (.cells #[.string x.f0, .int .i64 x.f1, .int .i64 x.f2, .slice A3 x.f3.length c3, .slice A4 x.f4.length c4] 59)) (.cells #[.string y.f0, .int .i64 y.f1, .int .i64 y.f2, .slice B3 y.f3.length d3, .slice B4 y.f4.length d4] 59))
 have G3 := Aside0.mk (Kd.C_alloc (Kd.C_alloc g3 (.cells #[.string x.f0, .int .i64 x.f1, .int .i64 x.f2, .slice A3 x.f3.length c3, .slice A4 x.f4.length c4] 59)) (.cells #[.string y.f0, .int .i64 y.f1, .int .i64 y.f2, .slice B3 y.f3.length d3, .slice B4 y.f4.length d4] 59))
 have G4 := Aside0.mk (Kd.C_alloc (Kd.C_alloc g4 (.cells #[.string x.f0, .int .i64 x.f1, .int .i64 x.f2, .slice A3 x.f3.length c3, .slice A4 x.f4.length c4] 59)) (.cells #[.string y.f0, .int .i64 y.f1, .int .i64 y.f2, .slice B3 y.f3.length d3, .slice B4 y.f4.length d4] 59))
 have HH := Aside0.mk h
 clear h3 h4 g3 g4 h
 unfold sameB at HH
 by_cases q0 : x.f0.toList = y.f0.toList

 ·have t0 : (x.f0.toList == y.f0.toList) = true := beq_iff_eq.mpr q0
  by_cases q1 : x.f1 = y.f1
  ·have t1 : (x.f1 == y.f1) = true := beq_iff_eq.mpr q1
   by_cases q2 : x.f2 = y.f2
   ·have t2 : (x.f2 == y.f2) = true := beq_iff_eq.mpr q2
    have hh := HH.out
    rw [if_pos q0, if_pos q1, if_pos q2] at hh
    obtain ⟨b, hb, hh⟩ := Option.bind_eq_some_iff.mp hh
    have HB := Aside0.mk hb
    clear hb HH q0 q1 q2
    cases b with
    | true =>
     rw [if_pos rfl] at hh
     have HS := Aside0.mk hh
     clear hh
     go_enter Try.func43, Try.ntmps43
     go_wp2_with (first | (go_at_call 44; refine (impl_Stored.calls k A3 c3 x.f3 B3 d3 y.f3 true _ (by (with_reducible repeat (first | exact H3.out | apply Kd.C_drewN | apply Kd.C_drew))) l3 (by (with_reducible repeat (first | exact G3.out | apply Kd.C_drewN | apply Kd.C_drew))) m3 HB.out).mono ?_; rintro e w' ⟨rfl, ⟨n1, rfl⟩⟩) | (go_at_call 45; refine (slices_Equal_string_string.calls k A4 c4 x.f4 B4 d4 y.f4 r _ (by (with_reducible repeat (first | exact H4.out | apply Kd.C_drewN | apply Kd.C_drew))) l4 (by (with_reducible repeat (first | exact G4.out | apply Kd.C_drewN | apply Kd.C_drew))) m4 HS.out).mono ?_; rintro e w' ⟨rfl, ⟨n2, rfl⟩⟩))
     go_ret
     exact ⟨rfl, Z6⟩
    | false =>
     rw [if_neg (Z124)] at hh
     injection hh with hh
     subst hh
     go_enter Try.func43, Try.ntmps43
     go_wp2_with (first | (go_at_call 44; refine (impl_Stored.calls k A3 c3 x.f3 B3 d3 y.f3 false _ (by (with_reducible repeat (first | exact H3.out | apply Kd.C_drewN | apply Kd.C_drew))) l3 (by (with_reducible repeat (first | exact G3.out | apply Kd.C_drewN | apply Kd.C_drew))) m3 HB.out).mono ?_; rintro e w' ⟨rfl, ⟨n1, rfl⟩⟩))
     go_ret
     exact ⟨rfl, Z6⟩
   ·have t2 : (x.f2 == y.f2) = false := beq_eq_false_iff_ne.mpr q2
    have hh := HH.out
    rw [if_pos q0, if_pos q1, if_neg q2] at hh
    injection hh with hh
    subst hh
    clear HH q0 q1 q2
    go_enter Try.func43, Try.ntmps43
    go_wp2
    go_ret
    exact ⟨rfl, Z6⟩
  ·have t1 : (x.f1 == y.f1) = false := beq_eq_false_iff_ne.mpr q1
   have hh := HH.out
   rw [if_pos q0, if_neg q1] at hh
   injection hh with hh
   subst hh
   clear HH q0 q1
   go_enter Try.func43, Try.ntmps43
   go_wp2
   go_ret
   exact ⟨rfl, Z6⟩
 ·have t0 : (x.f0.toList == y.f0.toList) = false := beq_eq_false_iff_ne.mpr q0
  have hh := HH.out
  rw [if_neg q0] at hh
  injection hh with hh
  subst hh
  clear HH q0
  go_enter Try.func43, Try.ntmps43
  go_wp2
  go_ret
  exact ⟨rfl, Z6⟩
set_option maxHeartbeats 16000000 in
set_option maxRecDepth 100000 in
theorem same_eqf (k : Nat) (A0 A1 : Option Addr) (c0 c1 : Nat) (l0 l1 : List S59) (r : Bool) (w : World) (hr0 : Kd.C k59 w A0 l0.length l0) (hr1 : Kd.C k59 w A1 l1.length l1) (h : impl_sameStore.f k l0 l1 = some r) :
  Calls Try.prog 42 #[.slice A0 l0.length c0, .slice A1 l1.length c1, .func (.func 43) #[] #[]] w fun e w' => e = .returned (.bool r) ∧ Below w.heap.size w w' := by
 have eg := enters_of Try.func43 (Z24) rfl
 unfold impl_sameStore.f at h
 by_cases hl : l0.length = l1.length
 ·rw [if_pos hl] at h
  have hs : l0.length ≤ 1099511627776 := by
   by_cases c : l0.length ≤ 1099511627776
   ·exact c
   ·rw [if_neg c] at h; cases h
  rw [if_pos hs] at h
  have tn : ((l0.length : Int) != (l1.length : Int)) = false := bne_eq_false_iff_eq.mpr (Z43)
  have HC0 := Aside0.mk hr0
  have HC1 := Aside0.mk hr1
  have HH := Aside0.mk h
  have HLL := Aside0.mk hl
  clear hr0 hr1 h hl
  go_enter Try.func42, Try.ntmps42
  go_wp2
  go_loopg [7, 17] l0.length (fun gg _ s17 wr => ∃ kk : Nat, kk ≤ l0.length ∧ l0.length - kk ≤ gg ∧ s17 = .int .i64 kk ∧ Aside0 (Below w.heap.size w wr) ∧ Aside0 (sameF k (l0.drop kk) (l1.drop kk) = some r))
  case atStart => exact ⟨0, Nat.zero_le _, Z43, rfl, ⟨Below.refl _ w⟩, HH⟩
  case round =>
   obtain ⟨kk, hkk, hg, rfl, BW, AI⟩ := hrel
   by_cases hlt : kk < l0.length
   ·have hlt1 : kk < l1.length := by have := HLL.out; omega
    have hltz : (kk : Int) < (l0.length : Int) := by omega
    have hltz1 : (kk : Int) < (l1.length : Int) := by omega
    have h0 : 0 ≤ (kk : Int) := by omega
    obtain ⟨b, hb, hcase⟩ := sameF_drop AI.out hlt hlt1
    obtain ⟨ad, A3, c3, A4, c4, e, hx0, hx1, hx2, hx3, hx4, l3, C3, l4, C4⟩ := at_T59 (Kd.C_below HC0.out BW.out) kk h0 hltz
    cases e
    obtain ⟨ad1, B3, d3, B4, d4, e, gx0, gx1, gx2, gx3, gx4, m3, D3, m4, D4⟩ := at_T59 (Kd.C_below HC1.out BW.out) kk h0 hltz1
    cases e
    simp only [Int.toNat_natCast] at hx0 hx1 hx2 hx3 hx4 gx0 gx1 gx2 gx3 gx4
    generalize rd_T59 l0 (kk : Int) = x at *
    generalize rd_T59 l1 (kk : Int) = y at *
    have HCC := Aside0.mk (And.intro C3 (And.intro C4 (And.intro D3 D4)))
    have HBB := Aside0.mk hb
    have HCA := Aside0.mk hcase
    have gx0' := fun o => ((below_alloc (Below.refl wr.heap.size wr) o).cell (World.block_lt_of_cell? wr _ gx0)).trans gx0
    have gx1' := fun o => ((below_alloc (Below.refl wr.heap.size wr) o).cell (World.block_lt_of_cell? wr _ gx1)).trans gx1
    have gx2' := fun o => ((below_alloc (Below.refl wr.heap.size wr) o).cell (World.block_lt_of_cell? wr _ gx2)).trans gx2
    have gx3' := fun o => ((below_alloc (Below.refl wr.heap.size wr) o).cell (World.block_lt_of_cell? wr _ gx3)).trans gx3
    have gx4' := fun o => ((below_alloc (Below.refl wr.heap.size wr) o).cell (World.block_lt_of_cell? wr _ gx4)).trans gx4
    clear C3 C4 D3 D4 hb hcase AI
    rcases HCA.out with ⟨rfl, rfl⟩ | ⟨rfl, hnx⟩
    ·clear HCA
     go_wp2_with (go_at_call 43; refine (same_clo k x y A3 A4 B3 B4 c3 c4 d3 d4 false _ (by (with_reducible repeat (first | exact HCC.out.1 | apply Kd.C_alloc))) l3 (by (with_reducible repeat (first | exact HCC.out.2.1 | apply Kd.C_alloc))) l4 (by (with_reducible repeat (first | exact HCC.out.2.2.1 | apply Kd.C_alloc))) m3 (by (with_reducible repeat (first | exact HCC.out.2.2.2 | apply Kd.C_alloc))) m4 HBB.out).mono ?_; rintro e w' ⟨rfl, hb'⟩)
     go_ret
     exact ⟨rfl, Below.trans BW.out ((Below.trans (below_alloc (below_alloc (Below.refl _ _) _) _) (hb'.mono (by simp; omega))).mono BW.out.size)⟩
    ·have HNX := Aside0.mk hnx
     clear HCA hnx
     go_wp2_with (go_at_call 43; refine (same_clo k x y A3 A4 B3 B4 c3 c4 d3 d4 true _ (by (with_reducible repeat (first | exact HCC.out.1 | apply Kd.C_alloc))) l3 (by (with_reducible repeat (first | exact HCC.out.2.1 | apply Kd.C_alloc))) l4 (by (with_reducible repeat (first | exact HCC.out.2.2.1 | apply Kd.C_alloc))) m3 (by (with_reducible repeat (first | exact HCC.out.2.2.2 | apply Kd.C_alloc))) m4 HBB.out).mono ?_; rintro e w' ⟨rfl, hb'⟩)
     go_roundg (l0.length - (kk + 1))
     case measure => omega
     case rel => exact ⟨kk + 1, Z43, Z43, by go_num, ⟨Below.trans BW.out ((Below.trans (below_alloc (below_alloc (Below.refl _ _) _) _) (hb'.mono (by simp; omega))).mono BW.out.size)⟩, HNX⟩
   ·have hltz : ¬ (kk : Int) < (l0.length : Int) := by omega
    obtain rfl : kk = l0.length := by omega
    have hh := AI.out
    rw [List.drop_of_length_le (Nat.le_refl _)] at hh
    unfold sameF at hh
    injection hh with hh
    subst hh
    go_wp2
    go_ret
    exact ⟨rfl, BW.out⟩
 ·rw [if_neg hl] at h
  injection h with h
  subst h
  have tn : ((l0.length : Int) != (l1.length : Int)) = true := bne_iff_ne.mpr (Z43)
  clear hr0 hr1
  go_enter Try.func42, Try.ntmps42
  go_wp2
  go_ret
  exact ⟨rfl, Below.refl _ _⟩
set_option maxHeartbeats 16000000 in
set_option maxRecDepth 100000 in
theorem impl_sameStore.calls (k : Nat) (A0 : Option Addr) (c0 : Nat) (l0 : List S59) (A1 : Option Addr) (c1 : Nat) (l1 : List S59) (r : Bool) (w : World) (hr0 : Kd.C k59 w A0 l0.length l0) (hc0 : l0.length ≤ c0) (hr1 : Kd.C k59 w A1 l1.length l1) (hc1 : l1.length ≤ c1) (h : impl_sameStore.f k l0 l1 = some r) :
  Calls Try.prog 22 #[.slice A0 l0.length c0, .slice A1 l1.length c1] w fun e w' => e = .returned (.bool r) ∧ Below w.heap.size w w' := by
 have HC0 := Aside0.mk hr0
 have HC1 := Aside0.mk hr1
 have HH := Aside0.mk h
 clear hr0 hr1 h
 go_enter Try.func22, Try.ntmps22
 go_wp2_with (go_at_call 42; refine (same_eqf k A0 A1 c0 c1 l0 l1 r _ HC0.out HC1.out HH.out).mono ?_; rintro e w' ⟨rfl, hb'⟩)
 go_ret
 exact ⟨rfl, hb'⟩

end Go.Proofs.Ytbikfhccfenkdaa.PFnExactEngineOK
