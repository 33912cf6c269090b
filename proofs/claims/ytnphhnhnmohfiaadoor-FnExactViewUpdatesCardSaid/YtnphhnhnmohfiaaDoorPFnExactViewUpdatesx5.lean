/- Contracts of the functions that a statement reaches: written for this seat by wip/x/xprint.py over the kit's print, with own contracts for what the print lacks. -/
import Derived.Test.YtnphhnhnmohfiaaDoorPFnExactViewUpdatesx0
import Derived.Test.YtnphhnhnmohfiaaDoorPFnExactViewUpdatesx3
import Derived.Test.YtnphhnhnmohfiaaDoorPFnExactViewUpdatesx4
namespace Go.Proofs.YtnphhnhnmohfiaaDoor.PFnExactViewUpdates
open Go.RowKit Go.Proofs.YtnphhnhnmohfiaaDoorW.PrintWords Go.Proofs.YtnphhnhnmohfiaaDoorW.PrintLast Go.Proofs.YtnphhnhnmohfiaaDoorW.PrintMore Go.Proofs.YtnphhnhnmohfiaaDoor.Mac
attribute [local go_sem] max2_int min2_int max_two min_two max_three min_three max_four min_four   -- for this text's walks alone
set_option linter.unusedVariables false
set_option linter.unusedSimpArgs false

/-! ### spec_l13Updates: function 47 -/
mutual
def spec_l13Updates.l0 : Nat → List Int → ByteArray → List Int → Int → Int → ByteArray → Int → Int → List (S67) → List ByteArray → Option (ByteArray × List Int)
 | 0, _, _, _, _, _, _, _, _, _, _ => none
 | k + 1, x1, x6, x7, x8, x9, x143000, x143001, x143002, x143003, x143004 => if x9 < (x1.length : Int) then (if 0 ≤ x9 then ((spec_l09Mail.f k x143000 x143001 x143002 x143003 x143004 (rd x1 x9)).bind fun t147 => (if t147 < 0 then ((spec_l00Digits.f k (wrap64 ((wrap64 (x9 + 1)) - x8))).bind fun t148 => (if 2 + t148.size ≤ 9223372036854775807 then (if ((⟨#[42, 32]⟩ : ByteArray) ++ t148).size + 10 ≤ 9223372036854775807 then (if x6.size + (((⟨#[42, 32]⟩ : ByteArray) ++ t148) ++ (⟨#[32, 69, 88, 80, 85, 78, 71, 69, 13, 10]⟩ : ByteArray)).size ≤ 9223372036854775807 then (spec_l13Updates.l0 k x1 (x6 ++ (((⟨#[42, 32]⟩ : ByteArray) ++ t148) ++ (⟨#[32, 69, 88, 80, 85, 78, 71, 69, 13, 10]⟩ : ByteArray))) x7 (wrap64 (x8 + 1)) (wrap64 (x9 + 1)) x143000 x143001 x143002 x143003 x143004) else (none)) else (none)) else (none))) else (if x7.length < 17592186044416 then (spec_l13Updates.l0 k x1 x6 (x7 ++ [rd x1 x9]) x8 (wrap64 (x9 + 1)) x143000 x143001 x143002 x143003 x143004) else (none)))) else (none)) else (spec_l13Updates.l1 k x6 x7 (x7.length : Int) 0 x143000 x143001 x143002 x143003 x143004)
def spec_l13Updates.l1 : Nat → ByteArray → List Int → Int → Int → ByteArray → Int → Int → List (S67) → List ByteArray → Option (ByteArray × List Int)
 | 0, _, _, _, _, _, _, _, _, _ => none
 | k + 1, x6, x7, x10, x11, x143000, x143001, x143002, x143003, x143004 => if x11 < (x143003.length : Int) then (if 0 ≤ x11 then (if (x7.length : Int) = 0 then (if x7.length < 17592186044416 then (spec_l13Updates.l1 k x6 (x7 ++ [(rd_T67 x143003 x11).f0]) x10 (wrap64 (x11 + 1)) x143000 x143001 x143002 x143003 x143004) else (none)) else (if 0 ≤ (wrap64 ((x7.length : Int) - 1)) then (if (wrap64 ((x7.length : Int) - 1)) < (x7.length : Int) then (if ((rd_T67 x143003 x11).f0) > (rd x7 (wrap64 ((x7.length : Int) - 1))) then (if x7.length < 17592186044416 then (spec_l13Updates.l1 k x6 (x7 ++ [(rd_T67 x143003 x11).f0]) x10 (wrap64 (x11 + 1)) x143000 x143001 x143002 x143003 x143004) else (none)) else (spec_l13Updates.l1 k x6 x7 x10 (wrap64 (x11 + 1)) x143000 x143001 x143002 x143003 x143004)) else (none)) else (none))) else (none)) else (if (x7.length : Int) = x10 then (some (x6, x7)) else ((spec_l00Digits.f k (x7.length : Int)).bind fun t161 => (if 2 + t161.size ≤ 9223372036854775807 then (if ((⟨#[42, 32]⟩ : ByteArray) ++ t161).size + 9 ≤ 9223372036854775807 then (if x6.size + (((⟨#[42, 32]⟩ : ByteArray) ++ t161) ++ (⟨#[32, 69, 88, 73, 83, 84, 83, 13, 10]⟩ : ByteArray)).size ≤ 9223372036854775807 then (some (x6 ++ (((⟨#[42, 32]⟩ : ByteArray) ++ t161) ++ (⟨#[32, 69, 88, 73, 83, 84, 83, 13, 10]⟩ : ByteArray)), x7)) else (none)) else (none)) else (none))))
end
def spec_l13Updates.f (k : Nat) (a0_0 : ByteArray) (a0_1 : Int) (a0_2 : Int) (l0_3 : List (S67)) (l0_4 : List ByteArray) (l1 : List Int) : Option (ByteArray × List Int) := spec_l13Updates.l0 k l1 (⟨#[]⟩ : ByteArray) (([] : List Int)) 0 0 a0_0 a0_1 a0_2 l0_3 l0_4
theorem spec_l13Updates.mono_l : ∀ k, (∀ y0 y1 y2 y3 y4 y5 y6 y7 y8 y9, LeO (spec_l13Updates.l0 k y0 y1 y2 y3 y4 y5 y6 y7 y8 y9) (spec_l13Updates.l0 (k + 1) y0 y1 y2 y3 y4 y5 y6 y7 y8 y9)) ∧ (∀ y0 y1 y2 y3 y4 y5 y6 y7 y8, LeO (spec_l13Updates.l1 k y0 y1 y2 y3 y4 y5 y6 y7 y8) (spec_l13Updates.l1 (k + 1) y0 y1 y2 y3 y4 y5 y6 y7 y8))
 | 0 => ⟨fun _ _ _ _ _ _ _ _ _ _ r h => by simp [spec_l13Updates.l0] at h, fun _ _ _ _ _ _ _ _ _ r h => by simp [spec_l13Updates.l1] at h⟩
 | k + 1 => by
  obtain ⟨ih0, ih1⟩ := spec_l13Updates.mono_l k
  refine ⟨?_, ?_⟩
  ·intro y0 y1 y2 y3 y4 y5 y6 y7 y8 y9
   unfold spec_l13Updates.l0
   repeat' first
   | (with_reducible exact ih0 _ _ _ _ _ _ _ _ _ _)
   | (with_reducible exact ih1 _ _ _ _ _ _ _ _ _)
   | (with_reducible exact spec_l00Digits.mono _ _)
   | (with_reducible exact spec_l09Mail.mono _ _ _ _ _ _ _)
   | (with_reducible exact LeO.refl _)
   | (with_reducible exact LeO.none _)
   | (with_reducible refine LeO.ite ?_ ?_)
   | (with_reducible refine LeO.bind ?_ (fun _ => ?_))
   | exact ih0 _ _ _ _ _ _ _ _ _ _
   | exact ih1 _ _ _ _ _ _ _ _ _
   | exact spec_l00Digits.mono _ _
   | exact spec_l09Mail.mono _ _ _ _ _ _ _
   | exact LeO.none _
   | refine LeO.ite ?_ ?_
   | refine LeO.bind ?_ (fun _ => ?_)
  ·intro y0 y1 y2 y3 y4 y5 y6 y7 y8
   unfold spec_l13Updates.l1
   repeat' first
   | (with_reducible exact ih0 _ _ _ _ _ _ _ _ _ _)
   | (with_reducible exact ih1 _ _ _ _ _ _ _ _ _)
   | (with_reducible exact spec_l00Digits.mono _ _)
   | (with_reducible exact spec_l09Mail.mono _ _ _ _ _ _ _)
   | (with_reducible exact LeO.refl _)
   | (with_reducible exact LeO.none _)
   | (with_reducible refine LeO.ite ?_ ?_)
   | (with_reducible refine LeO.bind ?_ (fun _ => ?_))
   | exact ih0 _ _ _ _ _ _ _ _ _ _
   | exact ih1 _ _ _ _ _ _ _ _ _
   | exact spec_l00Digits.mono _ _
   | exact spec_l09Mail.mono _ _ _ _ _ _ _
   | exact LeO.none _
   | refine LeO.ite ?_ ?_
   | refine LeO.bind ?_ (fun _ => ?_)
theorem spec_l13Updates.mono : ∀ a0 a1 a2 a3 a4 a5 k, LeO (spec_l13Updates.f k a0 a1 a2 a3 a4 a5) (spec_l13Updates.f (k + 1) a0 a1 a2 a3 a4 a5) := by
 intro a0 a1 a2 a3 a4 a5 k
 obtain ⟨ih0, ih1⟩ := spec_l13Updates.mono_l k
 unfold spec_l13Updates.f
 repeat' first
   | (with_reducible exact ih0 _ _ _ _ _ _ _ _ _ _)
   | (with_reducible exact ih1 _ _ _ _ _ _ _ _ _)
   | (with_reducible exact spec_l00Digits.mono _ _)
   | (with_reducible exact spec_l09Mail.mono _ _ _ _ _ _ _)
   | (with_reducible exact LeO.refl _)
   | (with_reducible exact LeO.none _)
   | (with_reducible refine LeO.ite ?_ ?_)
   | (with_reducible refine LeO.bind ?_ (fun _ => ?_))
   | exact ih0 _ _ _ _ _ _ _ _ _ _
   | exact ih1 _ _ _ _ _ _ _ _ _
   | exact spec_l00Digits.mono _ _
   | exact spec_l09Mail.mono _ _ _ _ _ _ _
   | exact LeO.none _
   | refine LeO.ite ?_ ?_
   | refine LeO.bind ?_ (fun _ => ?_)
set_option maxHeartbeats 40000000 in
set_option maxRecDepth 100000 in
theorem spec_l13Updates.calls (k : Nat) (a0_0 : ByteArray) (a0_1 : Int) (a0_2 : Int) (A0_3 : Option Addr) (c0_3 : Nat) (l0_3 : List (S67)) (A0_4 : Option Addr) (c0_4 : Nat) (l0_4 : List ByteArray) (A1 : Option Addr) (c1 : Nat) (l1 : List Int) (r1 : ByteArray) (r2 : List Int) (w : World) (hr0_3 : Kd.C k67 w A0_3 l0_3.length l0_3) (hc0_3 : l0_3.length ≤ c0_3) (hr0_4 : Kd.C Kd.string w A0_4 l0_4.length l0_4) (hc0_4 : l0_4.length ≤ c0_4) (hr1 : Kd.C (Kd.int .i64) w A1 l1.length l1) (hc1 : l1.length ≤ c1) (h : spec_l13Updates.f k a0_0 a0_1 a0_2 l0_3 l0_4 l1 = some (r1, r2)) :
  Calls Tryd.prog 47 #[.agg #[.string a0_0, .int .i64 a0_1, .int .i64 a0_2, .slice A0_3 l0_3.length c0_3, .slice A0_4 l0_4.length c0_4], .slice A1 l1.length c1] w fun e w' => ∃ v1_ : Value, e = .returned (.tuple #[.string r1, v1_]) ∧ Kd.R (Kd.int .i64) 3 w' w.heap.size (fun _ => True) v1_ r2 ∧ Below w.heap.size w w' := by
 have hu32 := Tryd.underlying32
 have HR0_3 := Aside0.mk hr0_3
 have HC0_3 := Aside0.mk hc0_3
 clear hr0_3 hc0_3
 have HR0_4 := Aside0.mk hr0_4
 have HC0_4 := Aside0.mk hc0_4
 clear hr0_4 hc0_4
 have HR1 := Aside0.mk hr1
 have HC1 := Aside0.mk hc1
 clear hr1 hc1
 have HB := Aside0.mk (Below.refl w.heap.size w)
 have H : (spec_l13Updates.l0 k l1 (⟨#[]⟩ : ByteArray) (([] : List Int)) 0 0 a0_0 a0_1 a0_2 l0_3 l0_4) = some (r1, r2) := h
 clear h
 obtain ⟨y143, hy143⟩ : ∃ y_ : List Int, y_ = (([] : List Int)) := ⟨_, rfl⟩
 replace H : (spec_l13Updates.l0 k l1 (⟨#[]⟩ : ByteArray) y143 0 0 a0_0 a0_1 a0_2 l0_3 l0_4) = some (r1, r2) := by first | (rw [hy143]; with_reducible exact H) | (have H2_ := (Option.bind_some _ _).symm.trans H; rw [hy143]; with_reducible exact H2_) | (have H2_ := (Option.bind_some _ _).symm.trans H; with_reducible exact H2_) | with_reducible exact H | (rw [hy143]; exact H) | exact H
 have Ny143 := Aside0.mk hy143
 clear hy143
 have H' := Aside0.mk H
 clear H
 go_enter Tryd.func47, Tryd.ntmps47
 go_wp2_with (first | ((with_reducible refine gate_dst (N := 2) rfl ?_); (try (refine gate_guard (by rfl) ?_; dsimp only)); refine box_event ?hg (N := 2) ?hd (cs := #[.string a0_0, .int .i64 a0_1, .int .i64 a0_2, .slice A0_3 l0_3.length c0_3, .slice A0_4 l0_4.length c0_4]) (t := 32) ?hr ?_; (case hd => rfl); (case hg => rfl); (case hr => first | (go_simp; done) | (go_simp; rfl)); intro gb142 hg w3 hbox hb; have n0_ := Aside0.mk (below_step (t1) hb); have n1_ := Aside0.mk (hbox); have n2_ := Aside0.mk ((by rw [hg]; exact (below_size (t1)) : w.heap.size ≤ gb142)); have n3_ := Aside0.mk ((by rw [hg]; exact (below_size (t1)) : w.heap.size ≤ gb142)); clear HB; have HB := n0_; have BK142 := n1_; have GW142 := n2_; have GE142 := n3_; clear n0_ n1_ n2_ n3_; clear hb hbox hg) | ((with_reducible refine gate_dst (N := 13) rfl ?_); (try (refine gate_guard (by rfl) ?_; dsimp only)); refine Kd.R_lit (Kd.int .i64) _ 3 ?hg (N := 13) ?hd (xs := ([] : List Int)) (inner := []) (ok := fun _ => True) (okp := fun _ => True) ?hr ?hp (fun _ hk => hk) trivial (Below.refl _ _) (Nat.le_refl _) (t50) ?_; (case hd => rfl); (case hg => rfl); (case hr => first | (go_simp; done) | (go_simp; rfl)); (case hp => exact (Reps.none _ _)); intro v144 w4 ho5 hb hg_ hnew_; clear hg_ hnew_; (first | rw [← Ny143.out] at ho5 | (simp only [Int.reduceToNat] at ho5; rw [← Ny143.out] at ho5)); have n0_ := Aside0.mk (Kd.R_lower ho5 (below_size (t14))); have n1_ := Aside0.mk (blk_below (g := gb142) (o := .cells #[.string a0_0, .int .i64 a0_1, .int .i64 a0_2, .slice A0_3 l0_3.length c0_3, .slice A0_4 l0_4.length c0_4] 32 (0, 0)) (t26) hb); have n2_ := Aside0.mk (below_step (t14) hb); clear BK142; clear HB; have HO145 := n0_; have BK142 := n1_; have HB := n2_; clear n0_ n1_ n2_; clear hb ho5))
 go_loopg [6, 7, 8, 9] k (fun kq v6 v7 v8 v9 w' => ∃ (x6_1 : ByteArray) (x7_1 : List Int) (x8_1 : Int) (x9_1 : Int), v6 = .string x6_1 ∧ v8 = .int .i64 x8_1 ∧ v9 = .int .i64 x9_1 ∧ Aside0 (spec_l13Updates.l0 kq l1 x6_1 x7_1 x8_1 x9_1 a0_0 a0_1 a0_2 l0_3 l0_4 = some (r1, r2)) ∧ Aside0 (kq ≤ k) ∧ Aside0 (Kd.R (Kd.int .i64) 3 w' w.heap.size (fun _ => True) v7 x7_1) ∧ Aside0 (w'.heap[gb142]? = some (.cells #[.string a0_0, .int .i64 a0_1, .int .i64 a0_2, (.slice A0_3 l0_3.length c0_3), (.slice A0_4 l0_4.length c0_4)] 32 (0, 0))) ∧ Aside0 (Below w.heap.size w w'))
 case atStart => exact ⟨((⟨#[]⟩ : ByteArray)), (y143), (0), (0), (t0), (t0), (t0), H', ⟨Nat.le_refl _⟩, ⟨by (with_reducible repeat (first | apply Kd.R_alloc | apply Kd.R_drewN | apply Kd.R_drew)); exact HO145.out⟩, ⟨t26⟩, ⟨t14⟩⟩
 case round =>
  clear H'
  try clear c1
  try clear p2
  try clear c4
  obtain ⟨x6_1, x7_1, x8_1, x9_1, rfl, rfl, rfl, HA, HK1, HO_7, BK142, HB⟩ := hrel
  cases gk with
  | zero => exact absurd HA.out (by simp [spec_l13Updates.l0])
  | succ k1 =>
   have H := HA.out
   clear HA
   simp only [spec_l13Updates.l0] at H
   by_cases c6 : x9_1 < (l1.length : Int)
   ·rw [if_pos c6] at H
    have c6b0 : decide (x9_1 < (l1.length : Int)) = true := decide_eq_true c6
    clear c6
    by_cases c7 : 0 ≤ x9_1
    ·rw [if_pos c7] at H
     have c7b0 : decide (0 ≤ x9_1) = true := decide_eq_true c7
     clear c7
     replace H := Option.bind_eq_some_iff.mp H
     obtain ⟨t147, A80, H⟩ := H
     replace H : (if t147 < 0 then ((spec_l00Digits.f k1 (wrap64 ((wrap64 (x9_1 + 1)) - x8_1))).bind fun t148 => (if 2 + t148.size ≤ 9223372036854775807 then (if ((⟨#[42, 32]⟩ : ByteArray) ++ t148).size + 10 ≤ 9223372036854775807 then (if x6_1.size + (((⟨#[42, 32]⟩ : ByteArray) ++ t148) ++ (⟨#[32, 69, 88, 80, 85, 78, 71, 69, 13, 10]⟩ : ByteArray)).size ≤ 9223372036854775807 then (spec_l13Updates.l0 k1 l1 (x6_1 ++ (((⟨#[42, 32]⟩ : ByteArray) ++ t148) ++ (⟨#[32, 69, 88, 80, 85, 78, 71, 69, 13, 10]⟩ : ByteArray))) x7_1 (wrap64 (x8_1 + 1)) (wrap64 (x9_1 + 1)) a0_0 a0_1 a0_2 l0_3 l0_4) else (none)) else (none)) else (none))) else (if x7_1.length < 17592186044416 then (spec_l13Updates.l0 k1 l1 x6_1 (x7_1 ++ [rd l1 x9_1]) x8_1 (wrap64 (x9_1 + 1)) a0_0 a0_1 a0_2 l0_3 l0_4) else (none))) = some (r1, r2) := H
     have A8 := Aside0.mk A80
     clear A80
     by_cases c9 : t147 < 0
     ·rw [if_pos c9] at H
      have c9b0 : decide (t147 < 0) = true := decide_eq_true c9
      clear c9
      replace H := Option.bind_eq_some_iff.mp H
      obtain ⟨t148, A100, H⟩ := H
      replace H : (if 2 + t148.size ≤ 9223372036854775807 then (if ((⟨#[42, 32]⟩ : ByteArray) ++ t148).size + 10 ≤ 9223372036854775807 then (if x6_1.size + (((⟨#[42, 32]⟩ : ByteArray) ++ t148) ++ (⟨#[32, 69, 88, 80, 85, 78, 71, 69, 13, 10]⟩ : ByteArray)).size ≤ 9223372036854775807 then (spec_l13Updates.l0 k1 l1 (x6_1 ++ (((⟨#[42, 32]⟩ : ByteArray) ++ t148) ++ (⟨#[32, 69, 88, 80, 85, 78, 71, 69, 13, 10]⟩ : ByteArray))) x7_1 (wrap64 (x8_1 + 1)) (wrap64 (x9_1 + 1)) a0_0 a0_1 a0_2 l0_3 l0_4) else (none)) else (none)) else (none)) = some (r1, r2) := H
      have A10 := Aside0.mk A100
      clear A100
      by_cases c11 : 2 + t148.size ≤ 9223372036854775807
      ·rw [if_pos c11] at H
       have c11b0 := eq_true c11
       have c11b1 : decide (2 + t148.size ≤ 9223372036854775807) = true := decide_eq_true c11
       try have c11b2 : (9223372036854775807 < 2 + t148.size) = False := eq_false (Nat.not_lt.2 c11)
       by_cases c12 : ((⟨#[42, 32]⟩ : ByteArray) ++ t148).size + 10 ≤ 9223372036854775807
       ·rw [if_pos c12] at H
        have c12b0 := eq_true c12
        have c12b1 : decide (((⟨#[42, 32]⟩ : ByteArray) ++ t148).size + 10 ≤ 9223372036854775807) = true := decide_eq_true c12
        try have c12b2 : (9223372036854775807 < ((⟨#[42, 32]⟩ : ByteArray) ++ t148).size + 10) = False := eq_false (Nat.not_lt.2 c12); try (have c12b3 := c12b2; simp only [ByteArray.size_append, show (⟨#[42, 32]⟩ : ByteArray).size = 2 from rfl] at c12b3)
        by_cases c13 : x6_1.size + (((⟨#[42, 32]⟩ : ByteArray) ++ t148) ++ (⟨#[32, 69, 88, 80, 85, 78, 71, 69, 13, 10]⟩ : ByteArray)).size ≤ 9223372036854775807
        ·rw [if_pos c13] at H
         have c13b0 := eq_true c13
         have c13b1 : decide (x6_1.size + (((⟨#[42, 32]⟩ : ByteArray) ++ t148) ++ (⟨#[32, 69, 88, 80, 85, 78, 71, 69, 13, 10]⟩ : ByteArray)).size ≤ 9223372036854775807) = true := decide_eq_true c13
         try have c13b2 : (9223372036854775807 < x6_1.size + (((⟨#[42, 32]⟩ : ByteArray) ++ t148) ++ (⟨#[32, 69, 88, 80, 85, 78, 71, 69, 13, 10]⟩ : ByteArray)).size) = False := eq_false (Nat.not_lt.2 c13); try (have c13b3 := c13b2; simp only [ByteArray.size_append, show (⟨#[42, 32]⟩ : ByteArray).size = 2 from rfl, show (⟨#[32, 69, 88, 80, 85, 78, 71, 69, 13, 10]⟩ : ByteArray).size = 10 from rfl] at c13b3)
         have H' := Aside0.mk H
         clear H
         try go_wp2
         have n0_ := Aside0.mk (Kd.R_drew HO_7.out)
         have n1_ := Aside0.mk (blk_drew BK142.out)
         have n2_ := Aside0.mk (below_drew1 HB.out)
         clear HO_7
         clear BK142
         clear HB
         have HO_7 := n0_
         have BK142 := n1_
         have HB := n2_
         clear n0_ n1_ n2_
         have p146 : 0 ≤ (x9_1 : Int) := of_decide_eq_true (t3)
         have q146 : x9_1 < (l1.length : Int) := of_decide_eq_true (t3)
         obtain ⟨ad146, e146, hx146_0⟩ := Kd.at_int HR1.out x9_1 p146 q146
         have hw146_0 := hx146_0
         cases e146
         replace hx146_0 := (HB.out.cell (World.block_lt_of_cell? w _ hx146_0)).trans hx146_0
         replace p146 := eq_true p146
         replace q146 := eq_true q146
         refine start_ (n := 7) (S := fun w' => w'.cell? ⟨gb142, 0, none⟩ = some (.string a0_0) ∧ w'.cell? ⟨gb142, 1, none⟩ = some (.int .i64 a0_1) ∧ w'.cell? ⟨gb142, 2, none⟩ = some (.int .i64 a0_2) ∧ w'.cell? ⟨gb142, 3, none⟩ = some (.slice A0_3 l0_3.length c0_3) ∧ w'.cell? ⟨gb142, 4, none⟩ = some (.slice A0_4 l0_4.length c0_4) ∧ w'.cell? (ad146.add (x9_1).toNat) = some (.int .i64 (rd l1 x9_1))) (ds := []) #[false, false, false, false, false, false, false] (t23) rfl rfl ⟨(blk_cell BK142.out 0).trans rfl, (blk_cell BK142.out 1).trans rfl, (blk_cell BK142.out 2).trans rfl, (blk_cell BK142.out 3).trans rfl, (blk_cell BK142.out 4).trans rfl, ((HB.out.cell (World.block_lt_of_cell? w _ hw146_0)).trans hw146_0)⟩ (fun hHeld => ?_)
         generalize wr.drew = w14 at HO_7 BK142 HB hx146_0 hHeld ⊢
         refine pA 1 21 ?_
         refine pA 2 22 ?_
         refine pA 3 23 ?_
         refine tA 0 20 ?_
         refine tA 4 24 ?_
         refine oA 5 25 (fun K hK => ?_)
         refine goes_ Tryd.func85 (t23) rfl #[.agg #[.string a0_0, .int .i64 a0_1, .int .i64 a0_2, .slice A0_3 l0_3.length c0_3, .slice A0_4 l0_4.length c0_4], .int .i64 (rd l1 x9_1)] (by rfl) rfl rfl (t2) ?_
         with_reducible refine (spec_l09Mail.calls k1 a0_0 a0_1 a0_2 _ _ l0_3 _ _ l0_4 (rd l1 x9_1) t147 _ ?side1 ?side2 ?side3 ?side4 A8.out).mono ?_
         (case side1 => repeat (first | exact (Kd.C_below HR0_3.out HB.out) | (with_reducible refine Kd.C_alloc ?_ _) | (with_reducible refine Kd.C_drewN ?_ _) | (with_reducible refine Kd.C_drew ?_)))
         (case side2 => exact HC0_3.out)
         (case side3 => repeat (first | exact (Kd.C_below HR0_4.out HB.out) | (with_reducible refine Kd.C_alloc ?_ _) | (with_reducible refine Kd.C_drewN ?_ _) | (with_reducible refine Kd.C_drew ?_)))
         (case side4 => exact HC0_4.out)
         rintro e w15 ⟨rfl, hb⟩
         refine ⟨_, rfl, ?_⟩
         have n0_ := Aside0.mk (Kd.R_below (t9) hb)
         have n1_ := Aside0.mk (blk_below (g := gb142) (o := .cells #[.string a0_0, .int .i64 a0_1, .int .i64 a0_2, .slice A0_3 l0_3.length c0_3, .slice A0_4 l0_4.length c0_4] 32 (0, 0)) (t26) hb)
         have n2_ := Aside0.mk (below_step (t14) hb)
         clear HO_7
         clear BK142
         clear HB
         have HO_7 := n0_
         have BK142 := n1_
         have HB := n2_
         clear n0_ n1_ n2_
         (try clear hb)
         (try clear hb2)
         (try clear hk)
         (try clear hi)
         refine hK.out _ _ ⟨(blk_cell BK142.out 0).trans rfl, (blk_cell BK142.out 1).trans rfl, (blk_cell BK142.out 2).trans rfl, (blk_cell BK142.out 3).trans rfl, (blk_cell BK142.out 4).trans rfl, ((HB.out.cell (World.block_lt_of_cell? w _ hw146_0)).trans hw146_0)⟩ (fun hHeld => ?_)
         clear hK K
         refine norm_ (a' := ?_) ?_ ?_
         rotate_left
         ·show Act.put _ (some 25) _ = _
          simp only [Act.put, List.setIfInBounds_toArray, List.set_cons_zero, List.set_cons_succ, i64_w, i32_w]
          rfl
         refine pA 6 26 ?_
         refine done_ (t23) ?_
         try go_wp2_with (first | ((with_reducible refine gate_callee (f := 86) rfl ?_); refine goesL_ (some 32) rfl rfl Tryd.func86 (t23) rfl #[.int .i64 (wrap64 ((wrap64 (x9_1 + 1)) - x8_1))] rfl (t2) ?_; (with_reducible refine (spec_l00Digits.calls k1 (wrap64 ((wrap64 (x9_1 + 1)) - x8_1)) t148 _ A10.out).mono ?_); rintro e w16 ⟨rfl, hb⟩; refine ⟨_, rfl, ?_⟩; have n0_ := Aside0.mk (Kd.R_below (t9) hb); have n1_ := Aside0.mk (blk_below (g := gb142) (o := .cells #[.string a0_0, .int .i64 a0_1, .int .i64 a0_2, .slice A0_3 l0_3.length c0_3, .slice A0_4 l0_4.length c0_4] 32 (0, 0)) (t26) hb); have n2_ := Aside0.mk (below_step (t14) hb); clear HO_7; clear BK142; clear HB; have HO_7 := n0_; have BK142 := n1_; have HB := n2_; clear n0_ n1_ n2_; (try clear hb); (try clear hb2); (try clear hk); (try clear hi)))
         go_roundg k1
         case measure => have := HK1.out; omega
         case rel => exact ⟨(x6_1 ++ (((⟨#[42, 32]⟩ : ByteArray) ++ t148) ++ (⟨#[32, 69, 88, 80, 85, 78, 71, 69, 13, 10]⟩ : ByteArray))), (x7_1), (wrap64 (x8_1 + 1)), (wrap64 (x9_1 + 1)), (t0), (t0), (t0), H', ⟨t59⟩, ⟨t9⟩, ⟨t26⟩, ⟨t14⟩⟩
        ·rw [if_neg c13] at H
         exact absurd H (t50)
       ·rw [if_neg c12] at H
        exact absurd H (t50)
      ·rw [if_neg c11] at H
       exact absurd H (t50)
     ·rw [if_neg c9] at H
      have c9b0 : decide (t147 < 0) = false := decide_eq_false c9
      clear c9
      by_cases c17 : x7_1.length < 17592186044416
      ·rw [if_pos c17] at H
       have LMc17 := Aside0.mk c17
       clear c17
       obtain ⟨y150, hy150⟩ : ∃ y_ : List Int, y_ = (x7_1 ++ [rd l1 x9_1]) := ⟨_, rfl⟩
       replace H : (spec_l13Updates.l0 k1 l1 x6_1 y150 x8_1 (wrap64 (x9_1 + 1)) a0_0 a0_1 a0_2 l0_3 l0_4) = some (r1, r2) := by first | (rw [hy150]; with_reducible exact H) | (have H2_ := (Option.bind_some _ _).symm.trans H; rw [hy150]; with_reducible exact H2_) | (have H2_ := (Option.bind_some _ _).symm.trans H; with_reducible exact H2_) | with_reducible exact H | (rw [hy150]; exact H) | exact H
       have Ny150 := Aside0.mk hy150
       clear hy150
       have H' := Aside0.mk H
       clear H
       try go_wp2
       have n0_ := Aside0.mk (Kd.R_drew HO_7.out)
       have n1_ := Aside0.mk (blk_drew BK142.out)
       have n2_ := Aside0.mk (below_drew1 HB.out)
       clear HO_7
       clear BK142
       clear HB
       have HO_7 := n0_
       have BK142 := n1_
       have HB := n2_
       clear n0_ n1_ n2_
       have p146 : 0 ≤ (x9_1 : Int) := of_decide_eq_true (t3)
       have q146 : x9_1 < (l1.length : Int) := of_decide_eq_true (t3)
       obtain ⟨ad146, e146, hx146_0⟩ := Kd.at_int HR1.out x9_1 p146 q146
       have hw146_0 := hx146_0
       cases e146
       replace hx146_0 := (HB.out.cell (World.block_lt_of_cell? w _ hx146_0)).trans hx146_0
       replace p146 := eq_true p146
       replace q146 := eq_true q146
       refine start_ (n := 7) (S := fun w' => w'.cell? ⟨gb142, 0, none⟩ = some (.string a0_0) ∧ w'.cell? ⟨gb142, 1, none⟩ = some (.int .i64 a0_1) ∧ w'.cell? ⟨gb142, 2, none⟩ = some (.int .i64 a0_2) ∧ w'.cell? ⟨gb142, 3, none⟩ = some (.slice A0_3 l0_3.length c0_3) ∧ w'.cell? ⟨gb142, 4, none⟩ = some (.slice A0_4 l0_4.length c0_4) ∧ w'.cell? (ad146.add (x9_1).toNat) = some (.int .i64 (rd l1 x9_1))) (ds := []) #[false, false, false, false, false, false, false] (t23) rfl rfl ⟨(blk_cell BK142.out 0).trans rfl, (blk_cell BK142.out 1).trans rfl, (blk_cell BK142.out 2).trans rfl, (blk_cell BK142.out 3).trans rfl, (blk_cell BK142.out 4).trans rfl, ((HB.out.cell (World.block_lt_of_cell? w _ hw146_0)).trans hw146_0)⟩ (fun hHeld => ?_)
       generalize wr.drew = w18 at HO_7 BK142 HB hx146_0 hHeld ⊢
       refine pA 1 21 ?_
       refine pA 2 22 ?_
       refine pA 3 23 ?_
       refine tA 0 20 ?_
       refine tA 4 24 ?_
       refine oA 5 25 (fun K hK => ?_)
       refine goes_ Tryd.func85 (t23) rfl #[.agg #[.string a0_0, .int .i64 a0_1, .int .i64 a0_2, .slice A0_3 l0_3.length c0_3, .slice A0_4 l0_4.length c0_4], .int .i64 (rd l1 x9_1)] (by rfl) rfl rfl (t2) ?_
       with_reducible refine (spec_l09Mail.calls k1 a0_0 a0_1 a0_2 _ _ l0_3 _ _ l0_4 (rd l1 x9_1) t147 _ ?side1 ?side2 ?side3 ?side4 A8.out).mono ?_
       (case side1 => repeat (first | exact (Kd.C_below HR0_3.out HB.out) | (with_reducible refine Kd.C_alloc ?_ _) | (with_reducible refine Kd.C_drewN ?_ _) | (with_reducible refine Kd.C_drew ?_)))
       (case side2 => exact HC0_3.out)
       (case side3 => repeat (first | exact (Kd.C_below HR0_4.out HB.out) | (with_reducible refine Kd.C_alloc ?_ _) | (with_reducible refine Kd.C_drewN ?_ _) | (with_reducible refine Kd.C_drew ?_)))
       (case side4 => exact HC0_4.out)
       rintro e w19 ⟨rfl, hb⟩
       refine ⟨_, rfl, ?_⟩
       have n0_ := Aside0.mk (Kd.R_below (t9) hb)
       have n1_ := Aside0.mk (blk_below (g := gb142) (o := .cells #[.string a0_0, .int .i64 a0_1, .int .i64 a0_2, .slice A0_3 l0_3.length c0_3, .slice A0_4 l0_4.length c0_4] 32 (0, 0)) (t26) hb)
       have n2_ := Aside0.mk (below_step (t14) hb)
       clear HO_7
       clear BK142
       clear HB
       have HO_7 := n0_
       have BK142 := n1_
       have HB := n2_
       clear n0_ n1_ n2_
       (try clear hb)
       (try clear hb2)
       (try clear hk)
       (try clear hi)
       refine hK.out _ _ ⟨(blk_cell BK142.out 0).trans rfl, (blk_cell BK142.out 1).trans rfl, (blk_cell BK142.out 2).trans rfl, (blk_cell BK142.out 3).trans rfl, (blk_cell BK142.out 4).trans rfl, ((HB.out.cell (World.block_lt_of_cell? w _ hw146_0)).trans hw146_0)⟩ (fun hHeld => ?_)
       clear hK K
       refine norm_ (a' := ?_) ?_ ?_
       rotate_left
       ·show Act.put _ (some 25) _ = _
        simp only [Act.put, List.setIfInBounds_toArray, List.set_cons_zero, List.set_cons_succ, i64_w, i32_w]
        rfl
       refine pA 6 26 ?_
       refine done_ (t23) ?_
       have p149 : 0 ≤ (x9_1 : Int) := of_decide_eq_true (t3)
       have q149 : x9_1 < (l1.length : Int) := of_decide_eq_true (t3)
       obtain ⟨ad149, e149, hx149_0⟩ := Kd.at_int HR1.out x9_1 p149 q149
       obtain rfl : ad146 = ad149 := (by injection e149)
       replace hx149_0 := (HB.out.cell (World.block_lt_of_cell? w _ hx149_0)).trans hx149_0
       replace p149 := eq_true p149
       replace q149 := eq_true q149
       try go_wp2_with (first | ((with_reducible refine gate_builtin (b := .append) (xs := #[.tmp 38, .tmp 43]) rfl ?_); (try (refine gate_guard (by rfl) ?_; dsimp only)); at_builtin; refine Kd.R_append (Kd.int .i64) (w0 := w) w.heap.size rfl (.tmp 38) (.tmp 43) 26 3 (.int .i64 0) 8 rfl Tryd.underlying26 info3 rfl (t49) (t70) u7 x7_1 (rd l1 x9_1) [.int .i64 (rd l1 x9_1)] (fun _ => True) (fun _ => False) rfl rfl ?aP (fun _ hk => hk.elim) ?aF ?aO ?aB ?aS ?aL ?_; (case aP => exact rfl); (case aB => exact (t14)); (case aF => exact (fun _ _ => trivial)); (case aO => exact (t9)); (case aS => exact (below_size (t14))); (case aL => have := LMc17.out; omega); intro v151 w20 ho hb hg hat; rw [← Ny150.out] at ho; have n0_ := Aside0.mk (blk_grown (g := gb142) (o := .cells #[.string a0_0, .int .i64 a0_1, .int .i64 a0_2, .slice A0_3 l0_3.length c0_3, .slice A0_4 l0_4.length c0_4] 32 (0, 0)) (t26) hg (Kd.R_ne HO_7.out BK142.out (t49))); have n1_ := Aside0.mk (hb); have n2_ := Aside0.mk (ho); clear BK142; clear HB; clear HO_7; have BK142 := n0_; have HB := n1_; have HO152 := n2_; clear n0_ n1_ n2_; clear ho hb hg hat))
       go_roundg k1
       case measure => have := HK1.out; omega
       case rel => exact ⟨(x6_1), (y150), (x8_1), (wrap64 (x9_1 + 1)), (t0), (t0), (t0), H', ⟨t59⟩, ⟨by (with_reducible repeat (first | apply Kd.R_alloc | apply Kd.R_drewN | apply Kd.R_drew)); exact HO152.out⟩, ⟨t26⟩, ⟨t14⟩⟩
      ·rw [if_neg c17] at H
       exact absurd H (t50)
    ·rw [if_neg c7] at H
     exact absurd H (t50)
   ·rw [if_neg c6] at H
    have c6b0 : decide (x9_1 < (l1.length : Int)) = false := decide_eq_false c6
    clear c6
    have H' := Aside0.mk H
    clear H
    obtain ⟨Ao21, co21, eo21⟩ := Kd.R_slice HO_7.out
    subst eo21
    go_wp2
    go_loopg [7, 11] k1 (fun kq v7 v11 w' => ∃ (x7_2 : List Int) (x11_2 : Int), v11 = .int .i64 x11_2 ∧ Aside0 (spec_l13Updates.l1 kq x6_1 x7_2 (x7_1.length : Int) x11_2 a0_0 a0_1 a0_2 l0_3 l0_4 = some (r1, r2)) ∧ Aside0 (kq ≤ k1) ∧ Aside0 (Kd.R (Kd.int .i64) 3 w' w.heap.size (fun _ => True) v7 x7_2) ∧ Aside0 (w'.heap[gb142]? = some (.cells #[.string a0_0, .int .i64 a0_1, .int .i64 a0_2, (.slice A0_3 l0_3.length c0_3), (.slice A0_4 l0_4.length c0_4)] 32 (0, 0))) ∧ Aside0 (Below w.heap.size w w'))
    case atStart => exact ⟨(x7_1), (0), (t0), H', ⟨Nat.le_refl _⟩, ⟨t9⟩, ⟨t26⟩, ⟨t14⟩⟩
    case round =>
     clear H'
     try clear c1
     try clear p1
     try clear q1
     try clear hx1
     try clear p2
     try clear c4
     try clear c6
     try clear c6b0
     try clear p6
     try clear c7
     try clear c7b0
     try clear c8
     try clear c9
     try clear c9b0
     try clear c11
     try clear c11b0
     try clear c11b1
     try clear c11b2
     try clear c12
     try clear c12b0
     try clear c12b1
     try clear c12b2
     try clear c13
     try clear c13b0
     try clear c13b1
     try clear c13b2
     try clear p14
     try clear q14
     try clear hx14
     try clear c17
     try clear hx146_0
     try clear hx149_0
     try clear p146
     try clear p149
     try clear p2
     try clear q146
     try clear q149
     obtain ⟨x7_2, x11_2, rfl, HA, HK2, HO_7, BK142, HB⟩ := hrel
     cases gk with
     | zero => exact absurd HA.out (by simp [spec_l13Updates.l1])
     | succ k2 =>
      have H := HA.out
      clear HA
      simp only [spec_l13Updates.l1] at H
      by_cases c22 : x11_2 < (l0_3.length : Int)
      ·rw [if_pos c22] at H
       have c22b0 : decide (x11_2 < (l0_3.length : Int)) = true := decide_eq_true c22
       clear c22
       by_cases c23 : 0 ≤ x11_2
       ·rw [if_pos c23] at H
        have c23b0 : decide (0 ≤ x11_2) = true := decide_eq_true c23
        clear c23
        by_cases c24 : (x7_2.length : Int) = 0
        ·rw [if_pos c24] at H
         have c24b0 : ((x7_2.length : Int) == 0) = true := beq_iff_eq.mpr c24
         have c24b1 : ((x7_2.length : Int) != 0) = false := bne_eq_false_iff_eq.mpr c24
         clear c24
         by_cases c25 : x7_2.length < 17592186044416
         ·rw [if_pos c25] at H
          have LMc25 := Aside0.mk c25
          clear c25
          obtain ⟨y154, hy154⟩ : ∃ y_ : List Int, y_ = (x7_2 ++ [(rd_T67 l0_3 x11_2).f0]) := ⟨_, rfl⟩
          replace H : (spec_l13Updates.l1 k2 x6_1 y154 (x7_1.length : Int) (wrap64 (x11_2 + 1)) a0_0 a0_1 a0_2 l0_3 l0_4) = some (r1, r2) := by first | (rw [hy154]; with_reducible exact H) | (have H2_ := (Option.bind_some _ _).symm.trans H; rw [hy154]; with_reducible exact H2_) | (have H2_ := (Option.bind_some _ _).symm.trans H; with_reducible exact H2_) | with_reducible exact H | (rw [hy154]; exact H) | exact H
          have Ny154 := Aside0.mk hy154
          clear hy154
          have H' := Aside0.mk H
          clear H
          have hcz26_0 : wr.cell? ⟨gb142, 0, none⟩ = some (.string a0_0) := (blk_cell BK142.out 0).trans rfl
          have hcz26_1 : wr.cell? ⟨gb142, 1, none⟩ = some (.int .i64 a0_1) := (blk_cell BK142.out 1).trans rfl
          have hcz26_2 : wr.cell? ⟨gb142, 2, none⟩ = some (.int .i64 a0_2) := (blk_cell BK142.out 2).trans rfl
          have hcz26_3 : wr.cell? ⟨gb142, 3, none⟩ = some (.slice A0_3 l0_3.length c0_3) := (blk_cell BK142.out 3).trans rfl
          have hcz26_4 : wr.cell? ⟨gb142, 4, none⟩ = some (.slice A0_4 l0_4.length c0_4) := (blk_cell BK142.out 4).trans rfl
          have hfz26_0 := blk_frozen BK142.out 0
          have hfz26_1 := blk_frozen BK142.out 1
          have hfz26_2 := blk_frozen BK142.out 2
          have hfz26_3 := blk_frozen BK142.out 3
          have hfz26_4 := blk_frozen BK142.out 4
          have p153 : 0 ≤ (x11_2 : Int) := of_decide_eq_true (t3)
          have q153 : x11_2 < (l0_3.length : Int) := of_decide_eq_true (t3)
          obtain ⟨ad153, e153, hx153_0, hx153_1, hx153_2⟩ := at_T67 HR0_3.out x11_2 p153 q153
          cases e153
          replace hx153_0 := (HB.out.cell (World.block_lt_of_cell? w _ hx153_0)).trans hx153_0
          replace hx153_1 := (HB.out.cell (World.block_lt_of_cell? w _ hx153_1)).trans hx153_1
          replace hx153_2 := (HB.out.cell (World.block_lt_of_cell? w _ hx153_2)).trans hx153_2
          replace p153 := eq_true p153
          replace q153 := eq_true q153
          obtain ⟨Ao27, co27, eo27⟩ := Kd.R_slice HO_7.out
          subst eo27
          go_wp2_with (first | ((with_reducible refine gate_builtin (b := .append) (xs := #[.tmp 73, .tmp 75]) rfl ?_); (try (refine gate_guard (by rfl) ?_; dsimp only)); at_builtin; refine Kd.R_append (Kd.int .i64) (w0 := w) w.heap.size rfl (.tmp 73) (.tmp 75) 26 3 (.int .i64 0) 8 rfl Tryd.underlying26 info3 rfl (t49) (t70) (.slice Ao27 x7_2.length co27) x7_2 ((rd_T67 l0_3 x11_2).f0) [.int .i64 ((rd_T67 l0_3 x11_2).f0)] (fun _ => True) (fun _ => False) rfl rfl ?aP (fun _ hk => hk.elim) ?aF ?aO ?aB ?aS ?aL ?_; (case aP => exact rfl); (case aB => exact (t14)); (case aF => exact (fun _ _ => trivial)); (case aO => exact (t9)); (case aS => exact (below_size (t14))); (case aL => have := LMc25.out; omega); intro v155 w28 ho hb hg hat; rw [← Ny154.out] at ho; have n0_ := Aside0.mk (blk_grown (g := gb142) (o := .cells #[.string a0_0, .int .i64 a0_1, .int .i64 a0_2, .slice (some ad153) l0_3.length c0_3, .slice A0_4 l0_4.length c0_4] 32 (0, 0)) (t26) hg (Kd.R_ne HO_7.out BK142.out (t49))); have n1_ := Aside0.mk (hb); have n2_ := Aside0.mk (ho); clear BK142; clear HB; clear HO_7; have BK142 := n0_; have HB := n1_; have HO156 := n2_; clear n0_ n1_ n2_; clear ho hb hg hat))
          go_roundg k2
          case measure => have := HK1.out; have := HK2.out; omega
          case rel => exact ⟨(y154), (wrap64 (x11_2 + 1)), (t0), H', ⟨by have := HK1.out; have := HK2.out; omega⟩, ⟨by (with_reducible repeat (first | apply Kd.R_alloc | apply Kd.R_drewN | apply Kd.R_drew)); exact HO156.out⟩, ⟨t26⟩, ⟨t14⟩⟩
         ·rw [if_neg c25] at H
          exact absurd H (t50)
        ·rw [if_neg c24] at H
         have c24b0 : ((x7_2.length : Int) == 0) = false := beq_eq_false_iff_ne.mpr c24
         have c24b1 : ((x7_2.length : Int) != 0) = true := bne_iff_ne.mpr c24
         have c24b2 : ¬ (x7_2 = []) := fun h_ => c24 (by rw [h_]; rfl)
         obtain ⟨ji29, hji29⟩ : ∃ j_ : Int, (wrap64 ((x7_2.length : Int) - 1)) = j_ := ⟨_, rfl⟩
         replace H : (if 0 ≤ (ji29) then (if (ji29) < (x7_2.length : Int) then (if ((rd_T67 l0_3 x11_2).f0) > (rd x7_2 (ji29)) then (if x7_2.length < 17592186044416 then (spec_l13Updates.l1 k2 x6_1 (x7_2 ++ [(rd_T67 l0_3 x11_2).f0]) (x7_1.length : Int) (wrap64 (x11_2 + 1)) a0_0 a0_1 a0_2 l0_3 l0_4) else (none)) else (spec_l13Updates.l1 k2 x6_1 x7_2 (x7_1.length : Int) (wrap64 (x11_2 + 1)) a0_0 a0_1 a0_2 l0_3 l0_4)) else (none)) else (none)) = some (r1, r2) := by first | (rw [hji29] at H; exact H) | (simp only [hji29] at H ⊢; exact H)
         have hji29w : (IntKind.i64.wrap ((x7_2.length : Int) - 1)) = ji29 := (i64_w _).trans hji29
         by_cases c30 : 0 ≤ (ji29)
         ·rw [if_pos c30] at H
          have c30b0 : decide (0 ≤ (ji29)) = true := decide_eq_true c30
          clear c30
          by_cases c31 : (ji29) < (x7_2.length : Int)
          ·rw [if_pos c31] at H
           have c31b0 : decide ((ji29) < (x7_2.length : Int)) = true := decide_eq_true c31
           clear c31
           by_cases c32 : ((rd_T67 l0_3 x11_2).f0) > (rd x7_2 (ji29))
           ·rw [if_pos c32] at H
            have c32b0 : decide ((rd x7_2 (ji29)) < ((rd_T67 l0_3 x11_2).f0)) = true := decide_eq_true c32
            clear c32
            by_cases c33 : x7_2.length < 17592186044416
            ·rw [if_pos c33] at H
             have LMc33 := Aside0.mk c33
             clear c33
             obtain ⟨y158, hy158⟩ : ∃ y_ : List Int, y_ = (x7_2 ++ [(rd_T67 l0_3 x11_2).f0]) := ⟨_, rfl⟩
             replace H : (spec_l13Updates.l1 k2 x6_1 y158 (x7_1.length : Int) (wrap64 (x11_2 + 1)) a0_0 a0_1 a0_2 l0_3 l0_4) = some (r1, r2) := by first | (rw [hy158]; with_reducible exact H) | (have H2_ := (Option.bind_some _ _).symm.trans H; rw [hy158]; with_reducible exact H2_) | (have H2_ := (Option.bind_some _ _).symm.trans H; with_reducible exact H2_) | with_reducible exact H | (rw [hy158]; exact H) | exact H
             have Ny158 := Aside0.mk hy158
             clear hy158
             have H' := Aside0.mk H
             clear H
             have hcz34_0 : wr.cell? ⟨gb142, 0, none⟩ = some (.string a0_0) := (blk_cell BK142.out 0).trans rfl
             have hcz34_1 : wr.cell? ⟨gb142, 1, none⟩ = some (.int .i64 a0_1) := (blk_cell BK142.out 1).trans rfl
             have hcz34_2 : wr.cell? ⟨gb142, 2, none⟩ = some (.int .i64 a0_2) := (blk_cell BK142.out 2).trans rfl
             have hcz34_3 : wr.cell? ⟨gb142, 3, none⟩ = some (.slice A0_3 l0_3.length c0_3) := (blk_cell BK142.out 3).trans rfl
             have hcz34_4 : wr.cell? ⟨gb142, 4, none⟩ = some (.slice A0_4 l0_4.length c0_4) := (blk_cell BK142.out 4).trans rfl
             have hfz34_0 := blk_frozen BK142.out 0
             have hfz34_1 := blk_frozen BK142.out 1
             have hfz34_2 := blk_frozen BK142.out 2
             have hfz34_3 := blk_frozen BK142.out 3
             have hfz34_4 := blk_frozen BK142.out 4
             have p153 : 0 ≤ (x11_2 : Int) := of_decide_eq_true (t3)
             have q153 : x11_2 < (l0_3.length : Int) := of_decide_eq_true (t3)
             obtain ⟨ad153, e153, hx153_0, hx153_1, hx153_2⟩ := at_T67 HR0_3.out x11_2 p153 q153
             cases e153
             replace hx153_0 := (HB.out.cell (World.block_lt_of_cell? w _ hx153_0)).trans hx153_0
             replace hx153_1 := (HB.out.cell (World.block_lt_of_cell? w _ hx153_1)).trans hx153_1
             replace hx153_2 := (HB.out.cell (World.block_lt_of_cell? w _ hx153_2)).trans hx153_2
             replace p153 := eq_true p153
             replace q153 := eq_true q153
             obtain ⟨Ao35, co35, eo35⟩ := Kd.R_slice HO_7.out
             subst eo35
             have p157 : 0 ≤ ((ji29) : Int) := of_decide_eq_true (t3)
             have q157 : (ji29) < (x7_2.length : Int) := of_decide_eq_true (t3)
             obtain ⟨ad157, e157, hx157_0⟩ := Kd.at_int (Kd.R_reads' HO_7.out).2.2 (ji29) p157 q157
             cases e157
             replace p157 := eq_true p157
             replace q157 := eq_true q157
             go_wp2_with (first | ((with_reducible refine gate_builtin (b := .append) (xs := #[.tmp 73, .tmp 75]) rfl ?_); (try (refine gate_guard (by rfl) ?_; dsimp only)); at_builtin; refine Kd.R_append (Kd.int .i64) (w0 := w) w.heap.size rfl (.tmp 73) (.tmp 75) 26 3 (.int .i64 0) 8 rfl Tryd.underlying26 info3 rfl (t49) (t70) (.slice (some ad157) x7_2.length co35) x7_2 ((rd_T67 l0_3 x11_2).f0) [.int .i64 ((rd_T67 l0_3 x11_2).f0)] (fun _ => True) (fun _ => False) rfl rfl ?aP (fun _ hk => hk.elim) ?aF ?aO ?aB ?aS ?aL ?_; (case aP => exact rfl); (case aB => exact (t14)); (case aF => exact (fun _ _ => trivial)); (case aO => exact (t9)); (case aS => exact (below_size (t14))); (case aL => have := LMc33.out; omega); intro v159 w36 ho hb hg hat; rw [← Ny158.out] at ho; have n0_ := Aside0.mk (blk_grown (g := gb142) (o := .cells #[.string a0_0, .int .i64 a0_1, .int .i64 a0_2, .slice (some ad153) l0_3.length c0_3, .slice A0_4 l0_4.length c0_4] 32 (0, 0)) (t26) hg (Kd.R_ne HO_7.out BK142.out (t49))); have n1_ := Aside0.mk (hb); have n2_ := Aside0.mk (ho); clear BK142; clear HB; clear HO_7; have BK142 := n0_; have HB := n1_; have HO160 := n2_; clear n0_ n1_ n2_; clear ho hb hg hat))
             go_roundg k2
             case measure => have := HK1.out; have := HK2.out; omega
             case rel => exact ⟨(y158), (wrap64 (x11_2 + 1)), (t0), H', ⟨by have := HK1.out; have := HK2.out; omega⟩, ⟨by (with_reducible repeat (first | apply Kd.R_alloc | apply Kd.R_drewN | apply Kd.R_drew)); exact HO160.out⟩, ⟨t26⟩, ⟨t14⟩⟩
            ·rw [if_neg c33] at H
             exact absurd H (t50)
           ·rw [if_neg c32] at H
            have c32b0 : decide ((rd x7_2 (ji29)) < ((rd_T67 l0_3 x11_2).f0)) = false := decide_eq_false c32
            clear c32
            have H' := Aside0.mk H
            clear H
            have hcz37_0 : wr.cell? ⟨gb142, 0, none⟩ = some (.string a0_0) := (blk_cell BK142.out 0).trans rfl
            have hcz37_1 : wr.cell? ⟨gb142, 1, none⟩ = some (.int .i64 a0_1) := (blk_cell BK142.out 1).trans rfl
            have hcz37_2 : wr.cell? ⟨gb142, 2, none⟩ = some (.int .i64 a0_2) := (blk_cell BK142.out 2).trans rfl
            have hcz37_3 : wr.cell? ⟨gb142, 3, none⟩ = some (.slice A0_3 l0_3.length c0_3) := (blk_cell BK142.out 3).trans rfl
            have hcz37_4 : wr.cell? ⟨gb142, 4, none⟩ = some (.slice A0_4 l0_4.length c0_4) := (blk_cell BK142.out 4).trans rfl
            have hfz37_0 := blk_frozen BK142.out 0
            have hfz37_1 := blk_frozen BK142.out 1
            have hfz37_2 := blk_frozen BK142.out 2
            have hfz37_3 := blk_frozen BK142.out 3
            have hfz37_4 := blk_frozen BK142.out 4
            have p153 : 0 ≤ (x11_2 : Int) := of_decide_eq_true (t3)
            have q153 : x11_2 < (l0_3.length : Int) := of_decide_eq_true (t3)
            obtain ⟨ad153, e153, hx153_0, hx153_1, hx153_2⟩ := at_T67 HR0_3.out x11_2 p153 q153
            cases e153
            replace hx153_0 := (HB.out.cell (World.block_lt_of_cell? w _ hx153_0)).trans hx153_0
            replace hx153_1 := (HB.out.cell (World.block_lt_of_cell? w _ hx153_1)).trans hx153_1
            replace hx153_2 := (HB.out.cell (World.block_lt_of_cell? w _ hx153_2)).trans hx153_2
            replace p153 := eq_true p153
            replace q153 := eq_true q153
            obtain ⟨Ao38, co38, eo38⟩ := Kd.R_slice HO_7.out
            subst eo38
            have p157 : 0 ≤ ((ji29) : Int) := of_decide_eq_true (t3)
            have q157 : (ji29) < (x7_2.length : Int) := of_decide_eq_true (t3)
            obtain ⟨ad157, e157, hx157_0⟩ := Kd.at_int (Kd.R_reads' HO_7.out).2.2 (ji29) p157 q157
            cases e157
            replace p157 := eq_true p157
            replace q157 := eq_true q157
            go_wp2
            go_roundg k2
            case measure => have := HK1.out; have := HK2.out; omega
            case rel => exact ⟨(x7_2), (wrap64 (x11_2 + 1)), (t0), H', ⟨by have := HK1.out; have := HK2.out; omega⟩, ⟨t9⟩, ⟨t26⟩, ⟨t14⟩⟩
          ·rw [if_neg c31] at H
           exact absurd H (t50)
         ·rw [if_neg c30] at H
          exact absurd H (t50)
       ·rw [if_neg c23] at H
        exact absurd H (t50)
      ·rw [if_neg c22] at H
       have c22b0 : decide (x11_2 < (l0_3.length : Int)) = false := decide_eq_false c22
       clear c22
       by_cases c39 : (x7_2.length : Int) = (x7_1.length : Int)
       ·rw [if_pos c39] at H
        have c39b0 : ((x7_2.length : Int) == (x7_1.length : Int)) = true := beq_iff_eq.mpr c39
        have c39b1 : ((x7_2.length : Int) != (x7_1.length : Int)) = false := bne_eq_false_iff_eq.mpr c39
        have c39b2 : (x7_2.length == x7_1.length) = true := by first | simpa using c39 | (simp at c39 ⊢; omega)
        clear c39
        simp only [Option.some.injEq, Prod.mk.injEq] at H
        obtain ⟨rfl, rfl⟩ := H
        have hcz40_0 : wr.cell? ⟨gb142, 0, none⟩ = some (.string a0_0) := (blk_cell BK142.out 0).trans rfl
        have hcz40_1 : wr.cell? ⟨gb142, 1, none⟩ = some (.int .i64 a0_1) := (blk_cell BK142.out 1).trans rfl
        have hcz40_2 : wr.cell? ⟨gb142, 2, none⟩ = some (.int .i64 a0_2) := (blk_cell BK142.out 2).trans rfl
        have hcz40_3 : wr.cell? ⟨gb142, 3, none⟩ = some (.slice A0_3 l0_3.length c0_3) := (blk_cell BK142.out 3).trans rfl
        have hcz40_4 : wr.cell? ⟨gb142, 4, none⟩ = some (.slice A0_4 l0_4.length c0_4) := (blk_cell BK142.out 4).trans rfl
        have hfz40_0 := blk_frozen BK142.out 0
        have hfz40_1 := blk_frozen BK142.out 1
        have hfz40_2 := blk_frozen BK142.out 2
        have hfz40_3 := blk_frozen BK142.out 3
        have hfz40_4 := blk_frozen BK142.out 4
        obtain ⟨Ao41, co41, eo41⟩ := Kd.R_slice HO_7.out
        subst eo41
        go_wp2
        go_ret2
        exact ⟨_, by first | rfl | (simp only [nil_beq, nil_bne]; rfl) | (simp [nil_beq, nil_bne]; done) | (simp [errW_none, errW_some] <;> rfl) | (simp [*, errW_none, errW_some] <;> rfl), by (with_reducible repeat (first | apply Kd.R_alloc | apply Kd.R_drewN | apply Kd.R_drew)); exact HO_7.out, by repeat (first | (with_reducible first | exact HB.out | apply below_alloc | apply pw_below_drewN | apply below_drew1 | refine below_set ?_ GE142.out) | exact HB.out)⟩
       ·rw [if_neg c39] at H
        have c39b0 : ((x7_2.length : Int) == (x7_1.length : Int)) = false := beq_eq_false_iff_ne.mpr c39
        have c39b1 : ((x7_2.length : Int) != (x7_1.length : Int)) = true := bne_iff_ne.mpr c39
        have c39b2 : (x7_2.length == x7_1.length) = false := by first | simpa using c39 | (simp at c39 ⊢; omega)
        replace H := Option.bind_eq_some_iff.mp H
        obtain ⟨t161, A420, H⟩ := H
        replace H : (if 2 + t161.size ≤ 9223372036854775807 then (if ((⟨#[42, 32]⟩ : ByteArray) ++ t161).size + 9 ≤ 9223372036854775807 then (if x6_1.size + (((⟨#[42, 32]⟩ : ByteArray) ++ t161) ++ (⟨#[32, 69, 88, 73, 83, 84, 83, 13, 10]⟩ : ByteArray)).size ≤ 9223372036854775807 then (some (x6_1 ++ (((⟨#[42, 32]⟩ : ByteArray) ++ t161) ++ (⟨#[32, 69, 88, 73, 83, 84, 83, 13, 10]⟩ : ByteArray)), x7_2)) else (none)) else (none)) else (none)) = some (r1, r2) := H
        have A42 := Aside0.mk A420
        clear A420
        by_cases c43 : 2 + t161.size ≤ 9223372036854775807
        ·rw [if_pos c43] at H
         have c43b0 := eq_true c43
         have c43b1 : decide (2 + t161.size ≤ 9223372036854775807) = true := decide_eq_true c43
         try have c43b2 : (9223372036854775807 < 2 + t161.size) = False := eq_false (Nat.not_lt.2 c43)
         by_cases c44 : ((⟨#[42, 32]⟩ : ByteArray) ++ t161).size + 9 ≤ 9223372036854775807
         ·rw [if_pos c44] at H
          have c44b0 := eq_true c44
          have c44b1 : decide (((⟨#[42, 32]⟩ : ByteArray) ++ t161).size + 9 ≤ 9223372036854775807) = true := decide_eq_true c44
          try have c44b2 : (9223372036854775807 < ((⟨#[42, 32]⟩ : ByteArray) ++ t161).size + 9) = False := eq_false (Nat.not_lt.2 c44); try (have c44b3 := c44b2; simp only [ByteArray.size_append, show (⟨#[42, 32]⟩ : ByteArray).size = 2 from rfl] at c44b3)
          by_cases c45 : x6_1.size + (((⟨#[42, 32]⟩ : ByteArray) ++ t161) ++ (⟨#[32, 69, 88, 73, 83, 84, 83, 13, 10]⟩ : ByteArray)).size ≤ 9223372036854775807
          ·rw [if_pos c45] at H
           have c45b0 := eq_true c45
           have c45b1 : decide (x6_1.size + (((⟨#[42, 32]⟩ : ByteArray) ++ t161) ++ (⟨#[32, 69, 88, 73, 83, 84, 83, 13, 10]⟩ : ByteArray)).size ≤ 9223372036854775807) = true := decide_eq_true c45
           try have c45b2 : (9223372036854775807 < x6_1.size + (((⟨#[42, 32]⟩ : ByteArray) ++ t161) ++ (⟨#[32, 69, 88, 73, 83, 84, 83, 13, 10]⟩ : ByteArray)).size) = False := eq_false (Nat.not_lt.2 c45); try (have c45b3 := c45b2; simp only [ByteArray.size_append, show (⟨#[42, 32]⟩ : ByteArray).size = 2 from rfl, show (⟨#[32, 69, 88, 73, 83, 84, 83, 13, 10]⟩ : ByteArray).size = 9 from rfl] at c45b3)
           simp only [Option.some.injEq, Prod.mk.injEq] at H
           obtain ⟨rfl, rfl⟩ := H
           have hcz46_0 : wr.cell? ⟨gb142, 0, none⟩ = some (.string a0_0) := (blk_cell BK142.out 0).trans rfl
           have hcz46_1 : wr.cell? ⟨gb142, 1, none⟩ = some (.int .i64 a0_1) := (blk_cell BK142.out 1).trans rfl
           have hcz46_2 : wr.cell? ⟨gb142, 2, none⟩ = some (.int .i64 a0_2) := (blk_cell BK142.out 2).trans rfl
           have hcz46_3 : wr.cell? ⟨gb142, 3, none⟩ = some (.slice A0_3 l0_3.length c0_3) := (blk_cell BK142.out 3).trans rfl
           have hcz46_4 : wr.cell? ⟨gb142, 4, none⟩ = some (.slice A0_4 l0_4.length c0_4) := (blk_cell BK142.out 4).trans rfl
           have hfz46_0 := blk_frozen BK142.out 0
           have hfz46_1 := blk_frozen BK142.out 1
           have hfz46_2 := blk_frozen BK142.out 2
           have hfz46_3 := blk_frozen BK142.out 3
           have hfz46_4 := blk_frozen BK142.out 4
           obtain ⟨Ao47, co47, eo47⟩ := Kd.R_slice HO_7.out
           subst eo47
           go_wp2_with (first | ((with_reducible refine gate_callee (f := 86) rfl ?_); refine goesL_ (some 84) rfl rfl Tryd.func86 (t23) rfl #[.int .i64 (x7_2.length : Int)] rfl (t2) ?_; (with_reducible refine (spec_l00Digits.calls k2 (x7_2.length : Int) t161 _ A42.out).mono ?_); rintro e w48 ⟨rfl, hb⟩; refine ⟨_, rfl, ?_⟩; have n0_ := Aside0.mk (Kd.R_below (t9) hb); have n1_ := Aside0.mk (blk_below (g := gb142) (o := .cells #[.string a0_0, .int .i64 a0_1, .int .i64 a0_2, .slice A0_3 l0_3.length c0_3, .slice A0_4 l0_4.length c0_4] 32 (0, 0)) (t26) hb); have n2_ := Aside0.mk (below_step (t14) hb); clear HO_7; clear BK142; clear HB; have HO_7 := n0_; have BK142 := n1_; have HB := n2_; clear n0_ n1_ n2_; (try clear hb); (try clear hb2); (try clear hk); (try clear hi)))
           go_ret2
           exact ⟨_, by first | rfl | (simp only [nil_beq, nil_bne]; rfl) | (simp [nil_beq, nil_bne]; done) | (simp [errW_none, errW_some] <;> rfl) | (simp [*, errW_none, errW_some] <;> rfl), by (with_reducible repeat (first | apply Kd.R_alloc | apply Kd.R_drewN | apply Kd.R_drew)); exact HO_7.out, by repeat (first | (with_reducible first | exact HB.out | apply below_alloc | apply pw_below_drewN | apply below_drew1 | refine below_set ?_ GE142.out) | exact HB.out)⟩
          ·rw [if_neg c45] at H
           exact absurd H (t50)
         ·rw [if_neg c44] at H
          exact absurd H (t50)
        ·rw [if_neg c43] at H
         exact absurd H (t50)

/-! ### spec_ViewUpdates: function 10 -/
def spec_ViewUpdates.f (k : Nat) (a0_0 : ByteArray) (a0_1 : Int) (a0_2 : Int) (l0_3 : List (S67)) (l0_4 : List ByteArray) (l1 : List Int) : Option (ByteArray × List Int × Int) := if (l1.length : Int) > 4096 then (some ((⟨#[]⟩ : ByteArray), (([] : List Int)), 2)) else ((spec_BoxOK.f k a0_0 a0_1 a0_2 l0_3 l0_4).bind fun t166 => (if t166 = true then ((spec_l13View.f k l1).bind fun t167 => (if t167 = true then ((spec_l13Updates.f k a0_0 a0_1 a0_2 l0_3 l0_4 l1).bind fun bt168 => (some (bt168.1, bt168.2, 0))) else (some ((⟨#[]⟩ : ByteArray), (([] : List Int)), 1)))) else (some ((⟨#[]⟩ : ByteArray), (([] : List Int)), 1))))
theorem spec_ViewUpdates.mono : ∀ a0 a1 a2 a3 a4 a5 k, LeO (spec_ViewUpdates.f k a0 a1 a2 a3 a4 a5) (spec_ViewUpdates.f (k + 1) a0 a1 a2 a3 a4 a5) := by
 intro a0 a1 a2 a3 a4 a5 k
 unfold spec_ViewUpdates.f
 repeat' first
   | (with_reducible exact spec_BoxOK.mono _ _ _ _ _ _)
   | (with_reducible exact spec_l13Updates.mono _ _ _ _ _ _ _)
   | (with_reducible exact spec_l13View.mono _ _)
   | (with_reducible exact LeO.refl _)
   | (with_reducible exact LeO.none _)
   | (with_reducible refine LeO.ite ?_ ?_)
   | (with_reducible refine LeO.bind ?_ (fun _ => ?_))
   | exact spec_BoxOK.mono _ _ _ _ _ _
   | exact spec_l13Updates.mono _ _ _ _ _ _ _
   | exact spec_l13View.mono _ _
   | exact LeO.none _
   | refine LeO.ite ?_ ?_
   | refine LeO.bind ?_ (fun _ => ?_)
set_option maxHeartbeats 40000000 in
set_option maxRecDepth 100000 in
theorem spec_ViewUpdates.calls (k : Nat) (a0_0 : ByteArray) (a0_1 : Int) (a0_2 : Int) (A0_3 : Option Addr) (c0_3 : Nat) (l0_3 : List (S67)) (A0_4 : Option Addr) (c0_4 : Nat) (l0_4 : List ByteArray) (A1 : Option Addr) (c1 : Nat) (l1 : List Int) (r1 : ByteArray) (r2 : List Int) (r3 : Int) (w : World) (hr0_3 : Kd.C k67 w A0_3 l0_3.length l0_3) (hc0_3 : l0_3.length ≤ c0_3) (hr0_4 : Kd.C Kd.string w A0_4 l0_4.length l0_4) (hc0_4 : l0_4.length ≤ c0_4) (hr1 : Kd.C (Kd.int .i64) w A1 l1.length l1) (hc1 : l1.length ≤ c1) (h : spec_ViewUpdates.f k a0_0 a0_1 a0_2 l0_3 l0_4 l1 = some (r1, r2, r3)) :
  Calls Tryd.prog 10 #[.agg #[.string a0_0, .int .i64 a0_1, .int .i64 a0_2, .slice A0_3 l0_3.length c0_3, .slice A0_4 l0_4.length c0_4], .slice A1 l1.length c1] w fun e w' => ∃ v1_ : Value, e = .returned (.tuple #[.string r1, v1_, .int .i64 r3]) ∧ Kd.R (Kd.int .i64) 3 w' w.heap.size (fun _ => True) v1_ r2 ∧ Below w.heap.size w w' := by
 have hu32 := Tryd.underlying32
 have HR0_3 := Aside0.mk hr0_3
 have HC0_3 := Aside0.mk hc0_3
 clear hr0_3 hc0_3
 have HR0_4 := Aside0.mk hr0_4
 have HC0_4 := Aside0.mk hc0_4
 clear hr0_4 hc0_4
 have HR1 := Aside0.mk hr1
 have HC1 := Aside0.mk hc1
 clear hr1 hc1
 have HB := Aside0.mk (Below.refl w.heap.size w)
 have H : (if (l1.length : Int) > 4096 then (some ((⟨#[]⟩ : ByteArray), (([] : List Int)), 2)) else ((spec_BoxOK.f k a0_0 a0_1 a0_2 l0_3 l0_4).bind fun t166 => (if t166 = true then ((spec_l13View.f k l1).bind fun t167 => (if t167 = true then ((spec_l13Updates.f k a0_0 a0_1 a0_2 l0_3 l0_4 l1).bind fun bt168 => (some (bt168.1, bt168.2, 0))) else (some ((⟨#[]⟩ : ByteArray), (([] : List Int)), 1)))) else (some ((⟨#[]⟩ : ByteArray), (([] : List Int)), 1))))) = some (r1, r2, r3) := h
 clear h
 by_cases c3 : (l1.length : Int) > 4096
 ·rw [if_pos c3] at H
  have c3b0 : decide (4096 < (l1.length : Int)) = true := decide_eq_true c3
  have c3b1 : decide (4096 < l1.length) = true := decide_eq_true (t70)
  clear c3
  obtain ⟨y163, hy163⟩ : ∃ y_ : List Int, y_ = (([] : List Int)) := ⟨_, rfl⟩
  replace H : (some ((⟨#[]⟩ : ByteArray), y163, 2)) = some (r1, r2, r3) := by first | (rw [hy163]; with_reducible exact H) | (have H2_ := (Option.bind_some _ _).symm.trans H; rw [hy163]; with_reducible exact H2_) | (have H2_ := (Option.bind_some _ _).symm.trans H; with_reducible exact H2_) | with_reducible exact H | (rw [hy163]; exact H) | exact H
  have Ny163 := Aside0.mk hy163
  clear hy163
  simp only [Option.some.injEq, Prod.mk.injEq] at H
  obtain ⟨rfl, rfl, rfl⟩ := H
  go_enter Tryd.func10, Tryd.ntmps10
  go_wp2_with (first | ((with_reducible refine gate_dst (N := 2) rfl ?_); refine box_event ?hg (N := 2) ?hd (cs := #[.string a0_0, .int .i64 a0_1, .int .i64 a0_2, .slice A0_3 l0_3.length c0_3, .slice A0_4 l0_4.length c0_4]) (t := 32) ?hr ?_; (case hd => rfl); (case hg => rfl); (case hr => first | (go_simp; done) | (go_simp; rfl)); intro gb162 hg w4 hbox hb; have n0_ := Aside0.mk (below_step (t1) hb); have n1_ := Aside0.mk (hbox); have n2_ := Aside0.mk ((by rw [hg]; exact (below_size (t1)) : w.heap.size ≤ gb162)); have n3_ := Aside0.mk ((by rw [hg]; exact (below_size (t1)) : w.heap.size ≤ gb162)); clear HB; have HB := n0_; have BK162 := n1_; have GW162 := n2_; have GE162 := n3_; clear n0_ n1_ n2_ n3_; clear hb hbox hg) | ((with_reducible refine gate_dst (N := 12) rfl ?_); refine Kd.R_lit (Kd.int .i64) _ 3 ?hg (N := 12) ?hd (xs := ([] : List Int)) (inner := []) (ok := fun _ => True) (okp := fun _ => True) ?hr ?hp (fun _ hk => hk) trivial (Below.refl _ _) (Nat.le_refl _) (t50) ?_; (case hd => rfl); (case hg => rfl); (case hr => first | (go_simp; done) | (go_simp; rfl)); (case hp => exact (Reps.none _ _)); intro v164 w5 ho6 hb hg_ hnew_; clear hg_ hnew_; (first | rw [← Ny163.out] at ho6 | (simp only [Int.reduceToNat] at ho6; rw [← Ny163.out] at ho6)); have n0_ := Aside0.mk (Kd.R_lower ho6 (below_size (t22))); have n1_ := Aside0.mk (blk_below (g := gb162) (o := .cells #[.string a0_0, .int .i64 a0_1, .int .i64 a0_2, .slice A0_3 l0_3.length c0_3, .slice A0_4 l0_4.length c0_4] 32 (0, 0)) (t39) hb); have n2_ := Aside0.mk (below_step (t22) hb); clear BK162; clear HB; have HO165 := n0_; have BK162 := n1_; have HB := n2_; clear n0_ n1_ n2_; clear hb ho6))
  go_ret3
  exact ⟨_, by first | rfl | (simp only [nil_beq, nil_bne]; rfl) | (simp [nil_beq, nil_bne]; done) | (simp [errW_none, errW_some] <;> rfl) | (simp [*, errW_none, errW_some] <;> rfl), by (with_reducible repeat (first | apply Kd.R_alloc | apply Kd.R_drewN | apply Kd.R_drew)); exact HO165.out, by repeat (first | (with_reducible first | exact HB.out | apply below_alloc | apply pw_below_drewN | apply below_drew1 | refine below_set ?_ GE162.out) | exact HB.out)⟩
 ·rw [if_neg c3] at H
  have c3b0 : decide (4096 < (l1.length : Int)) = false := decide_eq_false c3
  have c3b1 : decide (4096 < l1.length) = false := decide_eq_false (t70)
  clear c3
  replace H := Option.bind_eq_some_iff.mp H
  obtain ⟨t166, A70, H⟩ := H
  replace H : (if t166 = true then ((spec_l13View.f k l1).bind fun t167 => (if t167 = true then ((spec_l13Updates.f k a0_0 a0_1 a0_2 l0_3 l0_4 l1).bind fun bt168 => (some (bt168.1, bt168.2, 0))) else (some ((⟨#[]⟩ : ByteArray), (([] : List Int)), 1)))) else (some ((⟨#[]⟩ : ByteArray), (([] : List Int)), 1))) = some (r1, r2, r3) := H
  have A7 := Aside0.mk A70
  clear A70
  by_cases c8 : t166 = true
  ·subst c8
   have H1 : ((spec_l13View.f k l1).bind fun t167 => (if t167 = true then ((spec_l13Updates.f k a0_0 a0_1 a0_2 l0_3 l0_4 l1).bind fun bt168 => (some (bt168.1, bt168.2, 0))) else (some ((⟨#[]⟩ : ByteArray), (([] : List Int)), 1)))) = some (r1, r2, r3) := by rw [if_pos rfl] at H; exact H
   clear H
   have H := H1
   clear H1
   replace H := Option.bind_eq_some_iff.mp H
   obtain ⟨t167, A90, H⟩ := H
   replace H : (if t167 = true then ((spec_l13Updates.f k a0_0 a0_1 a0_2 l0_3 l0_4 l1).bind fun bt168 => (some (bt168.1, bt168.2, 0))) else (some ((⟨#[]⟩ : ByteArray), (([] : List Int)), 1))) = some (r1, r2, r3) := H
   have A9 := Aside0.mk A90
   clear A90
   by_cases c10 : t167 = true
   ·subst c10
    have H1 : ((spec_l13Updates.f k a0_0 a0_1 a0_2 l0_3 l0_4 l1).bind fun bt168 => (some (bt168.1, bt168.2, 0))) = some (r1, r2, r3) := by rw [if_pos rfl] at H; exact H
    clear H
    have H := H1
    clear H1
    replace H := Option.bind_eq_some_iff.mp H
    obtain ⟨⟨t168, t169⟩, A110, H⟩ := H
    replace H : (some (t168, t169, 0)) = some (r1, r2, r3) := H
    have A11 := Aside0.mk A110
    clear A110
    simp only [Option.some.injEq, Prod.mk.injEq] at H
    obtain ⟨rfl, rfl, rfl⟩ := H
    go_enter Tryd.func10, Tryd.ntmps10
    go_wp2_with (first | ((with_reducible refine gate_dst (N := 2) rfl ?_); refine box_event ?hg (N := 2) ?hd (cs := #[.string a0_0, .int .i64 a0_1, .int .i64 a0_2, .slice A0_3 l0_3.length c0_3, .slice A0_4 l0_4.length c0_4]) (t := 32) ?hr ?_; (case hd => rfl); (case hg => rfl); (case hr => first | (go_simp; done) | (go_simp; rfl)); intro gb162 hg w12 hbox hb; have n0_ := Aside0.mk (below_step (t1) hb); have n1_ := Aside0.mk (hbox); have n2_ := Aside0.mk ((by rw [hg]; exact (below_size (t1)) : w.heap.size ≤ gb162)); have n3_ := Aside0.mk ((by rw [hg]; exact (below_size (t1)) : w.heap.size ≤ gb162)); clear HB; have HB := n0_; have BK162 := n1_; have GW162 := n2_; have GE162 := n3_; clear n0_ n1_ n2_ n3_; clear hb hbox hg; have hcz13_0 : w12.cell? ⟨gb162, 0, none⟩ = some (.string a0_0) := (blk_cell BK162.out 0).trans rfl; have hcz13_1 : w12.cell? ⟨gb162, 1, none⟩ = some (.int .i64 a0_1) := (blk_cell BK162.out 1).trans rfl; have hcz13_2 : w12.cell? ⟨gb162, 2, none⟩ = some (.int .i64 a0_2) := (blk_cell BK162.out 2).trans rfl; have hcz13_3 : w12.cell? ⟨gb162, 3, none⟩ = some (.slice A0_3 l0_3.length c0_3) := (blk_cell BK162.out 3).trans rfl; have hcz13_4 : w12.cell? ⟨gb162, 4, none⟩ = some (.slice A0_4 l0_4.length c0_4) := (blk_cell BK162.out 4).trans rfl; have hfz13_0 := blk_frozen BK162.out 0; have hfz13_1 := blk_frozen BK162.out 1; have hfz13_2 := blk_frozen BK162.out 2; have hfz13_3 := blk_frozen BK162.out 3; have hfz13_4 := blk_frozen BK162.out 4) | ((with_reducible refine gate_callee (f := 45) rfl ?_); refine goesL_ (some 14) rfl rfl Tryd.func45 (t23) rfl #[.agg #[.string a0_0, .int .i64 a0_1, .int .i64 a0_2, .slice A0_3 l0_3.length c0_3, .slice A0_4 l0_4.length c0_4]] rfl (t2) ?_; (with_reducible refine (spec_BoxOK.calls k a0_0 a0_1 a0_2 _ _ l0_3 _ _ l0_4 true _ ?side1 ?side2 ?side3 ?side4 A7.out).mono ?_); (case side1 => repeat (first | exact (Kd.C_below HR0_3.out HB.out) | (with_reducible refine Kd.C_alloc ?_ _) | (with_reducible refine Kd.C_drewN ?_ _) | (with_reducible refine Kd.C_drew ?_))); (case side2 => exact HC0_3.out); (case side3 => repeat (first | exact (Kd.C_below HR0_4.out HB.out) | (with_reducible refine Kd.C_alloc ?_ _) | (with_reducible refine Kd.C_drewN ?_ _) | (with_reducible refine Kd.C_drew ?_))); (case side4 => exact HC0_4.out); rintro e w14 ⟨rfl, hb⟩; refine ⟨_, rfl, ?_⟩; have n0_ := Aside0.mk (blk_below (g := gb162) (o := .cells #[.string a0_0, .int .i64 a0_1, .int .i64 a0_2, .slice A0_3 l0_3.length c0_3, .slice A0_4 l0_4.length c0_4] 32 (0, 0)) (t39) hb); have n1_ := Aside0.mk (below_step (t22) hb); clear BK162; clear HB; have BK162 := n0_; have HB := n1_; clear n0_ n1_; (try clear hb); (try clear hb2); (try clear hk); (try clear hi)) | (go_at_call 46; (with_reducible refine (spec_l13View.calls k _ _ l1 true _ ?side1 ?side2 A9.out).mono ?_); (case side1 => repeat (first | exact (Kd.C_below HR1.out HB.out) | (with_reducible refine Kd.C_alloc ?_ _) | (with_reducible refine Kd.C_drewN ?_ _) | (with_reducible refine Kd.C_drew ?_))); (case side2 => exact HC1.out); rintro e w' ⟨rfl, ⟨nd, rfl⟩⟩; have hcz15_0 : w14.cell? ⟨gb162, 0, none⟩ = some (.string a0_0) := (blk_cell BK162.out 0).trans rfl; have hcz15_1 : w14.cell? ⟨gb162, 1, none⟩ = some (.int .i64 a0_1) := (blk_cell BK162.out 1).trans rfl; have hcz15_2 : w14.cell? ⟨gb162, 2, none⟩ = some (.int .i64 a0_2) := (blk_cell BK162.out 2).trans rfl; have hcz15_3 : w14.cell? ⟨gb162, 3, none⟩ = some (.slice A0_3 l0_3.length c0_3) := (blk_cell BK162.out 3).trans rfl; have hcz15_4 : w14.cell? ⟨gb162, 4, none⟩ = some (.slice A0_4 l0_4.length c0_4) := (blk_cell BK162.out 4).trans rfl; have hfz15_0 := blk_frozen BK162.out 0; have hfz15_1 := blk_frozen BK162.out 1; have hfz15_2 := blk_frozen BK162.out 2; have hfz15_3 := blk_frozen BK162.out 3; have hfz15_4 := blk_frozen BK162.out 4) | ((with_reducible refine gate_callee (f := 47) rfl ?_); refine goesL_ (some 25) rfl rfl Tryd.func47 (t23) rfl #[.agg #[.string a0_0, .int .i64 a0_1, .int .i64 a0_2, .slice A0_3 l0_3.length c0_3, .slice A0_4 l0_4.length c0_4], .slice A1 l1.length c1] rfl (t2) ?_; (with_reducible refine (spec_l13Updates.calls k a0_0 a0_1 a0_2 _ _ l0_3 _ _ l0_4 _ _ l1 t168 t169 _ ?side1 ?side2 ?side3 ?side4 ?side5 ?side6 A11.out).mono ?_); (case side1 => repeat (first | exact (Kd.C_below HR0_3.out (t22)) | (with_reducible refine Kd.C_alloc ?_ _) | (with_reducible refine Kd.C_drewN ?_ _) | (with_reducible refine Kd.C_drew ?_))); (case side2 => exact HC0_3.out); (case side3 => repeat (first | exact (Kd.C_below HR0_4.out (t22)) | (with_reducible refine Kd.C_alloc ?_ _) | (with_reducible refine Kd.C_drewN ?_ _) | (with_reducible refine Kd.C_drew ?_))); (case side4 => exact HC0_4.out); (case side5 => repeat (first | exact (Kd.C_below HR1.out (t22)) | (with_reducible refine Kd.C_alloc ?_ _) | (with_reducible refine Kd.C_drewN ?_ _) | (with_reducible refine Kd.C_drew ?_))); (case side6 => exact HC1.out); rintro e w16 ⟨v170, rfl, ho0, hb⟩; refine ⟨_, rfl, ?_⟩; have n0_ := Aside0.mk (Kd.R_lower ho0 (below_size (t22))); have n1_ := Aside0.mk (blk_below (g := gb162) (o := .cells #[.string a0_0, .int .i64 a0_1, .int .i64 a0_2, .slice A0_3 l0_3.length c0_3, .slice A0_4 l0_4.length c0_4] 32 (0, 0)) (t39) hb); have n2_ := Aside0.mk (below_step (t22) hb); clear BK162; clear HB; have HO171 := n0_; have BK162 := n1_; have HB := n2_; clear n0_ n1_ n2_; (try clear hb); (try clear hb2); (try clear hk); (try clear hi); (try clear ho0)))
    go_ret3
    exact ⟨_, by first | rfl | (simp only [nil_beq, nil_bne]; rfl) | (simp [nil_beq, nil_bne]; done) | (simp [errW_none, errW_some] <;> rfl) | (simp [*, errW_none, errW_some] <;> rfl), by (with_reducible repeat (first | apply Kd.R_alloc | apply Kd.R_drewN | apply Kd.R_drew)); exact HO171.out, by repeat (first | (with_reducible first | exact HB.out | apply below_alloc | apply pw_below_drewN | apply below_drew1 | refine below_set ?_ GE162.out) | exact HB.out)⟩
   ·replace c10 := Bool.eq_false_iff.mpr c10
    subst c10
    have H1 : (some ((⟨#[]⟩ : ByteArray), (([] : List Int)), 1)) = some (r1, r2, r3) := by rw [if_neg (show ¬ (false = true) by decide)] at H; exact H
    clear H
    have H := H1
    clear H1
    obtain ⟨y172, hy172⟩ : ∃ y_ : List Int, y_ = (([] : List Int)) := ⟨_, rfl⟩
    replace H : (some ((⟨#[]⟩ : ByteArray), y172, 1)) = some (r1, r2, r3) := by first | (rw [hy172]; with_reducible exact H) | (have H2_ := (Option.bind_some _ _).symm.trans H; rw [hy172]; with_reducible exact H2_) | (have H2_ := (Option.bind_some _ _).symm.trans H; with_reducible exact H2_) | with_reducible exact H | (rw [hy172]; exact H) | exact H
    have Ny172 := Aside0.mk hy172
    clear hy172
    simp only [Option.some.injEq, Prod.mk.injEq] at H
    obtain ⟨rfl, rfl, rfl⟩ := H
    go_enter Tryd.func10, Tryd.ntmps10
    go_wp2_with (first | ((with_reducible refine gate_dst (N := 2) rfl ?_); refine box_event ?hg (N := 2) ?hd (cs := #[.string a0_0, .int .i64 a0_1, .int .i64 a0_2, .slice A0_3 l0_3.length c0_3, .slice A0_4 l0_4.length c0_4]) (t := 32) ?hr ?_; (case hd => rfl); (case hg => rfl); (case hr => first | (go_simp; done) | (go_simp; rfl)); intro gb162 hg w17 hbox hb; have n0_ := Aside0.mk (below_step (t1) hb); have n1_ := Aside0.mk (hbox); have n2_ := Aside0.mk ((by rw [hg]; exact (below_size (t1)) : w.heap.size ≤ gb162)); have n3_ := Aside0.mk ((by rw [hg]; exact (below_size (t1)) : w.heap.size ≤ gb162)); clear HB; have HB := n0_; have BK162 := n1_; have GW162 := n2_; have GE162 := n3_; clear n0_ n1_ n2_ n3_; clear hb hbox hg; have hcz18_0 : w17.cell? ⟨gb162, 0, none⟩ = some (.string a0_0) := (blk_cell BK162.out 0).trans rfl; have hcz18_1 : w17.cell? ⟨gb162, 1, none⟩ = some (.int .i64 a0_1) := (blk_cell BK162.out 1).trans rfl; have hcz18_2 : w17.cell? ⟨gb162, 2, none⟩ = some (.int .i64 a0_2) := (blk_cell BK162.out 2).trans rfl; have hcz18_3 : w17.cell? ⟨gb162, 3, none⟩ = some (.slice A0_3 l0_3.length c0_3) := (blk_cell BK162.out 3).trans rfl; have hcz18_4 : w17.cell? ⟨gb162, 4, none⟩ = some (.slice A0_4 l0_4.length c0_4) := (blk_cell BK162.out 4).trans rfl; have hfz18_0 := blk_frozen BK162.out 0; have hfz18_1 := blk_frozen BK162.out 1; have hfz18_2 := blk_frozen BK162.out 2; have hfz18_3 := blk_frozen BK162.out 3; have hfz18_4 := blk_frozen BK162.out 4) | ((with_reducible refine gate_callee (f := 45) rfl ?_); refine goesL_ (some 14) rfl rfl Tryd.func45 (t23) rfl #[.agg #[.string a0_0, .int .i64 a0_1, .int .i64 a0_2, .slice A0_3 l0_3.length c0_3, .slice A0_4 l0_4.length c0_4]] rfl (t2) ?_; (with_reducible refine (spec_BoxOK.calls k a0_0 a0_1 a0_2 _ _ l0_3 _ _ l0_4 true _ ?side1 ?side2 ?side3 ?side4 A7.out).mono ?_); (case side1 => repeat (first | exact (Kd.C_below HR0_3.out HB.out) | (with_reducible refine Kd.C_alloc ?_ _) | (with_reducible refine Kd.C_drewN ?_ _) | (with_reducible refine Kd.C_drew ?_))); (case side2 => exact HC0_3.out); (case side3 => repeat (first | exact (Kd.C_below HR0_4.out HB.out) | (with_reducible refine Kd.C_alloc ?_ _) | (with_reducible refine Kd.C_drewN ?_ _) | (with_reducible refine Kd.C_drew ?_))); (case side4 => exact HC0_4.out); rintro e w19 ⟨rfl, hb⟩; refine ⟨_, rfl, ?_⟩; have n0_ := Aside0.mk (blk_below (g := gb162) (o := .cells #[.string a0_0, .int .i64 a0_1, .int .i64 a0_2, .slice A0_3 l0_3.length c0_3, .slice A0_4 l0_4.length c0_4] 32 (0, 0)) (t39) hb); have n1_ := Aside0.mk (below_step (t22) hb); clear BK162; clear HB; have BK162 := n0_; have HB := n1_; clear n0_ n1_; (try clear hb); (try clear hb2); (try clear hk); (try clear hi)) | (go_at_call 46; (with_reducible refine (spec_l13View.calls k _ _ l1 false _ ?side1 ?side2 A9.out).mono ?_); (case side1 => repeat (first | exact (Kd.C_below HR1.out HB.out) | (with_reducible refine Kd.C_alloc ?_ _) | (with_reducible refine Kd.C_drewN ?_ _) | (with_reducible refine Kd.C_drew ?_))); (case side2 => exact HC1.out); rintro e w' ⟨rfl, ⟨nd, rfl⟩⟩) | ((with_reducible refine gate_dst (N := 21) rfl ?_); refine Kd.R_lit (Kd.int .i64) _ 3 ?hg (N := 21) ?hd (xs := ([] : List Int)) (inner := []) (ok := fun _ => True) (okp := fun _ => True) ?hr ?hp (fun _ hk => hk) trivial (Below.refl _ _) (Nat.le_refl _) (t50) ?_; (case hd => rfl); (case hg => rfl); (case hr => first | (go_simp; done) | (go_simp; rfl)); (case hp => exact (Reps.none _ _)); intro v173 w20 ho21 hb hg_ hnew_; clear hg_ hnew_; (first | rw [← Ny172.out] at ho21 | (simp only [Int.reduceToNat] at ho21; rw [← Ny172.out] at ho21)); have n0_ := Aside0.mk (Kd.R_lower ho21 (below_size (t22))); have n1_ := Aside0.mk (blk_below (g := gb162) (o := .cells #[.string a0_0, .int .i64 a0_1, .int .i64 a0_2, .slice A0_3 l0_3.length c0_3, .slice A0_4 l0_4.length c0_4] 32 (0, 0)) (t39) hb); have n2_ := Aside0.mk (below_step (t22) hb); clear BK162; clear HB; have HO174 := n0_; have BK162 := n1_; have HB := n2_; clear n0_ n1_ n2_; clear hb ho21))
    go_ret3
    exact ⟨_, by first | rfl | (simp only [nil_beq, nil_bne]; rfl) | (simp [nil_beq, nil_bne]; done) | (simp [errW_none, errW_some] <;> rfl) | (simp [*, errW_none, errW_some] <;> rfl), by (with_reducible repeat (first | apply Kd.R_alloc | apply Kd.R_drewN | apply Kd.R_drew)); exact HO174.out, by repeat (first | (with_reducible first | exact HB.out | apply below_alloc | apply pw_below_drewN | apply below_drew1 | refine below_set ?_ GE162.out) | exact HB.out)⟩
  ·replace c8 := Bool.eq_false_iff.mpr c8
   subst c8
   have H1 : (some ((⟨#[]⟩ : ByteArray), (([] : List Int)), 1)) = some (r1, r2, r3) := by rw [if_neg (show ¬ (false = true) by decide)] at H; exact H
   clear H
   have H := H1
   clear H1
   obtain ⟨y175, hy175⟩ : ∃ y_ : List Int, y_ = (([] : List Int)) := ⟨_, rfl⟩
   replace H : (some ((⟨#[]⟩ : ByteArray), y175, 1)) = some (r1, r2, r3) := by first | (rw [hy175]; with_reducible exact H) | (have H2_ := (Option.bind_some _ _).symm.trans H; rw [hy175]; with_reducible exact H2_) | (have H2_ := (Option.bind_some _ _).symm.trans H; with_reducible exact H2_) | with_reducible exact H | (rw [hy175]; exact H) | exact H
   have Ny175 := Aside0.mk hy175
   clear hy175
   simp only [Option.some.injEq, Prod.mk.injEq] at H
   obtain ⟨rfl, rfl, rfl⟩ := H
   go_enter Tryd.func10, Tryd.ntmps10
   go_wp2_with (first | ((with_reducible refine gate_dst (N := 2) rfl ?_); refine box_event ?hg (N := 2) ?hd (cs := #[.string a0_0, .int .i64 a0_1, .int .i64 a0_2, .slice A0_3 l0_3.length c0_3, .slice A0_4 l0_4.length c0_4]) (t := 32) ?hr ?_; (case hd => rfl); (case hg => rfl); (case hr => first | (go_simp; done) | (go_simp; rfl)); intro gb162 hg w22 hbox hb; have n0_ := Aside0.mk (below_step (t1) hb); have n1_ := Aside0.mk (hbox); have n2_ := Aside0.mk ((by rw [hg]; exact (below_size (t1)) : w.heap.size ≤ gb162)); have n3_ := Aside0.mk ((by rw [hg]; exact (below_size (t1)) : w.heap.size ≤ gb162)); clear HB; have HB := n0_; have BK162 := n1_; have GW162 := n2_; have GE162 := n3_; clear n0_ n1_ n2_ n3_; clear hb hbox hg; have hcz23_0 : w22.cell? ⟨gb162, 0, none⟩ = some (.string a0_0) := (blk_cell BK162.out 0).trans rfl; have hcz23_1 : w22.cell? ⟨gb162, 1, none⟩ = some (.int .i64 a0_1) := (blk_cell BK162.out 1).trans rfl; have hcz23_2 : w22.cell? ⟨gb162, 2, none⟩ = some (.int .i64 a0_2) := (blk_cell BK162.out 2).trans rfl; have hcz23_3 : w22.cell? ⟨gb162, 3, none⟩ = some (.slice A0_3 l0_3.length c0_3) := (blk_cell BK162.out 3).trans rfl; have hcz23_4 : w22.cell? ⟨gb162, 4, none⟩ = some (.slice A0_4 l0_4.length c0_4) := (blk_cell BK162.out 4).trans rfl; have hfz23_0 := blk_frozen BK162.out 0; have hfz23_1 := blk_frozen BK162.out 1; have hfz23_2 := blk_frozen BK162.out 2; have hfz23_3 := blk_frozen BK162.out 3; have hfz23_4 := blk_frozen BK162.out 4) | ((with_reducible refine gate_callee (f := 45) rfl ?_); refine goesL_ (some 14) rfl rfl Tryd.func45 (t23) rfl #[.agg #[.string a0_0, .int .i64 a0_1, .int .i64 a0_2, .slice A0_3 l0_3.length c0_3, .slice A0_4 l0_4.length c0_4]] rfl (t2) ?_; (with_reducible refine (spec_BoxOK.calls k a0_0 a0_1 a0_2 _ _ l0_3 _ _ l0_4 false _ ?side1 ?side2 ?side3 ?side4 A7.out).mono ?_); (case side1 => repeat (first | exact (Kd.C_below HR0_3.out HB.out) | (with_reducible refine Kd.C_alloc ?_ _) | (with_reducible refine Kd.C_drewN ?_ _) | (with_reducible refine Kd.C_drew ?_))); (case side2 => exact HC0_3.out); (case side3 => repeat (first | exact (Kd.C_below HR0_4.out HB.out) | (with_reducible refine Kd.C_alloc ?_ _) | (with_reducible refine Kd.C_drewN ?_ _) | (with_reducible refine Kd.C_drew ?_))); (case side4 => exact HC0_4.out); rintro e w24 ⟨rfl, hb⟩; refine ⟨_, rfl, ?_⟩; have n0_ := Aside0.mk (blk_below (g := gb162) (o := .cells #[.string a0_0, .int .i64 a0_1, .int .i64 a0_2, .slice A0_3 l0_3.length c0_3, .slice A0_4 l0_4.length c0_4] 32 (0, 0)) (t39) hb); have n1_ := Aside0.mk (below_step (t22) hb); clear BK162; clear HB; have BK162 := n0_; have HB := n1_; clear n0_ n1_; (try clear hb); (try clear hb2); (try clear hk); (try clear hi)) | ((with_reducible refine gate_dst (N := 21) rfl ?_); refine Kd.R_lit (Kd.int .i64) _ 3 ?hg (N := 21) ?hd (xs := ([] : List Int)) (inner := []) (ok := fun _ => True) (okp := fun _ => True) ?hr ?hp (fun _ hk => hk) trivial (Below.refl _ _) (Nat.le_refl _) (t50) ?_; (case hd => rfl); (case hg => rfl); (case hr => first | (go_simp; done) | (go_simp; rfl)); (case hp => exact (Reps.none _ _)); intro v176 w25 ho26 hb hg_ hnew_; clear hg_ hnew_; (first | rw [← Ny175.out] at ho26 | (simp only [Int.reduceToNat] at ho26; rw [← Ny175.out] at ho26)); have n0_ := Aside0.mk (Kd.R_lower ho26 (below_size (t22))); have n1_ := Aside0.mk (blk_below (g := gb162) (o := .cells #[.string a0_0, .int .i64 a0_1, .int .i64 a0_2, .slice A0_3 l0_3.length c0_3, .slice A0_4 l0_4.length c0_4] 32 (0, 0)) (t39) hb); have n2_ := Aside0.mk (below_step (t22) hb); clear BK162; clear HB; have HO177 := n0_; have BK162 := n1_; have HB := n2_; clear n0_ n1_ n2_; clear hb ho26))
   go_ret3
   exact ⟨_, by first | rfl | (simp only [nil_beq, nil_bne]; rfl) | (simp [nil_beq, nil_bne]; done) | (simp [errW_none, errW_some] <;> rfl) | (simp [*, errW_none, errW_some] <;> rfl), by (with_reducible repeat (first | apply Kd.R_alloc | apply Kd.R_drewN | apply Kd.R_drew)); exact HO177.out, by repeat (first | (with_reducible first | exact HB.out | apply below_alloc | apply pw_below_drewN | apply below_drew1 | refine below_set ?_ GE162.out) | exact HB.out)⟩

end Go.Proofs.YtnphhnhnmohfiaaDoor.PFnExactViewUpdates
