/- Contracts of functions that a statement reaches (wip/x/xprint.py, short.py, compact.py). -/
import Derived.Test.YtbikfhccfenkdaaPFnExactEngineOKx0
import Derived.Test.YtbikfhccfenkdaaPFnExactEngineOKx7
import Derived.Test.YtbikfhccfenkdaaPFnExactEngineOKx8
namespace Go.Proofs.Ytbikfhccfenkdaa.PFnExactEngineOK
open Go.RowKit Go.Proofs.YtbikfhccfenkdaaW.PrintWords Go.Proofs.YtbikfhccfenkdaaW.PrintLast Go.Proofs.YtbikfhccfenkdaaW.PrintMore Go.Proofs.Ytbikfhccfenkdaa.Mac
attribute [local go_sem] max2_int min2_int max_two min_two max_three min_three max_four min_four
set_option linter.unusedVariables false
set_option linter.unusedSimpArgs false

/-! ### spec_l09Read: function 31 -/
mutual
def spec_l09Read.j0 : Nat → ByteArray → Bool → Option (Int × Int × Int × Int × ByteArray × (List (S86)) × Bool)
 | 0, _, _ => none
 | k + 1, x0, x20 => if x20 = true then (some (0, 0, 0, 0, (⟨#[]⟩ : ByteArray), ([] : List (S86)), false)) else (if 4 < (x0.size : Int) then (if 0 < (x0.size : Int) then (if 1 < (x0.size : Int) then (if 2 < (x0.size : Int) then (if 5 ≤ 7 then (if 7 ≤ (x0.size : Int) then ((spec_l08Number.f k (x0.extract 5 7)).bind fun t165 => (if 7 ≤ (wrap64 (7 + (wrap64 (bt x0 4)))) then (if (wrap64 (7 + (wrap64 (bt x0 4)))) ≤ (x0.size : Int) then (if 3 < (x0.size : Int) then (spec_l09Read.l0 k x0 (wrap64 (7 + (wrap64 (bt x0 4)))) (wrap64 (bt x0 3)) (wrap64 (bt x0 0)) t165 (wrap64 (bt x0 1)) (wrap64 (bt x0 2)) (x0.extract 7 ((wrap64 (7 + (wrap64 (bt x0 4)))) : Int).toNat) (([] : List (S86)))) else (none)) else (none)) else (none))) else (none)) else (none)) else (none)) else (none)) else (none)) else (none))
def spec_l09Read.l0 : Nat → ByteArray → Int → Int → Int → Int → Int → Int → ByteArray → List (S86) → Option (Int × Int × Int × Int × ByteArray × (List (S86)) × Bool)
 | 0, _, _, _, _, _, _, _, _, _ => none
 | k + 1, x0, x4, x6, x170000, x170001, x170002, x170003, x170004, x170005 => if x6 > 0 then (if (wrap64 (x4 + 4)) > (x0.size : Int) then (some (0, 0, 0, 0, (⟨#[]⟩ : ByteArray), ([] : List (S86)), false)) else (if 0 ≤ x4 then (if x4 ≤ (wrap64 (x4 + 2)) then (if (wrap64 (x4 + 2)) ≤ (x0.size : Int) then ((spec_l08Number.f k (x0.extract (x4 : Int).toNat ((wrap64 (x4 + 2)) : Int).toNat)).bind fun t171 => (if 0 ≤ (wrap64 (x4 + 2)) then (if (wrap64 (x4 + 2)) ≤ (wrap64 (x4 + 4)) then (if (wrap64 (x4 + 4)) ≤ (x0.size : Int) then ((spec_l08Number.f k (x0.extract ((wrap64 (x4 + 2)) : Int).toNat ((wrap64 (x4 + 4)) : Int).toNat)).bind fun t172 => (if (wrap64 ((wrap64 ((wrap64 (x4 + 4)) + t171)) + t172)) > (x0.size : Int) then (some (0, 0, 0, 0, (⟨#[]⟩ : ByteArray), ([] : List (S86)), false)) else (if 0 ≤ (wrap64 (x4 + 4)) then (if (wrap64 (x4 + 4)) ≤ (wrap64 ((wrap64 (x4 + 4)) + t171)) then (if (wrap64 ((wrap64 (x4 + 4)) + t171)) ≤ (x0.size : Int) then (if 0 ≤ (wrap64 ((wrap64 (x4 + 4)) + t171)) then (if (wrap64 ((wrap64 (x4 + 4)) + t171)) ≤ (wrap64 ((wrap64 ((wrap64 (x4 + 4)) + t171)) + t172)) then (if (wrap64 ((wrap64 ((wrap64 (x4 + 4)) + t171)) + t172)) ≤ (x0.size : Int) then (if x170005.length < 4398046511104 then (spec_l09Read.l0 k x0 (wrap64 ((wrap64 (x4 + 4)) + (wrap64 (t171 + t172)))) (wrap64 (x6 - 1)) x170000 x170001 x170002 x170003 x170004 (x170005 ++ [(⟨x0.extract ((wrap64 (x4 + 4)) : Int).toNat ((wrap64 ((wrap64 (x4 + 4)) + t171)) : Int).toNat, x0.extract ((wrap64 ((wrap64 (x4 + 4)) + t171)) : Int).toNat ((wrap64 ((wrap64 ((wrap64 (x4 + 4)) + t171)) + t172)) : Int).toNat⟩ : S86)])) else (none)) else (none)) else (none)) else (none)) else (none)) else (none)) else (none)))) else (none)) else (none)) else (none))) else (none)) else (none)) else (none))) else (if x4 = (x0.size : Int) then ((spec_MutationOK.f k x170000 x170001 x170002 x170003 x170004 x170005).bind fun t170 => (some (x170000, x170001, x170002, x170003, x170004, x170005, t170))) else (some (x170000, x170001, x170002, x170003, x170004, x170005, false)))
end
def spec_l09Read.f (k : Nat) (a0 : ByteArray) : Option (Int × Int × Int × Int × ByteArray × (List (S86)) × Bool) := if (a0.size : Int) < 7 then (spec_l09Read.j0 k a0 true) else (if 4 < (a0.size : Int) then (spec_l09Read.j0 k a0 (decide ((a0.size : Int) < (wrap64 (7 + (wrap64 (bt a0 4))))))) else (none))
theorem spec_l09Read.mono_l : ∀ k, (∀ y0 y1, LeO (spec_l09Read.j0 k y0 y1) (spec_l09Read.j0 (k + 1) y0 y1)) ∧ (∀ y0 y1 y2 y3 y4 y5 y6 y7 y8, LeO (spec_l09Read.l0 k y0 y1 y2 y3 y4 y5 y6 y7 y8) (spec_l09Read.l0 (k + 1) y0 y1 y2 y3 y4 y5 y6 y7 y8))
 | 0 => ⟨fun _ _ r h => by simp [spec_l09Read.j0] at h, fun _ _ _ _ _ _ _ _ _ r h => by simp [spec_l09Read.l0] at h⟩
 | k + 1 => by
  obtain ⟨ih0, ih1⟩ := spec_l09Read.mono_l k
  refine ⟨?_, ?_⟩
  ·intro y0 y1
   unfold spec_l09Read.j0
   have m0 := @spec_MutationOK.mono
   have m1 := @spec_l08Number.mono
   exact tM
  ·intro y0 y1 y2 y3 y4 y5 y6 y7 y8
   unfold spec_l09Read.l0
   have m0 := @spec_MutationOK.mono
   have m1 := @spec_l08Number.mono
   exact tM
theorem spec_l09Read.mono : ∀ a0 k, LeO (spec_l09Read.f k a0) (spec_l09Read.f (k + 1) a0) := by
 intro a0 k
 obtain ⟨ih0, ih1⟩ := spec_l09Read.mono_l k
 unfold spec_l09Read.f
 have m0 := @spec_MutationOK.mono
 have m1 := @spec_l08Number.mono
 exact tM
def spec_l09Read.T4 : Bool × List (List Nat × List Nat) := (true, [([], []), ([0], [0]), ([1], [1]), ([], []), ([3], [3]), ([4], [4]), ([], []), ([6], [6]), ([7], [7]), ([], []), ([9], [9]), ([10], [10]), ([], []), ([], []), ([12, 13], [12, 13]), ([], []), ([2, 5, 8, 11, 14, 15], [2, 5, 8, 11, 14, 15]), ([], []), ([17, 16, 11, 0, 1, 2, 3, 4, 5, 6, 7, 8, 9, 10, 11, 12, 13, 14, 15, 16, 17], [16, 17])])
def spec_l09Read.B4 : List Nat := [0, 1, 3, 0, 8, 24, 0, 64, 192, 0, 512, 1536, 0, 0, 12288, 0, 65535, 0, 262143]
theorem spec_l09Read.tab4 : rtab .any (opsOf Try.f31 4) = spec_l09Read.T4 := by kernel_rfl
theorem spec_l09Read.bits4 : waitsOk spec_l09Read.T4.2 spec_l09Read.B4 = true := by kernel_rfl
def spec_l09Read.T15 : Bool × List (List Nat × List Nat) := (true, [([], []), ([0], [0]), ([], []), ([], []), ([], []), ([], []), ([4, 5], [4, 5]), ([2, 3, 6], [2, 3, 6]), ([], []), ([], []), ([], []), ([9, 10], [9, 10]), ([], []), ([], []), ([12, 13], [12, 13]), ([], []), ([14, 15], [14, 15]), ([8, 11, 16], [8, 11, 16]), ([7, 17], [7, 17]), ([18], [18]), ([1, 19], [1, 19]), ([0, 1, 2, 3, 4, 5, 6, 7, 8, 9, 10, 11, 12, 13, 14, 15, 16, 17, 18, 19, 20], []), ([21, 20, 20, 0, 1, 2, 3, 4, 5, 6, 7, 8, 9, 10, 11, 12, 13, 14, 15, 16, 17, 18, 19, 20], [20, 21])])
def spec_l09Read.B15 : List Nat := [0, 1, 0, 0, 0, 0, 48, 124, 0, 0, 0, 1536, 0, 0, 12288, 0, 61440, 130816, 262140, 524284, 1048575, 2097151, 4194303]
theorem spec_l09Read.tab15 : rtab .any (opsOf Try.f31 15) = spec_l09Read.T15 := by kernel_rfl
theorem spec_l09Read.bits15 : waitsOk spec_l09Read.T15.2 spec_l09Read.B15 = true := by kernel_rfl
def spec_l09Read.T17 : Bool × List (List Nat × List Nat) := (true, [([], []), ([], []), ([], []), ([2], [2]), ([1, 3], [1, 3]), ([4], [4]), ([5], [5]), ([6, 5, 5], [5, 6]), ([5, 7], [5, 7]), ([0, 7, 0], [0]), ([8, 9, 0, 1, 2, 3, 4, 5, 6, 7, 8, 9], [8])])
def spec_l09Read.B17 : List Nat := [0, 0, 0, 4, 14, 30, 62, 126, 254, 255, 1023]
theorem spec_l09Read.tab17 : rtab .any (opsOf Try.f31 17) = spec_l09Read.T17 := by kernel_rfl
theorem spec_l09Read.bits17 : waitsOk spec_l09Read.T17.2 spec_l09Read.B17 = true := by kernel_rfl
set_option maxHeartbeats 40000000 in
set_option maxRecDepth 100000 in
theorem spec_l09Read.calls (k : Nat) (a0 : ByteArray) (r1 : Int) (r2 : Int) (r3 : Int) (r4 : Int) (r5 : ByteArray) (r6 : List (S86)) (r7 : Bool) (w : World) (h : spec_l09Read.f k a0 = some (r1, r2, r3, r4, r5, r6, r7)) :
  Calls Try.prog 31 #[.string a0] w fun e w' => ∃ v5_ : Value, e = .returned (.tuple #[.agg #[.int .i64 r1, .int .i64 r2, .int .i64 r3, .int .i64 r4, .string r5, v5_], .bool r7]) ∧ Kd.R k86 86 w' w.heap.size (fun _ => True) v5_ r6 ∧ Below w.heap.size w w' := by
 have hu65 := Try.underlying65
 have hu86 := Try.underlying86
 have HB := Aside0.mk (Below.refl w.heap.size w)
 have H : (if (a0.size : Int) < 7 then (spec_l09Read.j0 k a0 true) else (if 4 < (a0.size : Int) then (spec_l09Read.j0 k a0 (decide ((a0.size : Int) < (wrap64 (7 + (wrap64 (bt a0 4))))))) else (none))) = some (r1, r2, r3, r4, r5, r6, r7) := h
 clear h
 have HC2 := Aside0.mk H
 clear H
 go_enter Try.func31, Try.ntmps31
 go_upto_region 1 with (first | ((with_reducible refine gate_dst (N := 2) rfl ?_); (try (refine gate_guard (Z102) ?_; dsimp only)); refine bxE 2 #[.int .i64 0, .int .i64 0, .int .i64 0, .int .i64 0, .string (⟨#[]⟩ : ByteArray), .slice none 0 0] 65 ?_; intro gb164 hg w3 hbox hb; have BK164 := Aside0.mk (hbox); have GW164 := Aside0.mk ((szE w hg (Z0))); have GE164 := Aside0.mk ((szE w hg (Z0))); replace HB := Aside0.mk (below_step (Z0) hb); clear hb hbox hg))
 (try simp only [Act.put, List.setIfInBounds_toArray, List.set_cons_zero, List.set_cons_succ])
 go_cut [20] (fun v20 wc => ∃ (kq : Nat) (x20_1 : Bool), v20 = .bool x20_1 ∧ Aside0 (spec_l09Read.j0 kq a0 x20_1 = some (r1, r2, r3, r4, r5, r6, r7)) ∧ Aside0 (kq ≤ k) ∧ Aside0 (wc.heap[gb164]? = some (.cells #[.int .i64 0, .int .i64 0, .int .i64 0, .int .i64 0, .string (⟨#[]⟩ : ByteArray), (.slice none 0 0)] 65 (0, 0))) ∧ Aside0 (Below w.heap.size w wc))
 case first =>
  have H := HC2.out
  clear HC2
  by_cases c4 : (a0.size : Int) < 7
  ·rw [if_pos c4] at H
   have c4b0 := decide_eq_true c4
   have c4b1 : decide (a0.size < 7) = true := decide_eq_true (Z43)
   clear c4
   (first | rw [c4b0] | rw [c4b1] | (simp only [i64_w, i32_w]; rw [c4b0]) | skip)
   have H' := Aside0.mk H
   clear H
   go_wp2
   go_meet
   case rel => exact ⟨_, (true), (Z3), H', ⟨Z74⟩, ⟨Z17⟩, ⟨Z21⟩⟩
  ·rw [if_neg c4] at H
   have c4b0 := decide_eq_false c4
   have c4b1 : decide (a0.size < 7) = false := decide_eq_false (Z43)
   clear c4
   (first | rw [c4b0] | rw [c4b1] | (simp only [i64_w, i32_w]; rw [c4b0]) | skip)
   obtain ⟨c5, H⟩ := ifS H
   have c5b0 : decide (4 < (a0.size : Int)) = true := decide_eq_true c5
   have c5b1 : decide (4 < a0.size) = true := decide_eq_true (Z43)
   clear c5
   have H' := Aside0.mk H
   clear H
   have p6 : 0 ≤ (4 : Int) := (Z43)
   have q6 : 4 < a0.size := (by have : (4 : Int) < (a0.size : Int) := of_decide_eq_true (Z4); omega)
   have hx6 : ∀ h : 4 < a0.size, ((a0[4]'h).toNat : Int) = bt a0 4 := bt_at a0 4
   clear p6
   have qi6 : (4 < (a0.size : Int)) = True := eq_true (of_decide_eq_true (Z4))
   replace q6 := eq_true q6
   go_wp2
   go_meet
   case rel => exact ⟨_, (decide ((a0.size : Int) < (wrap64 (7 + (wrap64 (bt a0 4)))))), (Z3), H', ⟨Z74⟩, ⟨Z17⟩, ⟨Z21⟩⟩
 case rest =>
  clear HC2
  obtain ⟨kq, x20_1, rfl, HA, HJ1, BK164, HB⟩ := hcut
  cases kq with
  | zero => exact absurd HA.out (by simp [spec_l09Read.j0])
  | succ kj1 =>
   have H := HA.out
   clear HA
   simp only [spec_l09Read.j0] at H
   by_cases c7 : x20_1 = true
   ·subst c7
    replace H := ifT H
    simp only [Option.some.injEq, Prod.mk.injEq] at H
    obtain ⟨rfl, rfl, rfl, rfl, rfl, rfl, rfl⟩ := H
    obtain ⟨hcz8_0, hcz8_1, hcz8_2, hcz8_3, hcz8_4, hcz8_5⟩ := bc6 BK164.out
    obtain ⟨hfz8_0, hfz8_1, hfz8_2, hfz8_3, hfz8_4, hfz8_5⟩ := bf6 BK164.out
    go_wp2
    refine bodyPost_ret (results_ct rfl _ _ gb164 65 #[.int .i64 0, .int .i64 0, .int .i64 0, .int .i64 0, .string (⟨#[]⟩ : ByteArray), .slice none 0 0] (0, 0) _ rfl (by (with_reducible repeat (first | refine blk_drewN ?_ _ | refine blk_drew ?_ | refine blk_alloc ?_ _)); refine blk_put (cs := #[.int .i64 0, .int .i64 0, .int .i64 0, .int .i64 0, .string (⟨#[]⟩ : ByteArray), .slice none 0 0]) ?_ 5 _ rfl; (with_reducible repeat (first | refine blk_drewN ?_ _ | refine blk_drew ?_ | refine blk_alloc ?_ _)); refine blk_put (cs := #[.int .i64 0, .int .i64 0, .int .i64 0, .int .i64 0, .string (⟨#[]⟩ : ByteArray), .slice none 0 0]) ?_ 4 _ rfl; (with_reducible repeat (first | refine blk_drewN ?_ _ | refine blk_drew ?_ | refine blk_alloc ?_ _)); refine blk_put (cs := #[.int .i64 0, .int .i64 0, .int .i64 0, .int .i64 0, .string (⟨#[]⟩ : ByteArray), .slice none 0 0]) ?_ 3 _ rfl; (with_reducible repeat (first | refine blk_drewN ?_ _ | refine blk_drew ?_ | refine blk_alloc ?_ _)); refine blk_put (cs := #[.int .i64 0, .int .i64 0, .int .i64 0, .int .i64 0, .string (⟨#[]⟩ : ByteArray), .slice none 0 0]) ?_ 2 _ rfl; (with_reducible repeat (first | refine blk_drewN ?_ _ | refine blk_drew ?_ | refine blk_alloc ?_ _)); refine blk_put (cs := #[.int .i64 0, .int .i64 0, .int .i64 0, .int .i64 0, .string (⟨#[]⟩ : ByteArray), .slice none 0 0]) ?_ 1 _ rfl; (with_reducible repeat (first | refine blk_drewN ?_ _ | refine blk_drew ?_ | refine blk_alloc ?_ _)); refine blk_put (cs := #[.int .i64 0, .int .i64 0, .int .i64 0, .int .i64 0, .string (⟨#[]⟩ : ByteArray), .slice none 0 0]) ?_ 0 _ rfl; (with_reducible repeat (first | refine blk_drewN ?_ _ | refine blk_drew ?_ | refine blk_alloc ?_ _)); exact BK164.out) Try.underlying65 rfl (Z24)) rfl ?_
    exact ⟨_, Z2, Z90, Z21⟩
   ·replace c7 := Bool.eq_false_iff.mpr c7
    subst c7
    replace H := ifF H
    obtain ⟨c9, H⟩ := ifS H
    have c9b0 : decide (4 < (a0.size : Int)) = true := decide_eq_true c9
    have c9b1 : decide (4 < a0.size) = true := decide_eq_true (Z43)
    clear c9
    obtain ⟨c11, H⟩ := ifS H
    have c11b0 : decide (0 < (a0.size : Int)) = true := decide_eq_true c11
    have c11b1 : decide (0 < a0.size) = true := decide_eq_true (Z43)
    clear c11
    obtain ⟨c13, H⟩ := ifS H
    have c13b0 : decide (1 < (a0.size : Int)) = true := decide_eq_true c13
    have c13b1 : decide (1 < a0.size) = true := decide_eq_true (Z43)
    clear c13
    obtain ⟨c15, H⟩ := ifS H
    have c15b0 : decide (2 < (a0.size : Int)) = true := decide_eq_true c15
    have c15b1 : decide (2 < a0.size) = true := decide_eq_true (Z43)
    clear c15
    obtain ⟨c17, H⟩ := ifS H
    have c17b0 := eq_true c17
    have c17b1 : decide (5 ≤ 7) = true := decide_eq_true c17
    clear c17
    obtain ⟨c18, H⟩ := ifS H
    have c18b0 := eq_true c18
    have c18b1 : decide (7 ≤ (a0.size : Int)) = true := decide_eq_true c18
    clear c18
    obtain ⟨t165, A19, H⟩ := bindA H
    try dsimp only at H
    obtain ⟨c20, H⟩ := ifS H
    have c20b0 := eq_true c20
    have c20b1 : decide (7 ≤ (wrap64 (7 + (wrap64 (bt a0 4))))) = true := decide_eq_true c20
    obtain ⟨c21, H⟩ := ifS H
    have c21b0 := eq_true c21
    have c21b1 : decide ((wrap64 (7 + (wrap64 (bt a0 4)))) ≤ (a0.size : Int)) = true := decide_eq_true c21
    obtain ⟨y166, hy166⟩ : ∃ y_ : List (S86), y_ = (([] : List (S86))) := ⟨_, rfl⟩
    replace H : (if 3 < (a0.size : Int) then (spec_l09Read.l0 kj1 a0 (wrap64 (7 + (wrap64 (bt a0 4)))) (wrap64 (bt a0 3)) (wrap64 (bt a0 0)) t165 (wrap64 (bt a0 1)) (wrap64 (bt a0 2)) (a0.extract 7 ((wrap64 (7 + (wrap64 (bt a0 4)))) : Int).toNat) y166) else (none)) = some (r1, r2, r3, r4, r5, r6, r7) := by first | (rw [hy166]; with_reducible exact H) | (have H2_ := (Option.bind_some _ _).symm.trans H; rw [hy166]; with_reducible exact H2_) | (have H2_ := (Option.bind_some _ _).symm.trans H; with_reducible exact H2_) | with_reducible exact H | (rw [hy166]; exact H) | exact H
    have Ny166 := Aside0.mk hy166
    clear hy166
    obtain ⟨c22, H⟩ := ifS H
    have c22b0 : decide (3 < (a0.size : Int)) = true := decide_eq_true c22
    have c22b1 : decide (3 < a0.size) = true := decide_eq_true (Z43)
    clear c22
    have H' := Aside0.mk H
    clear H
    have p10 : 0 ≤ (4 : Int) := (Z43)
    have q10 : 4 < a0.size := (by have : (4 : Int) < (a0.size : Int) := of_decide_eq_true (Z4); omega)
    have hx10 : ∀ h : 4 < a0.size, ((a0[4]'h).toNat : Int) = bt a0 4 := bt_at a0 4
    clear p10
    have qi10 : (4 < (a0.size : Int)) = True := eq_true (of_decide_eq_true (Z4))
    replace q10 := eq_true q10
    try go_wp2
    replace BK164 := Aside0.mk (blk_drew BK164.out)
    replace HB := Aside0.mk (below_drew1 HB.out)
    have p12 : 0 ≤ (0 : Int) := (Z43)
    have q12 : 0 < a0.size := (by have : (0 : Int) < (a0.size : Int) := of_decide_eq_true (Z4); omega)
    have hx12 : ∀ h : 0 < a0.size, ((a0[0]'h).toNat : Int) = bt a0 0 := bt_at a0 0
    clear p12
    have qi12 : (0 < (a0.size : Int)) = True := eq_true (of_decide_eq_true (Z4))
    replace q12 := eq_true q12
    have p14 : 0 ≤ (1 : Int) := (Z43)
    have q14 : 1 < a0.size := (by have : (1 : Int) < (a0.size : Int) := of_decide_eq_true (Z4); omega)
    have hx14 : ∀ h : 1 < a0.size, ((a0[1]'h).toNat : Int) = bt a0 1 := bt_at a0 1
    clear p14
    have qi14 : (1 < (a0.size : Int)) = True := eq_true (of_decide_eq_true (Z4))
    replace q14 := eq_true q14
    have p16 : 0 ≤ (2 : Int) := (Z43)
    have q16 : 2 < a0.size := (by have : (2 : Int) < (a0.size : Int) := of_decide_eq_true (Z4); omega)
    have hx16 : ∀ h : 2 < a0.size, ((a0[2]'h).toNat : Int) = bt a0 2 := bt_at a0 2
    clear p16
    have qi16 : (2 < (a0.size : Int)) = True := eq_true (of_decide_eq_true (Z4))
    replace q16 := eq_true q16
    refine start_ (n := 19) (S := fun w' => True) (ds := []) #[false, false, false, false, false, false, false, false, false, false, false, false, false, false, false, false, false, false, false] (Z24) rfl rfl trivial (fun hHeld => ?_); refine with_tabW spec_l09Read.tab4 spec_l09Read.bits4 (fun HT_ HW_ => ?_)
    generalize wc.drew = w24 at BK164 HB hHeld ⊢
    refine pA 0 26 ?_
    refine pA 3 29 ?_
    refine pA 6 32 ?_
    refine pA 9 35 ?_
    refine pA 10 36 ?_
    refine pA 12 38 ?_
    refine pA 13 39 ?_
    refine pA 14 40 ?_
    refine take_ (i := 1) (N := some 27) (v := ?_) (a' := ?_) #[true, true, false, true, false, false, true, false, false, true, true, false, true, true, true, false, false, false, false] rfl rfl (take_ofW HT_.out HW_.out (Z24)) (fun _ _ _ h => h) (Or.inl ⟨Z102, ?_⟩) hHeld ?_ ?_
    rotate_left
    ·intro w' _
     go_simp
     with_reducible rfl
    rotate_left
    ·simp only [Act.put, List.setIfInBounds_toArray, List.set_cons_zero, List.set_cons_succ, i64_w, i32_w]
     rfl
    refine pA 2 28 ?_
    refine take_ (i := 4) (N := some 30) (v := ?_) (a' := ?_) #[true, true, true, true, true, false, true, false, false, true, true, false, true, true, true, false, false, false, false] rfl rfl (take_ofW HT_.out HW_.out (Z24)) (fun _ _ _ h => h) (Or.inl ⟨Z102, ?_⟩) hHeld ?_ ?_
    rotate_left
    ·intro w' _
     go_simp
     with_reducible rfl
    rotate_left
    ·simp only [Act.put, List.setIfInBounds_toArray, List.set_cons_zero, List.set_cons_succ, i64_w, i32_w]
     rfl
    refine pA 5 31 ?_
    refine take_ (i := 7) (N := some 33) (v := ?_) (a' := ?_) #[true, true, true, true, true, true, true, true, false, true, true, false, true, true, true, false, false, false, false] rfl rfl (take_ofW HT_.out HW_.out (Z24)) (fun _ _ _ h => h) (Or.inl ⟨Z102, ?_⟩) hHeld ?_ ?_
    rotate_left
    ·intro w' _
     go_simp
     with_reducible rfl
    rotate_left
    ·simp only [Act.put, List.setIfInBounds_toArray, List.set_cons_zero, List.set_cons_succ, i64_w, i32_w]
     rfl
    refine pA 8 34 ?_
    refine join_ (σ := Value × Nat) 1 #[true, true, true, true, true, true, true, true, true, true, true, true, true, true, true, true, true, true, false] (fun s_ => [(37, .int .i64 t165), (41, s_.1), (5, .pointer (some ⟨s_.2, 0, none⟩)), (42, .agg #[.int .i64 (wrap64 (bt a0 0)), .int .i64 t165, .int .i64 (wrap64 (bt a0 1)), .int .i64 (wrap64 (bt a0 2)), .string (a0.extract 7 ((wrap64 (7 + (wrap64 (bt a0 4)))) : Int).toNat), s_.1])]) (fun s_ w' => (Kd.R k86 86 w' w.heap.size (fun _ => True) s_.1 y166) ∧ (w'.heap[gb164]? = some (.cells #[.int .i64 0, .int .i64 0, .int .i64 0, .int .i64 0, .string (⟨#[]⟩ : ByteArray), .slice none 0 0] 65 (0, 0))) ∧ (w'.heap[s_.2]? = some (.cells #[.int .i64 0, .int .i64 0, .int .i64 0, .int .i64 0, .string (⟨#[]⟩ : ByteArray), .slice none 0 0] 65 (0, 0))) ∧ (w.heap.size ≤ s_.2) ∧ (w.heap.size ≤ s_.2) ∧ (gb164 ≠ s_.2) ∧ (s_.2 ≠ gb164) ∧ (Below w.heap.size w w')) ?_ ?_
    rotate_left
    ·intro hJ11_15_17
     refine join_ (σ := Value) 2 #[true, true, true, true, true, true, true, true, true, true, true, true, true, true, true, true, true, false, false] (fun s_ => [(37, .int .i64 t165), (41, s_), (42, .agg #[.int .i64 (wrap64 (bt a0 0)), .int .i64 t165, .int .i64 (wrap64 (bt a0 1)), .int .i64 (wrap64 (bt a0 2)), .string (a0.extract 7 ((wrap64 (7 + (wrap64 (bt a0 4)))) : Int).toNat), s_])]) (fun s_ w' => (Kd.R k86 86 w' w.heap.size (fun _ => True) s_ y166) ∧ (w'.heap[gb164]? = some (.cells #[.int .i64 0, .int .i64 0, .int .i64 0, .int .i64 0, .string (⟨#[]⟩ : ByteArray), .slice none 0 0] 65 (0, 0))) ∧ (Below w.heap.size w w')) ?_ ?_
     rotate_left
     ·intro hJ11_15
      refine join_ (σ := Nat) 3 #[true, true, true, true, true, true, true, true, true, true, true, true, true, true, true, false, false, true, false] (fun s_ => [(37, .int .i64 t165), (5, .pointer (some ⟨s_, 0, none⟩))]) (fun s_ w' => (w'.heap[gb164]? = some (.cells #[.int .i64 0, .int .i64 0, .int .i64 0, .int .i64 0, .string (⟨#[]⟩ : ByteArray), .slice none 0 0] 65 (0, 0))) ∧ (w'.heap[s_]? = some (.cells #[.int .i64 0, .int .i64 0, .int .i64 0, .int .i64 0, .string (⟨#[]⟩ : ByteArray), .slice none 0 0] 65 (0, 0))) ∧ (w.heap.size ≤ s_) ∧ (w.heap.size ≤ s_) ∧ (gb164 ≠ s_) ∧ (s_ ≠ gb164) ∧ (Below w.heap.size w w')) ?_ ?_
      rotate_left
      ·intro hJ11_17
       refine join_ (σ := Value × Nat) 3 #[true, true, true, true, true, true, true, true, true, true, true, false, true, true, true, true, false, true, false] (fun s_ => [(41, s_.1), (5, .pointer (some ⟨s_.2, 0, none⟩))]) (fun s_ w' => (Kd.R k86 86 w' w.heap.size (fun _ => True) s_.1 y166) ∧ (w'.heap[gb164]? = some (.cells #[.int .i64 0, .int .i64 0, .int .i64 0, .int .i64 0, .string (⟨#[]⟩ : ByteArray), .slice none 0 0] 65 (0, 0))) ∧ (w'.heap[s_.2]? = some (.cells #[.int .i64 0, .int .i64 0, .int .i64 0, .int .i64 0, .string (⟨#[]⟩ : ByteArray), .slice none 0 0] 65 (0, 0))) ∧ (w.heap.size ≤ s_.2) ∧ (w.heap.size ≤ s_.2) ∧ (gb164 ≠ s_.2) ∧ (s_.2 ≠ gb164) ∧ (Below w.heap.size w w')) ?_ ?_
       rotate_left
       ·intro hJ15_17
        refine join_ (σ := Unit) 4 #[true, true, true, true, true, true, true, true, true, true, true, true, true, true, true, false, false, false, false] (fun s_ => [(37, .int .i64 t165)]) (fun s_ w' => (w'.heap[gb164]? = some (.cells #[.int .i64 0, .int .i64 0, .int .i64 0, .int .i64 0, .string (⟨#[]⟩ : ByteArray), .slice none 0 0] 65 (0, 0))) ∧ (Below w.heap.size w w')) ?_ ?_
        rotate_left
        ·intro hJ11
         refine join_ (σ := Value) 4 #[true, true, true, true, true, true, true, true, true, true, true, false, true, true, true, true, false, false, false] (fun s_ => [(41, s_)]) (fun s_ w' => (Kd.R k86 86 w' w.heap.size (fun _ => True) s_ y166) ∧ (w'.heap[gb164]? = some (.cells #[.int .i64 0, .int .i64 0, .int .i64 0, .int .i64 0, .string (⟨#[]⟩ : ByteArray), .slice none 0 0] 65 (0, 0))) ∧ (Below w.heap.size w w')) ?_ ?_
         rotate_left
         ·intro hJ15
          refine join_ (σ := Nat) 4 #[true, true, true, true, true, true, true, true, true, true, true, false, true, true, true, false, false, true, false] (fun s_ => [(5, .pointer (some ⟨s_, 0, none⟩))]) (fun s_ w' => (w'.heap[gb164]? = some (.cells #[.int .i64 0, .int .i64 0, .int .i64 0, .int .i64 0, .string (⟨#[]⟩ : ByteArray), .slice none 0 0] 65 (0, 0))) ∧ (w'.heap[s_]? = some (.cells #[.int .i64 0, .int .i64 0, .int .i64 0, .int .i64 0, .string (⟨#[]⟩ : ByteArray), .slice none 0 0] 65 (0, 0))) ∧ (w.heap.size ≤ s_) ∧ (w.heap.size ≤ s_) ∧ (gb164 ≠ s_) ∧ (s_ ≠ gb164) ∧ (Below w.heap.size w w')) ?_ ?_
          rotate_left
          ·intro hJ17
           refine three_ (i := 11) (j := 15) (k := 17) (Ni := some 37) (Nj := some 41) (Nk := some 5) #[true, true, true, true, true, true, true, true, true, true, true, true, true, true, true, false, false, false, false] #[true, true, true, true, true, true, true, true, true, true, true, false, true, true, true, true, false, false, false] #[true, true, true, true, true, true, true, true, true, true, true, false, true, true, true, false, false, true, false] rfl rfl rfl rfl rfl rfl (three_of HT_.out (Z24)) (Z79) (Z79) (Z79) (fun K hK => ?_) (fun K hK => ?_) (fun K hK => ?_)
           ·skip
            refine goes_ Try.func29 (Z24) rfl #[.string (a0.extract 5 7)] (Z102) rfl rfl (Z1) ?_
            with_reducible refine (spec_l08Number.calls kj1 (a0.extract 5 7) t165 _ A19.out).mono ?_
            rintro e w' ⟨rfl, ⟨nd, rfl⟩⟩
            refine ⟨_, rfl, ?_⟩
            refine hK.out _ _ trivial (fun hHeld => ?_)
            clear hK K
            refine nB 37 ?_
            exact norm_ (Z32) (hJ11 () _ ⟨(Z17), (Z21)⟩)
           ·skip
            refine Kd.R_lit_step k86 _ 86 ?hg (N := 41) ?hd (xs := ([] : List (S86))) (inner := []) (ok := fun _ => True) (okp := fun _ => True) ?hr ?hp (fun _ hk => hk) trivial (Below.refl _ _) (Nat.le_refl _) (Z124) ?_; (case hd => rfl); (case hg => rfl); (case hr => first | (go_simp; done) | (go_simp; rfl)); (case hp => exact (Reps.none _ _))
            intro v167 w25 ho26 hb hg_ hnew_
            clear hg_ hnew_
            (first | rw [← Ny166.out] at ho26 | (simp only [Int.reduceToNat] at ho26; rw [← Ny166.out] at ho26))
            have HO168 := Aside0.mk (Kd.R_lower ho26 (below_size (Z21)))
            replace BK164 := Aside0.mk (kB BK164 (Z17) hb)
            replace HB := Aside0.mk (below_step (Z21) hb)
            clear hb ho26
            refine hK.out _ _ trivial (fun hHeld => ?_)
            clear hK K
            refine nB 41 ?_
            exact norm_ (Z32) (hJ15 (v167) _ ⟨(Z68), (Z17), (Z21)⟩)
           ·skip
            refine box_step ?hg (N := 5) ?hd (cs := #[.int .i64 0, .int .i64 0, .int .i64 0, .int .i64 0, .string (⟨#[]⟩ : ByteArray), .slice none 0 0]) (t := 65) ?hr ?_; (case hd => rfl); (case hg => rfl); (case hr => first | (go_simp; done) | (go_simp; rfl))
            intro gb169 hg w25 hbox hb
            have BK169 := Aside0.mk (hbox)
            have GW169 := Aside0.mk ((szE w hg (Z21)))
            have GE169 := Aside0.mk ((szE w hg (Z21)))
            replace HB := Aside0.mk (below_step (Z21) hb)
            have NB164_169 := Aside0.mk ((nL BK164 hg (Z17)))
            have NB169_164 := Aside0.mk ((nG BK164 hg (Z17)))
            replace BK164 := Aside0.mk (kB BK164 (Z17) hb)
            clear hb hbox hg
            refine hK.out _ _ trivial (fun hHeld => ?_)
            clear hK K
            refine nB 5 ?_
            exact norm_ (Z32) (hJ17 (gb169) _ ⟨(Z17), (Z45), GW169.out, GE169.out, NB164_169.out, NB169_164.out, (Z11)⟩)
          ·skip
           rintro gb169 w26 ⟨h0_, h1_, h2_, h3_, h4_, h5_, h6_⟩
           have n0_ : Aside0 (w26.heap[gb164]? = some (.cells #[.int .i64 0, .int .i64 0, .int .i64 0, .int .i64 0, .string (⟨#[]⟩ : ByteArray), .slice none 0 0] 65 (0, 0))) := ⟨h0_⟩
           have n1_ : Aside0 (w26.heap[gb169]? = some (.cells #[.int .i64 0, .int .i64 0, .int .i64 0, .int .i64 0, .string (⟨#[]⟩ : ByteArray), .slice none 0 0] 65 (0, 0))) := ⟨h1_⟩
           have n2_ : Aside0 (w.heap.size ≤ gb169) := ⟨h2_⟩
           have n3_ : Aside0 (w.heap.size ≤ gb169) := ⟨h3_⟩
           have n4_ : Aside0 (gb164 ≠ gb169) := ⟨h4_⟩
           have n5_ : Aside0 (gb169 ≠ gb164) := ⟨h5_⟩
           have n6_ : Aside0 (Below w.heap.size w w26) := ⟨h6_⟩
           clear BK164
           clear HB
           clear h0_ h1_ h2_ h3_ h4_ h5_ h6_
           have BK164 := n0_
           have BK169 := n1_
           have GW169 := n2_
           have GE169 := n3_
           have NB164_169 := n4_
           have NB169_164 := n5_
           have HB := n6_
           clear n0_ n1_ n2_ n3_ n4_ n5_ n6_
           have hHeld := trivial
           refine norm_ (a' := ?_) ?_ ?_
           rotate_left
           ·simp only [putAll, Act.put, List.setIfInBounds_toArray, List.set_cons_zero, List.set_cons_succ]
            rfl
           refine two_ (i := 11) (j := 15) (Ni := some 37) (Nj := some 41) #[true, true, true, true, true, true, true, true, true, true, true, true, true, true, true, false, false, true, false] #[true, true, true, true, true, true, true, true, true, true, true, false, true, true, true, true, false, true, false] rfl rfl rfl rfl (two_of HT_.out (Z24)) (Z79) (Z79) (fun K hK => ?_) (fun K hK => ?_)
           ·skip
            refine goes_ Try.func29 (Z24) rfl #[.string (a0.extract 5 7)] (Z102) rfl rfl (Z1) ?_
            with_reducible refine (spec_l08Number.calls kj1 (a0.extract 5 7) t165 _ A19.out).mono ?_
            rintro e w' ⟨rfl, ⟨nd, rfl⟩⟩
            refine ⟨_, rfl, ?_⟩
            refine hK.out _ _ trivial (fun hHeld => ?_)
            clear hK K
            refine nB 37 ?_
            exact norm_ (Z32) (hJ11_17 (gb169) _ ⟨(Z17), (Z45), GW169.out, GE169.out, NB164_169.out, NB169_164.out, (Z11)⟩)
           ·skip
            refine Kd.R_lit_step k86 _ 86 ?hg (N := 41) ?hd (xs := ([] : List (S86))) (inner := []) (ok := fun _ => True) (okp := fun _ => True) ?hr ?hp (fun _ hk => hk) trivial (Below.refl _ _) (Nat.le_refl _) (Z124) ?_; (case hd => rfl); (case hg => rfl); (case hr => first | (go_simp; done) | (go_simp; rfl)); (case hp => exact (Reps.none _ _))
            intro v167 w27 ho28 hb hg_ hnew_
            clear hg_ hnew_
            (first | rw [← Ny166.out] at ho28 | (simp only [Int.reduceToNat] at ho28; rw [← Ny166.out] at ho28))
            have HO168 := Aside0.mk (Kd.R_lower ho28 (below_size (Z11)))
            replace BK164 := Aside0.mk (kB BK164 (Z17) hb)
            replace BK169 := Aside0.mk (kB BK169 (Z45) hb)
            replace HB := Aside0.mk (below_step (Z11) hb)
            clear hb ho28
            refine hK.out _ _ trivial (fun hHeld => ?_)
            clear hK K
            refine nB 41 ?_
            exact norm_ (Z32) (hJ15_17 (v167, gb169) _ ⟨(Z68), (Z17), (Z45), GW169.out, GE169.out, NB164_169.out, NB169_164.out, (Z11)⟩)
         ·skip
          rintro v167 w27 ⟨h0_, h1_, h2_⟩
          have n0_ : Aside0 (Kd.R k86 86 w27 w.heap.size (fun _ => True) v167 y166) := ⟨h0_⟩
          have n1_ : Aside0 (w27.heap[gb164]? = some (.cells #[.int .i64 0, .int .i64 0, .int .i64 0, .int .i64 0, .string (⟨#[]⟩ : ByteArray), .slice none 0 0] 65 (0, 0))) := ⟨h1_⟩
          have n2_ : Aside0 (Below w.heap.size w w27) := ⟨h2_⟩
          clear BK164
          clear HB
          clear h0_ h1_ h2_
          have HO168 := n0_
          have BK164 := n1_
          have HB := n2_
          clear n0_ n1_ n2_
          have hHeld := trivial
          refine norm_ (a' := ?_) ?_ ?_
          rotate_left
          ·simp only [putAll, Act.put, List.setIfInBounds_toArray, List.set_cons_zero, List.set_cons_succ]
           rfl
          refine two_ (i := 11) (j := 17) (Ni := some 37) (Nj := some 5) #[true, true, true, true, true, true, true, true, true, true, true, true, true, true, true, true, false, false, false] #[true, true, true, true, true, true, true, true, true, true, true, false, true, true, true, true, false, true, false] rfl rfl rfl rfl (two_of HT_.out (Z24)) (Z79) (Z79) (fun K hK => ?_) (fun K hK => ?_)
          ·skip
           refine goes_ Try.func29 (Z24) rfl #[.string (a0.extract 5 7)] (Z102) rfl rfl (Z1) ?_
           with_reducible refine (spec_l08Number.calls kj1 (a0.extract 5 7) t165 _ A19.out).mono ?_
           rintro e w' ⟨rfl, ⟨nd, rfl⟩⟩
           refine ⟨_, rfl, ?_⟩
           obtain ⟨Ao28, co28, eo28⟩ := Kd.R_slice HO168.out
           (first | subst eo28 | (injection eo28 with f1_ f2_ f3_; have f4_ := f1_.symm; have f5_ := f3_.symm; clear f1_ f2_ f3_; subst f4_; subst f5_))
           refine hK.out _ _ trivial (fun hHeld => ?_)
           clear hK K
           refine nB 37 ?_
           refine pA 16 42 ?_
           exact norm_ (Z32) (hJ11_15 (.slice Ao28 y166.length co28) _ ⟨(Z68), (Z17), (Z21)⟩)
          ·skip
           refine box_step ?hg (N := 5) ?hd (cs := #[.int .i64 0, .int .i64 0, .int .i64 0, .int .i64 0, .string (⟨#[]⟩ : ByteArray), .slice none 0 0]) (t := 65) ?hr ?_; (case hd => rfl); (case hg => rfl); (case hr => first | (go_simp; done) | (go_simp; rfl))
           intro gb169 hg w28 hbox hb
           replace HO168 := Aside0.mk (Kd.R_below (Z68) hb)
           have BK169 := Aside0.mk (hbox)
           have GW169 := Aside0.mk ((szE w hg (Z21)))
           have GE169 := Aside0.mk ((szE w hg (Z21)))
           replace HB := Aside0.mk (below_step (Z21) hb)
           have NB164_169 := Aside0.mk ((nL BK164 hg (Z17)))
           have NB169_164 := Aside0.mk ((nG BK164 hg (Z17)))
           replace BK164 := Aside0.mk (kB BK164 (Z17) hb)
           clear hb hbox hg
           refine hK.out _ _ trivial (fun hHeld => ?_)
           clear hK K
           refine nB 5 ?_
           exact norm_ (Z32) (hJ15_17 (v167, gb169) _ ⟨(Z68), (Z17), (Z45), GW169.out, GE169.out, NB164_169.out, NB169_164.out, (Z11)⟩)
        ·skip
         rintro _ w25 ⟨h0_, h1_⟩
         have n0_ : Aside0 (w25.heap[gb164]? = some (.cells #[.int .i64 0, .int .i64 0, .int .i64 0, .int .i64 0, .string (⟨#[]⟩ : ByteArray), .slice none 0 0] 65 (0, 0))) := ⟨h0_⟩
         have n1_ : Aside0 (Below w.heap.size w w25) := ⟨h1_⟩
         clear BK164
         clear HB
         clear h0_ h1_
         have BK164 := n0_
         have HB := n1_
         clear n0_ n1_
         have hHeld := trivial
         refine norm_ (a' := ?_) ?_ ?_
         rotate_left
         ·simp only [putAll, Act.put, List.setIfInBounds_toArray, List.set_cons_zero, List.set_cons_succ]
          rfl
         refine two_ (i := 15) (j := 17) (Ni := some 41) (Nj := some 5) #[true, true, true, true, true, true, true, true, true, true, true, true, true, true, true, true, false, false, false] #[true, true, true, true, true, true, true, true, true, true, true, true, true, true, true, false, false, true, false] rfl rfl rfl rfl (two_of HT_.out (Z24)) (Z79) (Z79) (fun K hK => ?_) (fun K hK => ?_)
         ·skip
          refine Kd.R_lit_step k86 _ 86 ?hg (N := 41) ?hd (xs := ([] : List (S86))) (inner := []) (ok := fun _ => True) (okp := fun _ => True) ?hr ?hp (fun _ hk => hk) trivial (Below.refl _ _) (Nat.le_refl _) (Z124) ?_; (case hd => rfl); (case hg => rfl); (case hr => first | (go_simp; done) | (go_simp; rfl)); (case hp => exact (Reps.none _ _))
          intro v167 w26 ho27 hb hg_ hnew_
          clear hg_ hnew_
          (first | rw [← Ny166.out] at ho27 | (simp only [Int.reduceToNat] at ho27; rw [← Ny166.out] at ho27))
          have HO168 := Aside0.mk (Kd.R_lower ho27 (below_size (Z21)))
          replace BK164 := Aside0.mk (kB BK164 (Z17) hb)
          replace HB := Aside0.mk (below_step (Z21) hb)
          clear hb ho27
          obtain ⟨Ao28, co28, eo28⟩ := Kd.R_slice HO168.out
          (first | subst eo28 | (injection eo28 with f1_ f2_ f3_; have f4_ := f1_.symm; have f5_ := f3_.symm; clear f1_ f2_ f3_; subst f4_; subst f5_))
          refine hK.out _ _ trivial (fun hHeld => ?_)
          clear hK K
          refine nB 41 ?_
          refine pA 16 42 ?_
          exact norm_ (Z32) (hJ11_15 (.slice Ao28 y166.length co28) _ ⟨(Z68), (Z17), (Z21)⟩)
         ·skip
          refine box_step ?hg (N := 5) ?hd (cs := #[.int .i64 0, .int .i64 0, .int .i64 0, .int .i64 0, .string (⟨#[]⟩ : ByteArray), .slice none 0 0]) (t := 65) ?hr ?_; (case hd => rfl); (case hg => rfl); (case hr => first | (go_simp; done) | (go_simp; rfl))
          intro gb169 hg w26 hbox hb
          have BK169 := Aside0.mk (hbox)
          have GW169 := Aside0.mk ((szE w hg (Z21)))
          have GE169 := Aside0.mk ((szE w hg (Z21)))
          replace HB := Aside0.mk (below_step (Z21) hb)
          have NB164_169 := Aside0.mk ((nL BK164 hg (Z17)))
          have NB169_164 := Aside0.mk ((nG BK164 hg (Z17)))
          replace BK164 := Aside0.mk (kB BK164 (Z17) hb)
          clear hb hbox hg
          refine hK.out _ _ trivial (fun hHeld => ?_)
          clear hK K
          refine nB 5 ?_
          exact norm_ (Z32) (hJ11_17 (gb169) _ ⟨(Z17), (Z45), GW169.out, GE169.out, NB164_169.out, NB169_164.out, (Z11)⟩)
       ·skip
        rintro ⟨v167, gb169⟩ w28 ⟨h0_, h1_, h2_, h3_, h4_, h5_, h6_, h7_⟩
        have n0_ : Aside0 (Kd.R k86 86 w28 w.heap.size (fun _ => True) v167 y166) := ⟨h0_⟩
        have n1_ : Aside0 (w28.heap[gb164]? = some (.cells #[.int .i64 0, .int .i64 0, .int .i64 0, .int .i64 0, .string (⟨#[]⟩ : ByteArray), .slice none 0 0] 65 (0, 0))) := ⟨h1_⟩
        have n2_ : Aside0 (w28.heap[gb169]? = some (.cells #[.int .i64 0, .int .i64 0, .int .i64 0, .int .i64 0, .string (⟨#[]⟩ : ByteArray), .slice none 0 0] 65 (0, 0))) := ⟨h2_⟩
        have n3_ : Aside0 (w.heap.size ≤ gb169) := ⟨h3_⟩
        have n4_ : Aside0 (w.heap.size ≤ gb169) := ⟨h4_⟩
        have n5_ : Aside0 (gb164 ≠ gb169) := ⟨h5_⟩
        have n6_ : Aside0 (gb169 ≠ gb164) := ⟨h6_⟩
        have n7_ : Aside0 (Below w.heap.size w w28) := ⟨h7_⟩
        clear BK164
        clear HB
        clear h0_ h1_ h2_ h3_ h4_ h5_ h6_ h7_
        have HO168 := n0_
        have BK164 := n1_
        have BK169 := n2_
        have GW169 := n3_
        have GE169 := n4_
        have NB164_169 := n5_
        have NB169_164 := n6_
        have HB := n7_
        clear n0_ n1_ n2_ n3_ n4_ n5_ n6_ n7_
        have hHeld := trivial
        refine norm_ (a' := ?_) ?_ ?_
        rotate_left
        ·simp only [putAll, Act.put, List.setIfInBounds_toArray, List.set_cons_zero, List.set_cons_succ]
         rfl
        refine oA 11 37 (fun K hK => ?_)
        refine goes_ Try.func29 (Z24) rfl #[.string (a0.extract 5 7)] (Z102) rfl rfl (Z1) ?_
        with_reducible refine (spec_l08Number.calls kj1 (a0.extract 5 7) t165 _ A19.out).mono ?_
        rintro e w' ⟨rfl, ⟨nd, rfl⟩⟩
        refine ⟨_, rfl, ?_⟩
        obtain ⟨Ao29, co29, eo29⟩ := Kd.R_slice HO168.out
        (first | subst eo29 | (injection eo29 with f1_ f2_ f3_; have f4_ := f1_.symm; have f5_ := f3_.symm; clear f1_ f2_ f3_; subst f4_; subst f5_))
        refine hK.out _ _ trivial (fun hHeld => ?_)
        clear hK K
        refine nB 37 ?_
        refine pA 16 42 ?_
        exact norm_ (Z32) (hJ11_15_17 (.slice Ao29 y166.length co29, gb169) _ ⟨(Z68), (Z17), (Z45), GW169.out, GE169.out, NB164_169.out, NB169_164.out, (Z11)⟩)
      ·skip
       rintro gb169 w26 ⟨h0_, h1_, h2_, h3_, h4_, h5_, h6_⟩
       have n0_ : Aside0 (w26.heap[gb164]? = some (.cells #[.int .i64 0, .int .i64 0, .int .i64 0, .int .i64 0, .string (⟨#[]⟩ : ByteArray), .slice none 0 0] 65 (0, 0))) := ⟨h0_⟩
       have n1_ : Aside0 (w26.heap[gb169]? = some (.cells #[.int .i64 0, .int .i64 0, .int .i64 0, .int .i64 0, .string (⟨#[]⟩ : ByteArray), .slice none 0 0] 65 (0, 0))) := ⟨h1_⟩
       have n2_ : Aside0 (w.heap.size ≤ gb169) := ⟨h2_⟩
       have n3_ : Aside0 (w.heap.size ≤ gb169) := ⟨h3_⟩
       have n4_ : Aside0 (gb164 ≠ gb169) := ⟨h4_⟩
       have n5_ : Aside0 (gb169 ≠ gb164) := ⟨h5_⟩
       have n6_ : Aside0 (Below w.heap.size w w26) := ⟨h6_⟩
       clear BK164
       clear HB
       clear h0_ h1_ h2_ h3_ h4_ h5_ h6_
       have BK164 := n0_
       have BK169 := n1_
       have GW169 := n2_
       have GE169 := n3_
       have NB164_169 := n4_
       have NB169_164 := n5_
       have HB := n6_
       clear n0_ n1_ n2_ n3_ n4_ n5_ n6_
       have hHeld := trivial
       refine norm_ (a' := ?_) ?_ ?_
       rotate_left
       ·simp only [putAll, Act.put, List.setIfInBounds_toArray, List.set_cons_zero, List.set_cons_succ]
        rfl
       refine oA 15 41 (fun K hK => ?_)
       refine Kd.R_lit_step k86 _ 86 ?hg (N := 41) ?hd (xs := ([] : List (S86))) (inner := []) (ok := fun _ => True) (okp := fun _ => True) ?hr ?hp (fun _ hk => hk) trivial (Below.refl _ _) (Nat.le_refl _) (Z124) ?_; (case hd => rfl); (case hg => rfl); (case hr => first | (go_simp; done) | (go_simp; rfl)); (case hp => exact (Reps.none _ _))
       intro v167 w27 ho28 hb hg_ hnew_
       clear hg_ hnew_
       (first | rw [← Ny166.out] at ho28 | (simp only [Int.reduceToNat] at ho28; rw [← Ny166.out] at ho28))
       have HO168 := Aside0.mk (Kd.R_lower ho28 (below_size (Z11)))
       replace BK164 := Aside0.mk (kB BK164 (Z17) hb)
       replace BK169 := Aside0.mk (kB BK169 (Z45) hb)
       replace HB := Aside0.mk (below_step (Z11) hb)
       clear hb ho28
       obtain ⟨Ao29, co29, eo29⟩ := Kd.R_slice HO168.out
       (first | subst eo29 | (injection eo29 with f1_ f2_ f3_; have f4_ := f1_.symm; have f5_ := f3_.symm; clear f1_ f2_ f3_; subst f4_; subst f5_))
       refine hK.out _ _ trivial (fun hHeld => ?_)
       clear hK K
       refine nB 41 ?_
       refine pA 16 42 ?_
       exact norm_ (Z32) (hJ11_15_17 (.slice Ao29 y166.length co29, gb169) _ ⟨(Z68), (Z17), (Z45), GW169.out, GE169.out, NB164_169.out, NB169_164.out, (Z11)⟩)
     ·skip
      rintro v167 w28 ⟨h0_, h1_, h2_⟩
      have n0_ : Aside0 (Kd.R k86 86 w28 w.heap.size (fun _ => True) v167 y166) := ⟨h0_⟩
      have n1_ : Aside0 (w28.heap[gb164]? = some (.cells #[.int .i64 0, .int .i64 0, .int .i64 0, .int .i64 0, .string (⟨#[]⟩ : ByteArray), .slice none 0 0] 65 (0, 0))) := ⟨h1_⟩
      have n2_ : Aside0 (Below w.heap.size w w28) := ⟨h2_⟩
      clear BK164
      clear HB
      clear h0_ h1_ h2_
      have HO168 := n0_
      have BK164 := n1_
      have HB := n2_
      clear n0_ n1_ n2_
      have hHeld := trivial
      obtain ⟨Ao29, co29, eo29⟩ := Kd.R_slice HO168.out
      (first | subst eo29 | (injection eo29 with f1_ f2_ f3_; have f4_ := f1_.symm; have f5_ := f3_.symm; clear f1_ f2_ f3_; subst f4_; subst f5_))
      refine norm_ (a' := ?_) ?_ ?_
      rotate_left
      ·simp only [putAll, Act.put, List.setIfInBounds_toArray, List.set_cons_zero, List.set_cons_succ]
       rfl
      refine oA 17 5 (fun K hK => ?_)
      refine box_step ?hg (N := 5) ?hd (cs := #[.int .i64 0, .int .i64 0, .int .i64 0, .int .i64 0, .string (⟨#[]⟩ : ByteArray), .slice none 0 0]) (t := 65) ?hr ?_; (case hd => rfl); (case hg => rfl); (case hr => first | (go_simp; done) | (go_simp; rfl))
      intro gb169 hg w30 hbox hb
      replace HO168 := Aside0.mk (Kd.R_below (Z68) hb)
      have BK169 := Aside0.mk (hbox)
      have GW169 := Aside0.mk ((szE w hg (Z21)))
      have GE169 := Aside0.mk ((szE w hg (Z21)))
      replace HB := Aside0.mk (below_step (Z21) hb)
      have NB164_169 := Aside0.mk ((nL BK164 hg (Z17)))
      have NB169_164 := Aside0.mk ((nG BK164 hg (Z17)))
      replace BK164 := Aside0.mk (kB BK164 (Z17) hb)
      clear hb hbox hg
      refine hK.out _ _ trivial (fun hHeld => ?_)
      clear hK K
      refine nB 5 ?_
      exact norm_ (Z32) (hJ11_15_17 (.slice Ao29 y166.length co29, gb169) _ ⟨(Z68), (Z17), (Z45), GW169.out, GE169.out, NB164_169.out, NB169_164.out, (Z11)⟩)
    rintro ⟨v167, gb169⟩ w29 ⟨h0_, h1_, h2_, h3_, h4_, h5_, h6_, h7_⟩
    have n0_ : Aside0 (Kd.R k86 86 w29 w.heap.size (fun _ => True) v167 y166) := ⟨h0_⟩
    have n1_ : Aside0 (w29.heap[gb164]? = some (.cells #[.int .i64 0, .int .i64 0, .int .i64 0, .int .i64 0, .string (⟨#[]⟩ : ByteArray), .slice none 0 0] 65 (0, 0))) := ⟨h1_⟩
    have n2_ : Aside0 (w29.heap[gb169]? = some (.cells #[.int .i64 0, .int .i64 0, .int .i64 0, .int .i64 0, .string (⟨#[]⟩ : ByteArray), .slice none 0 0] 65 (0, 0))) := ⟨h2_⟩
    have n3_ : Aside0 (w.heap.size ≤ gb169) := ⟨h3_⟩
    have n4_ : Aside0 (w.heap.size ≤ gb169) := ⟨h4_⟩
    have n5_ : Aside0 (gb164 ≠ gb169) := ⟨h5_⟩
    have n6_ : Aside0 (gb169 ≠ gb164) := ⟨h6_⟩
    have n7_ : Aside0 (Below w.heap.size w w29) := ⟨h7_⟩
    clear BK164
    clear HB
    clear h0_ h1_ h2_ h3_ h4_ h5_ h6_ h7_
    have HO168 := n0_
    have BK164 := n1_
    have BK169 := n2_
    have GW169 := n3_
    have GE169 := n4_
    have NB164_169 := n5_
    have NB169_164 := n6_
    have HB := n7_
    clear n0_ n1_ n2_ n3_ n4_ n5_ n6_ n7_
    have hHeld := trivial
    obtain ⟨Ao30, co30, eo30⟩ := Kd.R_slice HO168.out
    (first | subst eo30 | (injection eo30 with f1_ f2_ f3_; have f4_ := f1_.symm; have f5_ := f3_.symm; clear f1_ f2_ f3_; subst f4_; subst f5_))
    refine norm_ (a' := ?_) ?_ ?_
    rotate_left
    ·simp only [putAll, Act.put, List.setIfInBounds_toArray, List.set_cons_zero, List.set_cons_succ]
     rfl
    refine one_ (i := 18) (N := none) #[true, true, true, true, true, true, true, true, true, true, true, true, true, true, true, true, true, true, true] rfl rfl (one_of HT_.out (Z24)) (Z79) (fun K hK => ?_)
    have hs31 : w29.cell? ⟨gb169, 0, none⟩ = some (.int .i64 0) := (blk_cell BK169.out 0).trans rfl
    have hfs31 := blk_frozen BK169.out 0
    have hns31_0 := NB164_169.out
    have hms31_0 := NB169_164.out
    have hs32 : w29.cell? ⟨gb169, 1, none⟩ = some (.int .i64 0) := (blk_cell BK169.out 1).trans rfl
    have hfs32 := blk_frozen BK169.out 1
    have hns32_0 := NB164_169.out
    have hms32_0 := NB169_164.out
    have hs33 : w29.cell? ⟨gb169, 2, none⟩ = some (.int .i64 0) := (blk_cell BK169.out 2).trans rfl
    have hfs33 := blk_frozen BK169.out 2
    have hns33_0 := NB164_169.out
    have hms33_0 := NB169_164.out
    have hs34 : w29.cell? ⟨gb169, 3, none⟩ = some (.int .i64 0) := (blk_cell BK169.out 3).trans rfl
    have hfs34 := blk_frozen BK169.out 3
    have hns34_0 := NB164_169.out
    have hms34_0 := NB169_164.out
    have hs35 : w29.cell? ⟨gb169, 4, none⟩ = some (.string (⟨#[]⟩ : ByteArray)) := (blk_cell BK169.out 4).trans rfl
    have hfs35 := blk_frozen BK169.out 4
    have hns35_0 := NB164_169.out
    have hms35_0 := NB169_164.out
    have hs36 : w29.cell? ⟨gb169, 5, none⟩ = some (.slice none 0 0) := (blk_cell BK169.out 5).trans rfl
    have hfs36 := blk_frozen BK169.out 5
    have hns36_0 := NB164_169.out
    have hms36_0 := NB169_164.out
    refine skip_ (w1 := ?_) (Z102) rfl ?_ ?_
    rotate_left
    ·go_simp
     rfl
    refine hK.out _ _ trivial (fun hHeld => ?_)
    clear hK K
    refine done_ (done_of HT_.out (Z24)) ?_
    have p23 : 0 ≤ (3 : Int) := (Z43)
    have q23 : 3 < a0.size := (by have : (3 : Int) < (a0.size : Int) := of_decide_eq_true (Z4); omega)
    have hx23 : ∀ h : 3 < a0.size, ((a0[3]'h).toNat : Int) = bt a0 3 := bt_at a0 3
    clear p23
    have qi23 : (3 < (a0.size : Int)) = True := eq_true (of_decide_eq_true (Z4))
    replace q23 := eq_true q23
    try go_wp2
    go_loopg [4, 6] kj1 (fun kq v4 v6 w' => ∃ (x4_2 : Int) (x6_2 : Int) (x165000_2 : Int) (x165001_2 : Int) (x165002_2 : Int) (x165003_2 : Int) (x165004_2 : ByteArray) (x170005_2 : List (S86)) (u170005 : Value), v4 = .int .i64 x4_2 ∧ v6 = .int .i64 x6_2 ∧ Aside0 (spec_l09Read.l0 kq a0 x4_2 x6_2 (wrap64 (bt a0 0)) t165 (wrap64 (bt a0 1)) (wrap64 (bt a0 2)) (a0.extract 7 ((wrap64 (7 + (wrap64 (bt a0 4)))) : Int).toNat) x170005_2 = some (r1, r2, r3, r4, r5, r6, r7)) ∧ Aside0 (kq ≤ kj1) ∧ Aside0 (Kd.R k86 86 w' w.heap.size (fun _ => True) u170005 x170005_2) ∧ Aside0 (w'.heap[gb164]? = some (.cells #[.int .i64 x165000_2, .int .i64 x165001_2, .int .i64 x165002_2, .int .i64 x165003_2, .string x165004_2, (.slice none 0 0)] 65 (0, 0))) ∧ Aside0 (w'.heap[gb169]? = some (.cells #[.int .i64 (wrap64 (bt a0 0)), .int .i64 t165, .int .i64 (wrap64 (bt a0 1)), .int .i64 (wrap64 (bt a0 2)), .string (a0.extract 7 ((wrap64 (7 + (wrap64 (bt a0 4)))) : Int).toNat), u170005] 65 (0, 0))) ∧ Aside0 (Below w.heap.size w w'))
    case atStart => exact ⟨(wrap64 (7 + (wrap64 (bt a0 4)))), (wrap64 (bt a0 3)), (0), (0), (0), (0), ((⟨#[]⟩ : ByteArray)), (y166), (.slice Ao30 y166.length co30), (Z3), (Z3), H', ⟨Nat.le_refl _⟩, ⟨by (with_reducible repeat (first | apply Kd.R_alloc | apply Kd.R_drewN | apply Kd.R_drew)); exact Kd.R_mono (Kd.R_far (p := ⟨gb169, 5, none⟩) (Kd.R_far (p := ⟨gb169, 4, none⟩) (Kd.R_far (p := ⟨gb169, 3, none⟩) (Kd.R_far (p := ⟨gb169, 2, none⟩) (Kd.R_far (p := ⟨gb169, 1, none⟩) (Kd.R_far (p := ⟨gb169, 0, none⟩) (Kd.R_types HO168.out BK169.out (Z79)) (fun _ hk => hk.2) (.int .i64 (wrap64 (bt a0 0)))) (fun _ hk => hk.2) (.int .i64 t165)) (fun _ hk => hk.2) (.int .i64 (wrap64 (bt a0 1)))) (fun _ hk => hk.2) (.int .i64 (wrap64 (bt a0 2)))) (fun _ hk => hk.2) (.string (a0.extract 7 ((wrap64 (7 + (wrap64 (bt a0 4)))) : Int).toNat))) (fun _ hk => hk.2) (.slice Ao30 y166.length co30)) (fun _ hk => trivial)⟩, ⟨by (with_reducible repeat (first | refine blk_drewN ?_ _ | refine blk_drew ?_ | refine blk_alloc ?_ _)); refine blk_far ?_ NB164_169.out _; (with_reducible repeat (first | refine blk_drewN ?_ _ | refine blk_drew ?_ | refine blk_alloc ?_ _)); refine blk_far ?_ NB164_169.out _; (with_reducible repeat (first | refine blk_drewN ?_ _ | refine blk_drew ?_ | refine blk_alloc ?_ _)); refine blk_far ?_ NB164_169.out _; (with_reducible repeat (first | refine blk_drewN ?_ _ | refine blk_drew ?_ | refine blk_alloc ?_ _)); refine blk_far ?_ NB164_169.out _; (with_reducible repeat (first | refine blk_drewN ?_ _ | refine blk_drew ?_ | refine blk_alloc ?_ _)); refine blk_far ?_ NB164_169.out _; (with_reducible repeat (first | refine blk_drewN ?_ _ | refine blk_drew ?_ | refine blk_alloc ?_ _)); refine blk_far ?_ NB164_169.out _; (with_reducible repeat (first | refine blk_drewN ?_ _ | refine blk_drew ?_ | refine blk_alloc ?_ _)); exact BK164.out⟩, ⟨by (with_reducible repeat (first | refine blk_drewN ?_ _ | refine blk_drew ?_ | refine blk_alloc ?_ _)); refine blk_put (cs := #[.int .i64 (wrap64 (bt a0 0)), .int .i64 t165, .int .i64 (wrap64 (bt a0 1)), .int .i64 (wrap64 (bt a0 2)), .string (a0.extract 7 ((wrap64 (7 + (wrap64 (bt a0 4)))) : Int).toNat), .slice none 0 0]) ?_ 5 _ rfl; (with_reducible repeat (first | refine blk_drewN ?_ _ | refine blk_drew ?_ | refine blk_alloc ?_ _)); refine blk_put (cs := #[.int .i64 (wrap64 (bt a0 0)), .int .i64 t165, .int .i64 (wrap64 (bt a0 1)), .int .i64 (wrap64 (bt a0 2)), .string (⟨#[]⟩ : ByteArray), .slice none 0 0]) ?_ 4 _ rfl; (with_reducible repeat (first | refine blk_drewN ?_ _ | refine blk_drew ?_ | refine blk_alloc ?_ _)); refine blk_put (cs := #[.int .i64 (wrap64 (bt a0 0)), .int .i64 t165, .int .i64 (wrap64 (bt a0 1)), .int .i64 0, .string (⟨#[]⟩ : ByteArray), .slice none 0 0]) ?_ 3 _ rfl; (with_reducible repeat (first | refine blk_drewN ?_ _ | refine blk_drew ?_ | refine blk_alloc ?_ _)); refine blk_put (cs := #[.int .i64 (wrap64 (bt a0 0)), .int .i64 t165, .int .i64 0, .int .i64 0, .string (⟨#[]⟩ : ByteArray), .slice none 0 0]) ?_ 2 _ rfl; (with_reducible repeat (first | refine blk_drewN ?_ _ | refine blk_drew ?_ | refine blk_alloc ?_ _)); refine blk_put (cs := #[.int .i64 (wrap64 (bt a0 0)), .int .i64 0, .int .i64 0, .int .i64 0, .string (⟨#[]⟩ : ByteArray), .slice none 0 0]) ?_ 1 _ rfl; (with_reducible repeat (first | refine blk_drewN ?_ _ | refine blk_drew ?_ | refine blk_alloc ?_ _)); refine blk_put (cs := #[.int .i64 0, .int .i64 0, .int .i64 0, .int .i64 0, .string (⟨#[]⟩ : ByteArray), .slice none 0 0]) ?_ 0 _ rfl; (with_reducible repeat (first | refine blk_drewN ?_ _ | refine blk_drew ?_ | refine blk_alloc ?_ _)); exact BK169.out⟩, ⟨Z11⟩⟩
    case round =>
     clear H'
     (try clear p23); (try clear q23); (try clear hx23); (try clear qi23); (try clear p23); (try clear q23)
     obtain ⟨x4_2, x6_2, x165000_2, x165001_2, x165002_2, x165003_2, x165004_2, x170005_2, u170005, rfl, rfl, HA, HK2, HO_170005, BK164, BK169, HB⟩ := hrel
     cases gk with
     | zero => exact absurd HA.out (by simp [spec_l09Read.l0])
     | succ k2 =>
      have H := HA.out
      clear HA
      simp only [spec_l09Read.l0] at H
      by_cases c37 : x6_2 > 0
      ·rw [if_pos c37] at H
       have c37b0 : decide (0 < x6_2) = true := decide_eq_true c37
       clear c37
       by_cases c38 : (wrap64 (x4_2 + 4)) > (a0.size : Int)
       ·rw [if_pos c38] at H
        have c38b0 : decide ((a0.size : Int) < (wrap64 (x4_2 + 4))) = true := decide_eq_true c38
        clear c38
        simp only [Option.some.injEq, Prod.mk.injEq] at H
        obtain ⟨rfl, rfl, rfl, rfl, rfl, rfl, rfl⟩ := H
        have hnb39 := NB164_169.out
        have hnc39 := NB169_164.out
        obtain ⟨hcz40_0, hcz40_1, hcz40_2, hcz40_3, hcz40_4, hcz40_5⟩ := bc6 BK164.out
        obtain ⟨hfz40_0, hfz40_1, hfz40_2, hfz40_3, hfz40_4, hfz40_5⟩ := bf6 BK164.out
        go_wp2
        refine bodyPost_ret (results_ct rfl _ _ gb164 65 #[.int .i64 0, .int .i64 0, .int .i64 0, .int .i64 0, .string (⟨#[]⟩ : ByteArray), .slice none 0 0] (0, 0) _ rfl (Z27) Try.underlying65 rfl (Z24)) rfl ?_
        exact ⟨_, Z2, Z90, Z11⟩
       ·rw [if_neg c38] at H
        have c38b0 : decide ((a0.size : Int) < (wrap64 (x4_2 + 4))) = false := decide_eq_false c38
        clear c38
        obtain ⟨c41, H⟩ := ifS H
        have c41b0 := eq_true c41
        have c41b1 : decide (0 ≤ x4_2) = true := decide_eq_true c41
        clear c41
        obtain ⟨c42, H⟩ := ifS H
        have c42b0 := eq_true c42
        have c42b1 : decide (x4_2 ≤ (wrap64 (x4_2 + 2))) = true := decide_eq_true c42
        obtain ⟨c43, H⟩ := ifS H
        have c43b0 := eq_true c43
        have c43b1 : decide ((wrap64 (x4_2 + 2)) ≤ (a0.size : Int)) = true := decide_eq_true c43
        obtain ⟨t171, A44, H⟩ := bindA H
        try dsimp only at H
        obtain ⟨ji45, hji45⟩ : ∃ j_ : Int, (wrap64 (x4_2 + 2)) = j_ := ⟨_, rfl⟩
        replace H : (if 0 ≤ (ji45) then (if (ji45) ≤ (wrap64 (x4_2 + 4)) then (if (wrap64 (x4_2 + 4)) ≤ (a0.size : Int) then ((spec_l08Number.f k2 (a0.extract ((ji45) : Int).toNat ((wrap64 (x4_2 + 4)) : Int).toNat)).bind fun t172 => (if (wrap64 ((wrap64 ((wrap64 (x4_2 + 4)) + t171)) + t172)) > (a0.size : Int) then (some (0, 0, 0, 0, (⟨#[]⟩ : ByteArray), ([] : List (S86)), false)) else (if 0 ≤ (wrap64 (x4_2 + 4)) then (if (wrap64 (x4_2 + 4)) ≤ (wrap64 ((wrap64 (x4_2 + 4)) + t171)) then (if (wrap64 ((wrap64 (x4_2 + 4)) + t171)) ≤ (a0.size : Int) then (if 0 ≤ (wrap64 ((wrap64 (x4_2 + 4)) + t171)) then (if (wrap64 ((wrap64 (x4_2 + 4)) + t171)) ≤ (wrap64 ((wrap64 ((wrap64 (x4_2 + 4)) + t171)) + t172)) then (if (wrap64 ((wrap64 ((wrap64 (x4_2 + 4)) + t171)) + t172)) ≤ (a0.size : Int) then (if x170005_2.length < 4398046511104 then (spec_l09Read.l0 k2 a0 (wrap64 ((wrap64 (x4_2 + 4)) + (wrap64 (t171 + t172)))) (wrap64 (x6_2 - 1)) (wrap64 (bt a0 0)) t165 (wrap64 (bt a0 1)) (wrap64 (bt a0 2)) (a0.extract 7 ((wrap64 (7 + (wrap64 (bt a0 4)))) : Int).toNat) (x170005_2 ++ [(⟨a0.extract ((wrap64 (x4_2 + 4)) : Int).toNat ((wrap64 ((wrap64 (x4_2 + 4)) + t171)) : Int).toNat, a0.extract ((wrap64 ((wrap64 (x4_2 + 4)) + t171)) : Int).toNat ((wrap64 ((wrap64 ((wrap64 (x4_2 + 4)) + t171)) + t172)) : Int).toNat⟩ : S86)])) else (none)) else (none)) else (none)) else (none)) else (none)) else (none)) else (none)))) else (none)) else (none)) else (none)) = some (r1, r2, r3, r4, r5, r6, r7) := by first | (rw [hji45] at H; exact H) | (simp only [hji45] at H ⊢; exact H)
        (try rw [hji45] at c42b0)
        (try rw [hji45] at c42b1)
        (try rw [hji45] at c42)
        (try rw [hji45] at c43b0)
        (try rw [hji45] at c43b1)
        (try rw [hji45] at c43)
        (try rw [hji45] at A44)
        have hji45w : (IntKind.i64.wrap (x4_2 + 2)) = ji45 := (i64_w _).trans hji45
        obtain ⟨c46, H⟩ := ifS H
        have c46b0 := eq_true c46
        have c46b1 : decide (0 ≤ (ji45)) = true := decide_eq_true c46
        clear c46
        obtain ⟨c47, H⟩ := ifS H
        have c47b0 := eq_true c47
        have c47b1 : decide ((ji45) ≤ (wrap64 (x4_2 + 4))) = true := decide_eq_true c47
        obtain ⟨c48, H⟩ := ifS H
        have c48b0 := eq_true c48
        have c48b1 : decide ((wrap64 (x4_2 + 4)) ≤ (a0.size : Int)) = true := decide_eq_true c48
        obtain ⟨t172, A49, H⟩ := bindA H
        try dsimp only at H
        by_cases c50 : (wrap64 ((wrap64 ((wrap64 (x4_2 + 4)) + t171)) + t172)) > (a0.size : Int)
        ·rw [if_pos c50] at H
         have c50b0 : decide ((a0.size : Int) < (wrap64 ((wrap64 ((wrap64 (x4_2 + 4)) + t171)) + t172))) = true := decide_eq_true c50
         clear c50
         simp only [Option.some.injEq, Prod.mk.injEq] at H
         obtain ⟨rfl, rfl, rfl, rfl, rfl, rfl, rfl⟩ := H
         go_wp2_with (first | ((with_reducible refine gate_callee (f := 29) rfl ?_); refine goesL_ (some 61) rfl rfl Try.func29 (Z24) rfl #[.string (a0.extract (x4_2 : Int).toNat ((ji45) : Int).toNat)] rfl (Z112) ?_; (with_reducible refine (spec_l08Number.calls k2 (a0.extract (x4_2 : Int).toNat ((ji45) : Int).toNat) t171 _ A44.out).mono ?_); rintro e w' ⟨rfl, ⟨nd, rfl⟩⟩; refine ⟨_, rfl, ?_⟩; (try (rw [drewN_self wr]; generalize hq_ : World.drewN wr _ = wr; have n0_ : Aside0 (Kd.R k86 86 wr w.heap.size (fun _ => True) u170005 x170005_2) := ⟨Z106⟩; have n1_ : Aside0 (wr.heap[gb164]? = some (.cells #[.int .i64 x165000_2, .int .i64 x165001_2, .int .i64 x165002_2, .int .i64 x165003_2, .string x165004_2, .slice none 0 0] 65 (0, 0))) := ⟨Z103⟩; have n2_ : Aside0 (wr.heap[gb169]? = some (.cells #[.int .i64 (wrap64 (bt a0 0)), .int .i64 t165, .int .i64 (wrap64 (bt a0 1)), .int .i64 (wrap64 (bt a0 2)), .string (a0.extract 7 ((wrap64 (7 + (wrap64 (bt a0 4)))) : Int).toNat), u170005] 65 (0, 0))) := ⟨Z104⟩; have n3_ : Aside0 (Below w.heap.size w wr) := ⟨Z76⟩; clear HO_170005 BK164 BK169 HB hq_; have HO_170005 := n0_; have BK164 := n1_; have BK169 := n2_; have HB := n3_; clear n0_ n1_ n2_ n3_))) | ((with_reducible refine gate_callee (f := 29) rfl ?_); refine goesL_ (some 68) rfl rfl Try.func29 (Z24) rfl #[.string (a0.extract ((ji45) : Int).toNat ((wrap64 (x4_2 + 4)) : Int).toNat)] rfl (Z112) ?_; (with_reducible refine (spec_l08Number.calls k2 (a0.extract ((ji45) : Int).toNat ((wrap64 (x4_2 + 4)) : Int).toNat) t172 _ A49.out).mono ?_); rintro e w' ⟨rfl, ⟨nd, rfl⟩⟩; refine ⟨_, rfl, ?_⟩; (try (rw [drewN_self wr]; generalize hq_ : World.drewN wr _ = wr; have n0_ : Aside0 (Kd.R k86 86 wr w.heap.size (fun _ => True) u170005 x170005_2) := ⟨Z106⟩; have n1_ : Aside0 (wr.heap[gb164]? = some (.cells #[.int .i64 x165000_2, .int .i64 x165001_2, .int .i64 x165002_2, .int .i64 x165003_2, .string x165004_2, .slice none 0 0] 65 (0, 0))) := ⟨Z103⟩; have n2_ : Aside0 (wr.heap[gb169]? = some (.cells #[.int .i64 (wrap64 (bt a0 0)), .int .i64 t165, .int .i64 (wrap64 (bt a0 1)), .int .i64 (wrap64 (bt a0 2)), .string (a0.extract 7 ((wrap64 (7 + (wrap64 (bt a0 4)))) : Int).toNat), u170005] 65 (0, 0))) := ⟨Z104⟩; have n3_ : Aside0 (Below w.heap.size w wr) := ⟨Z76⟩; clear HO_170005 BK164 BK169 HB hq_; have HO_170005 := n0_; have BK164 := n1_; have BK169 := n2_; have HB := n3_; clear n0_ n1_ n2_ n3_)); have hnb51 := NB164_169.out; have hnc51 := NB169_164.out; obtain ⟨hcz52_0, hcz52_1, hcz52_2, hcz52_3, hcz52_4, hcz52_5⟩ := bc6 BK164.out; obtain ⟨hfz52_0, hfz52_1, hfz52_2, hfz52_3, hfz52_4, hfz52_5⟩ := bf6 BK164.out))
         refine bodyPost_ret (results_ct rfl _ _ gb164 65 #[.int .i64 0, .int .i64 0, .int .i64 0, .int .i64 0, .string (⟨#[]⟩ : ByteArray), .slice none 0 0] (0, 0) _ rfl (Z27) Try.underlying65 rfl (Z24)) rfl ?_
         exact ⟨_, by first | rfl | (simp only [nil_beq, nil_bne]; rfl) | (simp [nil_beq, nil_bne]; done) | (simp [errW_none, errW_some] <;> rfl) | (simp only [← hji45]; first | rfl | (simp [errW_none, errW_some] <;> rfl)) | (simp [*, errW_none, errW_some] <;> rfl), Z90, Z11⟩
        ·rw [if_neg c50] at H
         have c50b0 : decide ((a0.size : Int) < (wrap64 ((wrap64 ((wrap64 (x4_2 + 4)) + t171)) + t172))) = false := decide_eq_false c50
         clear c50
         obtain ⟨ji53, hji53⟩ : ∃ j_ : Int, (wrap64 (x4_2 + 4)) = j_ := ⟨_, rfl⟩
         replace H : (if 0 ≤ (ji53) then (if (ji53) ≤ (wrap64 ((ji53) + t171)) then (if (wrap64 ((ji53) + t171)) ≤ (a0.size : Int) then (if 0 ≤ (wrap64 ((ji53) + t171)) then (if (wrap64 ((ji53) + t171)) ≤ (wrap64 ((wrap64 ((ji53) + t171)) + t172)) then (if (wrap64 ((wrap64 ((ji53) + t171)) + t172)) ≤ (a0.size : Int) then (if x170005_2.length < 4398046511104 then (spec_l09Read.l0 k2 a0 (wrap64 ((ji53) + (wrap64 (t171 + t172)))) (wrap64 (x6_2 - 1)) (wrap64 (bt a0 0)) t165 (wrap64 (bt a0 1)) (wrap64 (bt a0 2)) (a0.extract 7 ((wrap64 (7 + (wrap64 (bt a0 4)))) : Int).toNat) (x170005_2 ++ [(⟨a0.extract ((ji53) : Int).toNat ((wrap64 ((ji53) + t171)) : Int).toNat, a0.extract ((wrap64 ((ji53) + t171)) : Int).toNat ((wrap64 ((wrap64 ((ji53) + t171)) + t172)) : Int).toNat⟩ : S86)])) else (none)) else (none)) else (none)) else (none)) else (none)) else (none)) else (none)) = some (r1, r2, r3, r4, r5, r6, r7) := by first | (rw [hji53] at H; exact H) | (simp only [hji53] at H ⊢; exact H)
         (try rw [hji53] at c38b0)
         (try rw [hji53] at c47b0)
         (try rw [hji53] at c47b1)
         (try rw [hji53] at c47)
         (try rw [hji53] at c48b0)
         (try rw [hji53] at c48b1)
         (try rw [hji53] at c48)
         (try rw [hji53] at c50b0)
         (try rw [hji53] at A44)
         (try rw [hji53] at A49)
         have hji53w : (IntKind.i64.wrap (x4_2 + 4)) = ji53 := (i64_w _).trans hji53
         obtain ⟨c54, H⟩ := ifS H
         have c54b0 := eq_true c54
         have c54b1 : decide (0 ≤ (ji53)) = true := decide_eq_true c54
         clear c54
         obtain ⟨c55, H⟩ := ifS H
         have c55b0 := eq_true c55
         have c55b1 : decide ((ji53) ≤ (wrap64 ((ji53) + t171))) = true := decide_eq_true c55
         obtain ⟨c56, H⟩ := ifS H
         have c56b0 := eq_true c56
         have c56b1 : decide ((wrap64 ((ji53) + t171)) ≤ (a0.size : Int)) = true := decide_eq_true c56
         obtain ⟨ji57, hji57⟩ : ∃ j_ : Int, (wrap64 ((ji53) + t171)) = j_ := ⟨_, rfl⟩
         replace H : (if 0 ≤ (ji57) then (if (ji57) ≤ (wrap64 ((ji57) + t172)) then (if (wrap64 ((ji57) + t172)) ≤ (a0.size : Int) then (if x170005_2.length < 4398046511104 then (spec_l09Read.l0 k2 a0 (wrap64 ((ji53) + (wrap64 (t171 + t172)))) (wrap64 (x6_2 - 1)) (wrap64 (bt a0 0)) t165 (wrap64 (bt a0 1)) (wrap64 (bt a0 2)) (a0.extract 7 ((wrap64 (7 + (wrap64 (bt a0 4)))) : Int).toNat) (x170005_2 ++ [(⟨a0.extract ((ji53) : Int).toNat ((ji57) : Int).toNat, a0.extract ((ji57) : Int).toNat ((wrap64 ((ji57) + t172)) : Int).toNat⟩ : S86)])) else (none)) else (none)) else (none)) else (none)) = some (r1, r2, r3, r4, r5, r6, r7) := by first | (rw [hji57] at H; exact H) | (simp only [hji57] at H ⊢; exact H)
         (try rw [hji57] at c55b0)
         (try rw [hji57] at c55b1)
         (try rw [hji57] at c55)
         (try rw [hji57] at c56b0)
         (try rw [hji57] at c56b1)
         (try rw [hji57] at c56)
         (try rw [hji57] at A44)
         (try rw [hji57] at A49)
         have hji57w : (IntKind.i64.wrap ((ji53) + t171)) = ji57 := (i64_w _).trans hji57
         obtain ⟨c58, H⟩ := ifS H
         have c58b0 := eq_true c58
         have c58b1 : decide (0 ≤ (ji57)) = true := decide_eq_true c58
         clear c58
         obtain ⟨c59, H⟩ := ifS H
         have c59b0 := eq_true c59
         have c59b1 : decide ((ji57) ≤ (wrap64 ((ji57) + t172))) = true := decide_eq_true c59
         obtain ⟨c60, H⟩ := ifS H
         have c60b0 := eq_true c60
         have c60b1 : decide ((wrap64 ((ji57) + t172)) ≤ (a0.size : Int)) = true := decide_eq_true c60
         obtain ⟨c61, H⟩ := ifS H
         have LMc61 := Aside0.mk c61
         clear c61
         obtain ⟨y173, hy173⟩ : ∃ y_ : List (S86), y_ = (x170005_2 ++ [(⟨a0.extract ((ji53) : Int).toNat ((ji57) : Int).toNat, a0.extract ((ji57) : Int).toNat ((wrap64 ((ji57) + t172)) : Int).toNat⟩ : S86)]) := ⟨_, rfl⟩
         replace H : (spec_l09Read.l0 k2 a0 (wrap64 ((ji53) + (wrap64 (t171 + t172)))) (wrap64 (x6_2 - 1)) (wrap64 (bt a0 0)) t165 (wrap64 (bt a0 1)) (wrap64 (bt a0 2)) (a0.extract 7 ((wrap64 (7 + (wrap64 (bt a0 4)))) : Int).toNat) y173) = some (r1, r2, r3, r4, r5, r6, r7) := by first | (rw [hy173]; with_reducible exact H) | (have H2_ := (Option.bind_some _ _).symm.trans H; rw [hy173]; with_reducible exact H2_) | (have H2_ := (Option.bind_some _ _).symm.trans H; with_reducible exact H2_) | with_reducible exact H | (rw [hy173]; exact H) | exact H
         have Ny173 := Aside0.mk hy173
         clear hy173
         have H' := Aside0.mk H
         clear H
         try go_wp2_with (first | ((with_reducible refine gate_callee (f := 29) rfl ?_); refine goesL_ (some 61) rfl rfl Try.func29 (Z24) rfl #[.string (a0.extract (x4_2 : Int).toNat ((ji45) : Int).toNat)] rfl (Z112) ?_; (with_reducible refine (spec_l08Number.calls k2 (a0.extract (x4_2 : Int).toNat ((ji45) : Int).toNat) t171 _ A44.out).mono ?_); rintro e w' ⟨rfl, ⟨nd, rfl⟩⟩; refine ⟨_, rfl, ?_⟩; (try (rw [drewN_self wr]; generalize hq_ : World.drewN wr _ = wr; have n0_ : Aside0 (Kd.R k86 86 wr w.heap.size (fun _ => True) u170005 x170005_2) := ⟨Z106⟩; have n1_ : Aside0 (wr.heap[gb164]? = some (.cells #[.int .i64 x165000_2, .int .i64 x165001_2, .int .i64 x165002_2, .int .i64 x165003_2, .string x165004_2, .slice none 0 0] 65 (0, 0))) := ⟨Z103⟩; have n2_ : Aside0 (wr.heap[gb169]? = some (.cells #[.int .i64 (wrap64 (bt a0 0)), .int .i64 t165, .int .i64 (wrap64 (bt a0 1)), .int .i64 (wrap64 (bt a0 2)), .string (a0.extract 7 ((wrap64 (7 + (wrap64 (bt a0 4)))) : Int).toNat), u170005] 65 (0, 0))) := ⟨Z104⟩; have n3_ : Aside0 (Below w.heap.size w wr) := ⟨Z76⟩; clear HO_170005 BK164 BK169 HB hq_; have HO_170005 := n0_; have BK164 := n1_; have BK169 := n2_; have HB := n3_; clear n0_ n1_ n2_ n3_))) | ((with_reducible refine gate_callee (f := 29) rfl ?_); refine goesL_ (some 68) rfl rfl Try.func29 (Z24) rfl #[.string (a0.extract ((ji45) : Int).toNat ((ji53) : Int).toNat)] rfl (by (try simp only [List.map_toArray, List.map_cons, List.map_nil]); first | done | (simp only [hji45, hji53]; rfl) | rfl | (simp only [List.length_drop, List.length_take]; rfl)) ?_; (with_reducible refine (spec_l08Number.calls k2 (a0.extract ((ji45) : Int).toNat ((ji53) : Int).toNat) t172 _ A49.out).mono ?_); rintro e w' ⟨rfl, ⟨nd, rfl⟩⟩; refine ⟨_, rfl, ?_⟩; (try (rw [drewN_self wr]; generalize hq_ : World.drewN wr _ = wr; have n0_ : Aside0 (Kd.R k86 86 wr w.heap.size (fun _ => True) u170005 x170005_2) := ⟨Z106⟩; have n1_ : Aside0 (wr.heap[gb164]? = some (.cells #[.int .i64 x165000_2, .int .i64 x165001_2, .int .i64 x165002_2, .int .i64 x165003_2, .string x165004_2, .slice none 0 0] 65 (0, 0))) := ⟨Z103⟩; have n2_ : Aside0 (wr.heap[gb169]? = some (.cells #[.int .i64 (wrap64 (bt a0 0)), .int .i64 t165, .int .i64 (wrap64 (bt a0 1)), .int .i64 (wrap64 (bt a0 2)), .string (a0.extract 7 ((wrap64 (7 + (wrap64 (bt a0 4)))) : Int).toNat), u170005] 65 (0, 0))) := ⟨Z104⟩; have n3_ : Aside0 (Below w.heap.size w wr) := ⟨Z76⟩; clear HO_170005 BK164 BK169 HB hq_; have HO_170005 := n0_; have BK164 := n1_; have BK169 := n2_; have HB := n3_; clear n0_ n1_ n2_ n3_))))
         replace HO_170005 := Aside0.mk (Kd.R_drew HO_170005.out)
         replace BK164 := Aside0.mk (blk_drew BK164.out)
         replace BK169 := Aside0.mk (blk_drew BK169.out)
         replace HB := Aside0.mk (below_drew1 HB.out)
         refine start_ (n := 23) (S := fun w' => w'.cell? ⟨gb169, 0, none⟩ = some (.int .i64 (wrap64 (bt a0 0))) ∧ w'.cell? ⟨gb169, 1, none⟩ = some (.int .i64 t165) ∧ w'.cell? ⟨gb169, 2, none⟩ = some (.int .i64 (wrap64 (bt a0 1))) ∧ w'.cell? ⟨gb169, 3, none⟩ = some (.int .i64 (wrap64 (bt a0 2))) ∧ w'.cell? ⟨gb169, 4, none⟩ = some (.string (a0.extract 7 ((wrap64 (7 + (wrap64 (bt a0 4)))) : Int).toNat)) ∧ w'.cell? ⟨gb169, 5, none⟩ = some (u170005)) (ds := [22]) #[false, false, false, false, false, false, false, false, false, false, false, false, false, false, false, false, false, false, false, false, false, false, false] (Z24) rfl rfl (bc6 BK169.out) (fun hHeld => ?_); refine with_tabW spec_l09Read.tab15 spec_l09Read.bits15 (fun HT_ HW_ => ?_)
         generalize wr.drew = w62 at HO_170005 BK164 BK169 HB hHeld ⊢
         refine pA 0 80 ?_
         refine pA 2 82 ?_
         refine pA 3 83 ?_
         refine pA 4 84 ?_
         refine pA 5 85 ?_
         refine pA 6 86 ?_
         refine pA 7 87 ?_
         refine pA 8 88 ?_
         refine pA 9 89 ?_
         refine pA 10 90 ?_
         refine pA 11 91 ?_
         refine pA 12 92 ?_
         refine pA 13 93 ?_
         refine pA 14 94 ?_
         refine pA 15 95 ?_
         refine pA 16 96 ?_
         refine pA 17 97 ?_
         refine pA 18 98 ?_
         refine tA 1 81 ?_
         refine oA 19 99 (fun K hK => ?_)
         refine value_ (w1 := ?_) (v := ?_) (Z102) rfl ?_ ?_
         rotate_left 2
         ·go_simp
          constructor
          ·rfl
          ·rfl
         refine hK.out _ _ (bc6 (blk_alloc BK169.out _)) (fun hHeld => ?_)
         clear hK K
         refine nB 99 ?_
         refine oA 20 100 (fun K hK => ?_)
         refine Kd.R_append_step k86 (w0 := w) w.heap.size (Z102) (.tmp 81) (.tmp 99) 63 86 (.agg #[(.string ⟨#[]⟩), (.string ⟨#[]⟩)]) 32 rfl Try.underlying63 info86 rfl (Z79) (Z43) u170005 x170005_2 (⟨a0.extract ((ji53) : Int).toNat ((ji57) : Int).toNat, a0.extract ((ji57) : Int).toNat ((wrap64 ((ji57) + t172)) : Int).toNat⟩ : S86) [.string (a0.extract ((ji53) : Int).toNat ((ji57) : Int).toNat), .string (a0.extract ((ji57) : Int).toNat ((wrap64 ((ji57) + t172)) : Int).toNat)] (fun _ => True) (fun _ => False) rfl rfl ?aP (fun _ hk => hk.elim) ?aF ?aO ?aB ?aS ?aL ?_
         (case aP => exact k86_mkM _ _ _ (⟨a0.extract ((ji53) : Int).toNat ((ji57) : Int).toNat, a0.extract ((ji57) : Int).toNat ((wrap64 ((ji57) + t172)) : Int).toNat⟩ : S86))
         (case aB => exact (Z11))
         (case aF => exact (fun _ _ => trivial))
         (case aO => exact (Z92))
         (case aS => exact (below_size (Z11)))
         (case aL => have := LMc61.out; omega)
         intro v174 w63 ho hb hg hat
         rw [← Ny173.out] at ho
         have n0_ := Aside0.mk (blk_grown (g := gb164) (o := .cells #[.int .i64 x165000_2, .int .i64 x165001_2, .int .i64 x165002_2, .int .i64 x165003_2, .string x165004_2, .slice none 0 0] 65 (0, 0)) (Z17) hg (Kd.R_ne HO_170005.out BK164.out (Z79)))
         have n1_ := Aside0.mk (blk_grown (g := gb169) (o := .cells #[.int .i64 (wrap64 (bt a0 0)), .int .i64 t165, .int .i64 (wrap64 (bt a0 1)), .int .i64 (wrap64 (bt a0 2)), .string (a0.extract 7 ((wrap64 (7 + (wrap64 (bt a0 4)))) : Int).toNat), u170005] 65 (0, 0)) (Z45) hg (Kd.R_ne HO_170005.out BK169.out (Z79)))
         have n2_ := Aside0.mk (hb)
         have n3_ := Aside0.mk (ho)
         clear BK164
         clear BK169
         clear HB
         clear HO_170005
         have BK164 := n0_
         have BK169 := n1_
         have HB := n2_
         have HO175 := n3_
         clear n0_ n1_ n2_ n3_
         clear ho hb hg hat
         obtain ⟨Ao64, co64, eo64⟩ := Kd.R_slice HO175.out
         (first | subst eo64 | (injection eo64 with f1_ f2_ f3_; have f4_ := f1_.symm; have f5_ := f3_.symm; clear f1_ f2_ f3_; subst f4_; subst f5_))
         refine hK.out _ _ (bc6 BK169.out) (fun hHeld => ?_)
         clear hK K
         refine nB 100 ?_
         refine pA 21 101 ?_
         refine last_ (i := 22) (N := none) #[true, true, true, true, true, true, true, true, true, true, true, true, true, true, true, true, true, true, true, true, true, true, true] rfl rfl (one_of HT_.out (Z24)) (Z79) (fun K hK => ?_)
         have hs65 : w63.cell? ⟨gb169, 5, none⟩ = some (u170005) := (blk_cell BK169.out 5).trans rfl
         have hfs65 := blk_frozen BK169.out 5
         have hns65_0 := NB164_169.out
         have hms65_0 := NB169_164.out
         refine skip_ (w1 := ?_) (Z102) rfl ?_ ?_
         rotate_left
         ·go_simp
          rfl
         refine hK.out _ _ ?_
         clear hK K
         refine done_ (done_of HT_.out (Z24)) ?_
         try go_wp2
         go_roundg k2
         case measure => have := HJ1.out; have := HK2.out; omega
         case rel => exact ⟨(wrap64 ((ji53) + (wrap64 (t171 + t172)))), (wrap64 (x6_2 - 1)), (x165000_2), (x165001_2), (x165002_2), (x165003_2), (x165004_2), (y173), (.slice Ao64 y173.length co64), (by first | rfl | (simp; done) | (simp only [← hji53] <;> (first | rfl | simp)) | (simp [*]; done)), (Z3), H', ⟨Z126⟩, ⟨by (with_reducible repeat (first | apply Kd.R_alloc | apply Kd.R_drewN | apply Kd.R_drew)); exact Kd.R_mono (Kd.R_far (p := ⟨gb169, 5, none⟩) (Kd.R_types HO175.out BK169.out (Z79)) (fun _ hk => hk.2) (.slice Ao64 y173.length co64)) (fun _ hk => trivial)⟩, ⟨by (with_reducible repeat (first | refine blk_drewN ?_ _ | refine blk_drew ?_ | refine blk_alloc ?_ _)); refine blk_far ?_ NB164_169.out _; (with_reducible repeat (first | refine blk_drewN ?_ _ | refine blk_drew ?_ | refine blk_alloc ?_ _)); exact BK164.out⟩, ⟨by (with_reducible repeat (first | refine blk_drewN ?_ _ | refine blk_drew ?_ | refine blk_alloc ?_ _)); refine blk_put (cs := #[.int .i64 (wrap64 (bt a0 0)), .int .i64 t165, .int .i64 (wrap64 (bt a0 1)), .int .i64 (wrap64 (bt a0 2)), .string (a0.extract 7 ((wrap64 (7 + (wrap64 (bt a0 4)))) : Int).toNat), u170005]) ?_ 5 _ rfl; (with_reducible repeat (first | refine blk_drewN ?_ _ | refine blk_drew ?_ | refine blk_alloc ?_ _)); exact BK169.out⟩, ⟨Z11⟩⟩
      ·rw [if_neg c37] at H
       have c37b0 : decide (0 < x6_2) = false := decide_eq_false c37
       clear c37
       by_cases c66 : x4_2 = (a0.size : Int)
       ·rw [if_pos c66] at H
        have c66b0 := beq_iff_eq.mpr c66
        have c66b1 := bne_eq_false_iff_eq.mpr c66
        clear c66
        obtain ⟨t170, A67, H⟩ := bindA H
        try dsimp only at H
        simp only [Option.some.injEq, Prod.mk.injEq] at H
        obtain ⟨rfl, rfl, rfl, rfl, rfl, rfl, rfl⟩ := H
        try go_wp2
        replace HO_170005 := Aside0.mk (Kd.R_drew HO_170005.out)
        replace BK164 := Aside0.mk (blk_drew BK164.out)
        replace BK169 := Aside0.mk (blk_drew BK169.out)
        replace HB := Aside0.mk (below_drew1 HB.out)
        obtain ⟨Ao69, co69, eo69⟩ := Kd.R_slice HO_170005.out
        (first | subst eo69 | (injection eo69 with f1_ f2_ f3_; have f4_ := f1_.symm; have f5_ := f3_.symm; clear f1_ f2_ f3_; subst f4_; subst f5_))
        refine start_ (n := 11) (S := fun w' => w'.cell? ⟨gb169, 0, none⟩ = some (.int .i64 (wrap64 (bt a0 0))) ∧ w'.cell? ⟨gb169, 1, none⟩ = some (.int .i64 t165) ∧ w'.cell? ⟨gb169, 2, none⟩ = some (.int .i64 (wrap64 (bt a0 1))) ∧ w'.cell? ⟨gb169, 3, none⟩ = some (.int .i64 (wrap64 (bt a0 2))) ∧ w'.cell? ⟨gb169, 4, none⟩ = some (.string (a0.extract 7 ((wrap64 (7 + (wrap64 (bt a0 4)))) : Int).toNat)) ∧ w'.cell? ⟨gb169, 5, none⟩ = some (.slice Ao69 x170005_2.length co69)) (ds := []) #[false, false, false, false, false, false, false, false, false, false, false] (Z24) rfl rfl (bc6 BK169.out) (fun hHeld => ?_); refine with_tabW spec_l09Read.tab17 spec_l09Read.bits17 (fun HT_ HW_ => ?_)
        generalize wr.drew = w68 at HO_170005 BK164 BK169 HB hHeld ⊢
        refine pA 1 108 ?_
        refine pA 2 109 ?_
        refine pA 3 110 ?_
        refine pA 4 111 ?_
        refine pA 5 112 ?_
        refine tA 0 107 ?_
        refine tA 6 113 ?_
        refine oA 7 114 (fun K hK => ?_)
        refine goes_ Try.func53 (Z24) rfl #[.agg #[.int .i64 (wrap64 (bt a0 0)), .int .i64 t165, .int .i64 (wrap64 (bt a0 1)), .int .i64 (wrap64 (bt a0 2)), .string (a0.extract 7 ((wrap64 (7 + (wrap64 (bt a0 4)))) : Int).toNat), .slice Ao69 x170005_2.length co69]] (Z102) rfl rfl (Z1) ?_
        with_reducible refine (spec_MutationOK.calls k2 (wrap64 (bt a0 0)) t165 (wrap64 (bt a0 1)) (wrap64 (bt a0 2)) (a0.extract 7 ((wrap64 (7 + (wrap64 (bt a0 4)))) : Int).toNat) _ _ x170005_2 t170 _ ?side1 ?side2 A67.out).mono ?_
        (case side1 => have h_ := (Kd.R_reads' HO_170005.out).2.2; exact tC)
        (case side2 => exact (Kd.R_reads' HO_170005.out).2.1)
        rintro e w70 ⟨rfl, hb⟩
        refine ⟨_, rfl, ?_⟩
        replace HO_170005 := Aside0.mk (Kd.R_below (Z92) hb)
        replace BK164 := Aside0.mk (kB BK164 (Z17) hb)
        replace BK169 := Aside0.mk (kB BK169 (Z45) hb)
        replace HB := Aside0.mk (below_step (Z11) hb)
        (try clear hb); (try clear hk)
        refine hK.out _ _ (bc6 BK169.out) (fun hHeld => ?_)
        clear hK K
        refine nB 114 ?_
        refine pA 8 115 ?_
        refine one_ (i := 9) (N := none) #[true, true, true, true, true, true, true, true, true, true, false] rfl rfl (one_of HT_.out (Z24)) (Z79) (fun K hK => ?_)
        have hs71 : w70.cell? ⟨gb164, 0, none⟩ = some (.int .i64 x165000_2) := (blk_cell BK164.out 0).trans rfl
        have hfs71 := blk_frozen BK164.out 0
        have hns71_1 := NB169_164.out
        have hms71_1 := NB164_169.out
        have hs72 : w70.cell? ⟨gb164, 1, none⟩ = some (.int .i64 x165001_2) := (blk_cell BK164.out 1).trans rfl
        have hfs72 := blk_frozen BK164.out 1
        have hns72_1 := NB169_164.out
        have hms72_1 := NB164_169.out
        have hs73 : w70.cell? ⟨gb164, 2, none⟩ = some (.int .i64 x165002_2) := (blk_cell BK164.out 2).trans rfl
        have hfs73 := blk_frozen BK164.out 2
        have hns73_1 := NB169_164.out
        have hms73_1 := NB164_169.out
        have hs74 : w70.cell? ⟨gb164, 3, none⟩ = some (.int .i64 x165003_2) := (blk_cell BK164.out 3).trans rfl
        have hfs74 := blk_frozen BK164.out 3
        have hns74_1 := NB169_164.out
        have hms74_1 := NB164_169.out
        have hs75 : w70.cell? ⟨gb164, 4, none⟩ = some (.string x165004_2) := (blk_cell BK164.out 4).trans rfl
        have hfs75 := blk_frozen BK164.out 4
        have hns75_1 := NB169_164.out
        have hms75_1 := NB164_169.out
        have hs76 : w70.cell? ⟨gb164, 5, none⟩ = some (.slice none 0 0) := (blk_cell BK164.out 5).trans rfl
        have hfs76 := blk_frozen BK164.out 5
        have hns76_1 := NB169_164.out
        have hms76_1 := NB164_169.out
        refine skip_ (w1 := ?_) (Z102) rfl ?_ ?_
        rotate_left
        ·go_simp
         rfl
        refine hK.out _ _ ⟨((cell_far (p := ⟨gb164, _, none⟩) NB169_164.out _).trans (((cell_far (p := ⟨gb164, _, none⟩) NB169_164.out _).trans (((cell_far (p := ⟨gb164, _, none⟩) NB169_164.out _).trans (((cell_far (p := ⟨gb164, _, none⟩) NB169_164.out _).trans (((cell_far (p := ⟨gb164, _, none⟩) NB169_164.out _).trans (((cell_far (p := ⟨gb164, _, none⟩) NB169_164.out _).trans (hHeld.1)))))))))))), ⟨((cell_far (p := ⟨gb164, _, none⟩) NB169_164.out _).trans (((cell_far (p := ⟨gb164, _, none⟩) NB169_164.out _).trans (((cell_far (p := ⟨gb164, _, none⟩) NB169_164.out _).trans (((cell_far (p := ⟨gb164, _, none⟩) NB169_164.out _).trans (((cell_far (p := ⟨gb164, _, none⟩) NB169_164.out _).trans (((cell_far (p := ⟨gb164, _, none⟩) NB169_164.out _).trans (hHeld.2.1)))))))))))), ⟨((cell_far (p := ⟨gb164, _, none⟩) NB169_164.out _).trans (((cell_far (p := ⟨gb164, _, none⟩) NB169_164.out _).trans (((cell_far (p := ⟨gb164, _, none⟩) NB169_164.out _).trans (((cell_far (p := ⟨gb164, _, none⟩) NB169_164.out _).trans (((cell_far (p := ⟨gb164, _, none⟩) NB169_164.out _).trans (((cell_far (p := ⟨gb164, _, none⟩) NB169_164.out _).trans (hHeld.2.2.1)))))))))))), ⟨((cell_far (p := ⟨gb164, _, none⟩) NB169_164.out _).trans (((cell_far (p := ⟨gb164, _, none⟩) NB169_164.out _).trans (((cell_far (p := ⟨gb164, _, none⟩) NB169_164.out _).trans (((cell_far (p := ⟨gb164, _, none⟩) NB169_164.out _).trans (((cell_far (p := ⟨gb164, _, none⟩) NB169_164.out _).trans (((cell_far (p := ⟨gb164, _, none⟩) NB169_164.out _).trans (hHeld.2.2.2.1)))))))))))), ⟨((cell_far (p := ⟨gb164, _, none⟩) NB169_164.out _).trans (((cell_far (p := ⟨gb164, _, none⟩) NB169_164.out _).trans (((cell_far (p := ⟨gb164, _, none⟩) NB169_164.out _).trans (((cell_far (p := ⟨gb164, _, none⟩) NB169_164.out _).trans (((cell_far (p := ⟨gb164, _, none⟩) NB169_164.out _).trans (((cell_far (p := ⟨gb164, _, none⟩) NB169_164.out _).trans (hHeld.2.2.2.2.1)))))))))))), ((cell_far (p := ⟨gb164, _, none⟩) NB169_164.out _).trans (((cell_far (p := ⟨gb164, _, none⟩) NB169_164.out _).trans (((cell_far (p := ⟨gb164, _, none⟩) NB169_164.out _).trans (((cell_far (p := ⟨gb164, _, none⟩) NB169_164.out _).trans (((cell_far (p := ⟨gb164, _, none⟩) NB169_164.out _).trans (((cell_far (p := ⟨gb164, _, none⟩) NB169_164.out _).trans (hHeld.2.2.2.2.2))))))))))))⟩⟩⟩⟩⟩ (fun hHeld => ?_)
        clear hK K
        refine pA 10 3 ?_
        refine done_ (done_of HT_.out (Z24)) ?_
        try go_wp2
        refine bodyPost_ret (results_ct rfl _ _ gb164 65 #[.int .i64 (wrap64 (bt a0 0)), .int .i64 t165, .int .i64 (wrap64 (bt a0 1)), .int .i64 (wrap64 (bt a0 2)), .string (a0.extract 7 ((wrap64 (7 + (wrap64 (bt a0 4)))) : Int).toNat), .slice Ao69 x170005_2.length co69] (0, 0) _ rfl (by (with_reducible repeat (first | refine blk_drewN ?_ _ | refine blk_drew ?_ | refine blk_alloc ?_ _)); refine blk_put (cs := #[.int .i64 (wrap64 (bt a0 0)), .int .i64 t165, .int .i64 (wrap64 (bt a0 1)), .int .i64 (wrap64 (bt a0 2)), .string (a0.extract 7 ((wrap64 (7 + (wrap64 (bt a0 4)))) : Int).toNat), .slice none 0 0]) ?_ 5 _ rfl; (with_reducible repeat (first | refine blk_drewN ?_ _ | refine blk_drew ?_ | refine blk_alloc ?_ _)); refine blk_put (cs := #[.int .i64 (wrap64 (bt a0 0)), .int .i64 t165, .int .i64 (wrap64 (bt a0 1)), .int .i64 (wrap64 (bt a0 2)), .string x165004_2, .slice none 0 0]) ?_ 4 _ rfl; (with_reducible repeat (first | refine blk_drewN ?_ _ | refine blk_drew ?_ | refine blk_alloc ?_ _)); refine blk_put (cs := #[.int .i64 (wrap64 (bt a0 0)), .int .i64 t165, .int .i64 (wrap64 (bt a0 1)), .int .i64 x165003_2, .string x165004_2, .slice none 0 0]) ?_ 3 _ rfl; (with_reducible repeat (first | refine blk_drewN ?_ _ | refine blk_drew ?_ | refine blk_alloc ?_ _)); refine blk_put (cs := #[.int .i64 (wrap64 (bt a0 0)), .int .i64 t165, .int .i64 x165002_2, .int .i64 x165003_2, .string x165004_2, .slice none 0 0]) ?_ 2 _ rfl; (with_reducible repeat (first | refine blk_drewN ?_ _ | refine blk_drew ?_ | refine blk_alloc ?_ _)); refine blk_put (cs := #[.int .i64 (wrap64 (bt a0 0)), .int .i64 x165001_2, .int .i64 x165002_2, .int .i64 x165003_2, .string x165004_2, .slice none 0 0]) ?_ 1 _ rfl; (with_reducible repeat (first | refine blk_drewN ?_ _ | refine blk_drew ?_ | refine blk_alloc ?_ _)); refine blk_put (cs := #[.int .i64 x165000_2, .int .i64 x165001_2, .int .i64 x165002_2, .int .i64 x165003_2, .string x165004_2, .slice none 0 0]) ?_ 0 _ rfl; (with_reducible repeat (first | refine blk_drewN ?_ _ | refine blk_drew ?_ | refine blk_alloc ?_ _)); exact BK164.out) Try.underlying65 rfl (Z24)) rfl ?_
        exact ⟨_, Z2, by (with_reducible repeat (first | apply Kd.R_alloc | apply Kd.R_drewN | apply Kd.R_drew)); exact Kd.R_mono (Kd.R_far (p := ⟨gb164, 5, none⟩) (Kd.R_far (p := ⟨gb164, 4, none⟩) (Kd.R_far (p := ⟨gb164, 3, none⟩) (Kd.R_far (p := ⟨gb164, 2, none⟩) (Kd.R_far (p := ⟨gb164, 1, none⟩) (Kd.R_far (p := ⟨gb164, 0, none⟩) (Kd.R_types HO_170005.out BK164.out (Z79)) (fun _ hk => hk.2) (.int .i64 (wrap64 (bt a0 0)))) (fun _ hk => hk.2) (.int .i64 t165)) (fun _ hk => hk.2) (.int .i64 (wrap64 (bt a0 1)))) (fun _ hk => hk.2) (.int .i64 (wrap64 (bt a0 2)))) (fun _ hk => hk.2) (.string (a0.extract 7 ((wrap64 (7 + (wrap64 (bt a0 4)))) : Int).toNat))) (fun _ hk => hk.2) (.slice Ao69 x170005_2.length co69)) (fun _ hk => trivial), Z11⟩
       ·rw [if_neg c66] at H
        have c66b0 := beq_eq_false_iff_ne.mpr c66
        have c66b1 := bne_iff_ne.mpr c66
        simp only [Option.some.injEq, Prod.mk.injEq] at H
        obtain ⟨rfl, rfl, rfl, rfl, rfl, rfl, rfl⟩ := H
        try go_wp2
        replace HO_170005 := Aside0.mk (Kd.R_drew HO_170005.out)
        replace BK164 := Aside0.mk (blk_drew BK164.out)
        replace BK169 := Aside0.mk (blk_drew BK169.out)
        replace HB := Aside0.mk (below_drew1 HB.out)
        obtain ⟨Ao83, co83, eo83⟩ := Kd.R_slice HO_170005.out
        (first | subst eo83 | (injection eo83 with f1_ f2_ f3_; have f4_ := f1_.symm; have f5_ := f3_.symm; clear f1_ f2_ f3_; subst f4_; subst f5_))
        refine start_ (n := 11) (S := fun w' => w'.cell? ⟨gb169, 0, none⟩ = some (.int .i64 (wrap64 (bt a0 0))) ∧ w'.cell? ⟨gb169, 1, none⟩ = some (.int .i64 t165) ∧ w'.cell? ⟨gb169, 2, none⟩ = some (.int .i64 (wrap64 (bt a0 1))) ∧ w'.cell? ⟨gb169, 3, none⟩ = some (.int .i64 (wrap64 (bt a0 2))) ∧ w'.cell? ⟨gb169, 4, none⟩ = some (.string (a0.extract 7 ((wrap64 (7 + (wrap64 (bt a0 4)))) : Int).toNat)) ∧ w'.cell? ⟨gb169, 5, none⟩ = some (.slice Ao83 x170005_2.length co83)) (ds := []) #[false, false, false, false, false, false, false, false, false, false, false] (Z24) rfl rfl (bc6 BK169.out) (fun hHeld => ?_); refine with_tabW spec_l09Read.tab17 spec_l09Read.bits17 (fun HT_ HW_ => ?_)
        generalize wr.drew = w77 at HO_170005 BK164 BK169 HB hHeld ⊢
        refine pA 1 108 ?_
        refine pA 2 109 ?_
        refine pA 3 110 ?_
        refine pA 4 111 ?_
        refine pA 5 112 ?_
        refine pU 6 113 ?_
        refine pU 7 114 ?_
        refine pA 8 115 ?_
        refine tA 0 107 ?_
        refine one_ (i := 9) (N := none) #[true, true, true, true, true, true, true, true, true, true, false] rfl rfl (one_of HT_.out (Z24)) (Z79) (fun K hK => ?_)
        have hs78 : w77.cell? ⟨gb164, 0, none⟩ = some (.int .i64 x165000_2) := (blk_cell BK164.out 0).trans rfl
        have hfs78 := blk_frozen BK164.out 0
        have hns78_1 := NB169_164.out
        have hms78_1 := NB164_169.out
        have hs79 : w77.cell? ⟨gb164, 1, none⟩ = some (.int .i64 x165001_2) := (blk_cell BK164.out 1).trans rfl
        have hfs79 := blk_frozen BK164.out 1
        have hns79_1 := NB169_164.out
        have hms79_1 := NB164_169.out
        have hs80 : w77.cell? ⟨gb164, 2, none⟩ = some (.int .i64 x165002_2) := (blk_cell BK164.out 2).trans rfl
        have hfs80 := blk_frozen BK164.out 2
        have hns80_1 := NB169_164.out
        have hms80_1 := NB164_169.out
        have hs81 : w77.cell? ⟨gb164, 3, none⟩ = some (.int .i64 x165003_2) := (blk_cell BK164.out 3).trans rfl
        have hfs81 := blk_frozen BK164.out 3
        have hns81_1 := NB169_164.out
        have hms81_1 := NB164_169.out
        have hs82 : w77.cell? ⟨gb164, 4, none⟩ = some (.string x165004_2) := (blk_cell BK164.out 4).trans rfl
        have hfs82 := blk_frozen BK164.out 4
        have hns82_1 := NB169_164.out
        have hms82_1 := NB164_169.out
        have hs84 : w77.cell? ⟨gb164, 5, none⟩ = some (.slice none 0 0) := (blk_cell BK164.out 5).trans rfl
        have hfs84 := blk_frozen BK164.out 5
        have hns84_1 := NB169_164.out
        have hms84_1 := NB164_169.out
        refine skip_ (w1 := ?_) (Z102) rfl ?_ ?_
        rotate_left
        ·go_simp
         rfl
        refine hK.out _ _ ⟨((cell_far (p := ⟨gb164, _, none⟩) NB169_164.out _).trans (((cell_far (p := ⟨gb164, _, none⟩) NB169_164.out _).trans (((cell_far (p := ⟨gb164, _, none⟩) NB169_164.out _).trans (((cell_far (p := ⟨gb164, _, none⟩) NB169_164.out _).trans (((cell_far (p := ⟨gb164, _, none⟩) NB169_164.out _).trans (((cell_far (p := ⟨gb164, _, none⟩) NB169_164.out _).trans (hHeld.1)))))))))))), ⟨((cell_far (p := ⟨gb164, _, none⟩) NB169_164.out _).trans (((cell_far (p := ⟨gb164, _, none⟩) NB169_164.out _).trans (((cell_far (p := ⟨gb164, _, none⟩) NB169_164.out _).trans (((cell_far (p := ⟨gb164, _, none⟩) NB169_164.out _).trans (((cell_far (p := ⟨gb164, _, none⟩) NB169_164.out _).trans (((cell_far (p := ⟨gb164, _, none⟩) NB169_164.out _).trans (hHeld.2.1)))))))))))), ⟨((cell_far (p := ⟨gb164, _, none⟩) NB169_164.out _).trans (((cell_far (p := ⟨gb164, _, none⟩) NB169_164.out _).trans (((cell_far (p := ⟨gb164, _, none⟩) NB169_164.out _).trans (((cell_far (p := ⟨gb164, _, none⟩) NB169_164.out _).trans (((cell_far (p := ⟨gb164, _, none⟩) NB169_164.out _).trans (((cell_far (p := ⟨gb164, _, none⟩) NB169_164.out _).trans (hHeld.2.2.1)))))))))))), ⟨((cell_far (p := ⟨gb164, _, none⟩) NB169_164.out _).trans (((cell_far (p := ⟨gb164, _, none⟩) NB169_164.out _).trans (((cell_far (p := ⟨gb164, _, none⟩) NB169_164.out _).trans (((cell_far (p := ⟨gb164, _, none⟩) NB169_164.out _).trans (((cell_far (p := ⟨gb164, _, none⟩) NB169_164.out _).trans (((cell_far (p := ⟨gb164, _, none⟩) NB169_164.out _).trans (hHeld.2.2.2.1)))))))))))), ⟨((cell_far (p := ⟨gb164, _, none⟩) NB169_164.out _).trans (((cell_far (p := ⟨gb164, _, none⟩) NB169_164.out _).trans (((cell_far (p := ⟨gb164, _, none⟩) NB169_164.out _).trans (((cell_far (p := ⟨gb164, _, none⟩) NB169_164.out _).trans (((cell_far (p := ⟨gb164, _, none⟩) NB169_164.out _).trans (((cell_far (p := ⟨gb164, _, none⟩) NB169_164.out _).trans (hHeld.2.2.2.2.1)))))))))))), ((cell_far (p := ⟨gb164, _, none⟩) NB169_164.out _).trans (((cell_far (p := ⟨gb164, _, none⟩) NB169_164.out _).trans (((cell_far (p := ⟨gb164, _, none⟩) NB169_164.out _).trans (((cell_far (p := ⟨gb164, _, none⟩) NB169_164.out _).trans (((cell_far (p := ⟨gb164, _, none⟩) NB169_164.out _).trans (((cell_far (p := ⟨gb164, _, none⟩) NB169_164.out _).trans (hHeld.2.2.2.2.2))))))))))))⟩⟩⟩⟩⟩ (fun hHeld => ?_)
        clear hK K
        refine pA 10 3 ?_
        refine done_ (done_of HT_.out (Z24)) ?_
        try go_wp2
        refine bodyPost_ret (results_ct rfl _ _ gb164 65 #[.int .i64 (wrap64 (bt a0 0)), .int .i64 t165, .int .i64 (wrap64 (bt a0 1)), .int .i64 (wrap64 (bt a0 2)), .string (a0.extract 7 ((wrap64 (7 + (wrap64 (bt a0 4)))) : Int).toNat), .slice Ao83 x170005_2.length co83] (0, 0) _ rfl (by (with_reducible repeat (first | refine blk_drewN ?_ _ | refine blk_drew ?_ | refine blk_alloc ?_ _)); refine blk_put (cs := #[.int .i64 (wrap64 (bt a0 0)), .int .i64 t165, .int .i64 (wrap64 (bt a0 1)), .int .i64 (wrap64 (bt a0 2)), .string (a0.extract 7 ((wrap64 (7 + (wrap64 (bt a0 4)))) : Int).toNat), .slice none 0 0]) ?_ 5 _ rfl; (with_reducible repeat (first | refine blk_drewN ?_ _ | refine blk_drew ?_ | refine blk_alloc ?_ _)); refine blk_put (cs := #[.int .i64 (wrap64 (bt a0 0)), .int .i64 t165, .int .i64 (wrap64 (bt a0 1)), .int .i64 (wrap64 (bt a0 2)), .string x165004_2, .slice none 0 0]) ?_ 4 _ rfl; (with_reducible repeat (first | refine blk_drewN ?_ _ | refine blk_drew ?_ | refine blk_alloc ?_ _)); refine blk_put (cs := #[.int .i64 (wrap64 (bt a0 0)), .int .i64 t165, .int .i64 (wrap64 (bt a0 1)), .int .i64 x165003_2, .string x165004_2, .slice none 0 0]) ?_ 3 _ rfl; (with_reducible repeat (first | refine blk_drewN ?_ _ | refine blk_drew ?_ | refine blk_alloc ?_ _)); refine blk_put (cs := #[.int .i64 (wrap64 (bt a0 0)), .int .i64 t165, .int .i64 x165002_2, .int .i64 x165003_2, .string x165004_2, .slice none 0 0]) ?_ 2 _ rfl; (with_reducible repeat (first | refine blk_drewN ?_ _ | refine blk_drew ?_ | refine blk_alloc ?_ _)); refine blk_put (cs := #[.int .i64 (wrap64 (bt a0 0)), .int .i64 x165001_2, .int .i64 x165002_2, .int .i64 x165003_2, .string x165004_2, .slice none 0 0]) ?_ 1 _ rfl; (with_reducible repeat (first | refine blk_drewN ?_ _ | refine blk_drew ?_ | refine blk_alloc ?_ _)); refine blk_put (cs := #[.int .i64 x165000_2, .int .i64 x165001_2, .int .i64 x165002_2, .int .i64 x165003_2, .string x165004_2, .slice none 0 0]) ?_ 0 _ rfl; (with_reducible repeat (first | refine blk_drewN ?_ _ | refine blk_drew ?_ | refine blk_alloc ?_ _)); exact BK164.out) Try.underlying65 rfl (Z24)) rfl ?_
        exact ⟨_, Z2, by (with_reducible repeat (first | apply Kd.R_alloc | apply Kd.R_drewN | apply Kd.R_drew)); exact Kd.R_mono (Kd.R_far (p := ⟨gb164, 5, none⟩) (Kd.R_far (p := ⟨gb164, 4, none⟩) (Kd.R_far (p := ⟨gb164, 3, none⟩) (Kd.R_far (p := ⟨gb164, 2, none⟩) (Kd.R_far (p := ⟨gb164, 1, none⟩) (Kd.R_far (p := ⟨gb164, 0, none⟩) (Kd.R_types HO_170005.out BK164.out (Z79)) (fun _ hk => hk.2) (.int .i64 (wrap64 (bt a0 0)))) (fun _ hk => hk.2) (.int .i64 t165)) (fun _ hk => hk.2) (.int .i64 (wrap64 (bt a0 1)))) (fun _ hk => hk.2) (.int .i64 (wrap64 (bt a0 2)))) (fun _ hk => hk.2) (.string (a0.extract 7 ((wrap64 (7 + (wrap64 (bt a0 4)))) : Int).toNat))) (fun _ hk => hk.2) (.slice Ao83 x170005_2.length co83)) (fun _ hk => trivial), Z11⟩

end Go.Proofs.Ytbikfhccfenkdaa.PFnExactEngineOK
