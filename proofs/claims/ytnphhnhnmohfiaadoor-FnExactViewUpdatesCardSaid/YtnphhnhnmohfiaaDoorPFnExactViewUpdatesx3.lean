/- Contracts of the functions that a statement reaches: written for this seat by wip/x/xprint.py over the kit's print, with own contracts for what the print lacks. -/
import Derived.Test.YtnphhnhnmohfiaaDoorPFnExactViewUpdatesx0
import Derived.Test.YtnphhnhnmohfiaaDoorPFnExactViewUpdatesx1
import Derived.Test.YtnphhnhnmohfiaaDoorPFnExactViewUpdatesx2
namespace Go.Proofs.YtnphhnhnmohfiaaDoor.PFnExactViewUpdates
open Go.RowKit Go.Proofs.YtnphhnhnmohfiaaDoorW.PrintWords Go.Proofs.YtnphhnhnmohfiaaDoorW.PrintLast Go.Proofs.YtnphhnhnmohfiaaDoorW.PrintMore Go.Proofs.YtnphhnhnmohfiaaDoor.Mac
attribute [local go_sem] max2_int min2_int max_two min_two max_three min_three max_four min_four   -- for this text's walks alone
set_option linter.unusedVariables false
set_option linter.unusedSimpArgs false

/-! ### spec_BoxOK: function 45 -/
mutual
def spec_BoxOK.j0 : Nat → Bool → ByteArray → Int → Int → List (S67) → List ByteArray → Option (Bool)
 | 0, _, _, _, _, _, _ => none
 | k + 1, x42, x114000, x114001, x114002, x114003, x114004 => if x42 = true then (some false) else (spec_BoxOK.l0 k 0 x114000 x114001 x114002 x114003 x114004)
def spec_BoxOK.l0 : Nat → Int → ByteArray → Int → Int → List (S67) → List ByteArray → Option (Bool)
 | 0, _, _, _, _, _, _ => none
 | k + 1, x3, x114000, x114001, x114002, x114003, x114004 => if x3 < (x114003.length : Int) then (if 0 ≤ x3 then ((spec_l01In.f ((rd_T67 x114003 x3).f0) 1 (wrap64 (x114002 - 1))).bind fun t119 => (if t119 = true then (if x3 > 0 then (if 0 ≤ (wrap64 (x3 - 1)) then (if (wrap64 (x3 - 1)) < (x114003.length : Int) then (if ((rd_T67 x114003 (wrap64 (x3 - 1))).f0) ≥ ((rd_T67 x114003 x3).f0) then (some false) else ((spec_l01In.f ((rd_T67 x114003 x3).f1) 0 31).bind fun t121 => (if t121 = true then (if (((rd_T67 x114003 x3).f2).size : Int) > 4000 then (some false) else (spec_BoxOK.l0 k (wrap64 (x3 + 1)) x114000 x114001 x114002 x114003 x114004)) else (some false)))) else (none)) else (none)) else ((spec_l01In.f ((rd_T67 x114003 x3).f1) 0 31).bind fun t122 => (if t122 = true then (if (((rd_T67 x114003 x3).f2).size : Int) > 4000 then (some false) else (spec_BoxOK.l0 k (wrap64 (x3 + 1)) x114000 x114001 x114002 x114003 x114004)) else (some false)))) else (some false))) else (none)) else (spec_BoxOK.l1 k 0 x114000 x114001 x114002 x114003 x114004)
def spec_BoxOK.l1 : Nat → Int → ByteArray → Int → Int → List (S67) → List ByteArray → Option (Bool)
 | 0, _, _, _, _, _, _ => none
 | k + 1, x5, x114000, x114001, x114002, x114003, x114004 => if x5 < (x114004.length : Int) then (if 0 ≤ x5 then ((spec_l01In.f ((rdOf ByteArray.empty x114004 x5).size : Int) 1 200).bind fun t124 => (if t124 = true then (if x5 ≤ (x114004.length : Int) then ((spec_l06Has.f k (x114004.take (x5 : Int).toNat) (rdOf ByteArray.empty x114004 x5)).bind fun t127 => (if t127 = true then (some false) else (spec_BoxOK.l1 k (wrap64 (x5 + 1)) x114000 x114001 x114002 x114003 x114004))) else (none)) else (some false))) else (none)) else (some true)
end
def spec_BoxOK.f (k : Nat) (a0_0 : ByteArray) (a0_1 : Int) (a0_2 : Int) (l0_3 : List (S67)) (l0_4 : List ByteArray) : Option (Bool) := (spec_NameOK.f k a0_0).bind fun t114 => (if t114 = true then ((spec_l01In.f a0_1 1 1000000).bind fun t115 => (if t115 = true then ((spec_l01In.f a0_2 1 1001).bind fun t116 => (if t116 = true then (if (l0_3.length : Int) > 30 then (spec_BoxOK.j0 k true a0_0 a0_1 a0_2 l0_3 l0_4) else (if (l0_4.length : Int) > 60 then (spec_BoxOK.j0 k true a0_0 a0_1 a0_2 l0_3 l0_4) else (spec_BoxOK.j0 k ((l0_4.length : Int) != (wrap64 (a0_2 - 1))) a0_0 a0_1 a0_2 l0_3 l0_4))) else (spec_BoxOK.j0 k true a0_0 a0_1 a0_2 l0_3 l0_4))) else (spec_BoxOK.j0 k true a0_0 a0_1 a0_2 l0_3 l0_4))) else (spec_BoxOK.j0 k true a0_0 a0_1 a0_2 l0_3 l0_4))
theorem spec_BoxOK.mono_l : ∀ k, (∀ y0 y1 y2 y3 y4 y5, LeO (spec_BoxOK.j0 k y0 y1 y2 y3 y4 y5) (spec_BoxOK.j0 (k + 1) y0 y1 y2 y3 y4 y5)) ∧ (∀ y0 y1 y2 y3 y4 y5, LeO (spec_BoxOK.l0 k y0 y1 y2 y3 y4 y5) (spec_BoxOK.l0 (k + 1) y0 y1 y2 y3 y4 y5)) ∧ (∀ y0 y1 y2 y3 y4 y5, LeO (spec_BoxOK.l1 k y0 y1 y2 y3 y4 y5) (spec_BoxOK.l1 (k + 1) y0 y1 y2 y3 y4 y5))
 | 0 => ⟨fun _ _ _ _ _ _ r h => by simp [spec_BoxOK.j0] at h, fun _ _ _ _ _ _ r h => by simp [spec_BoxOK.l0] at h, fun _ _ _ _ _ _ r h => by simp [spec_BoxOK.l1] at h⟩
 | k + 1 => by
  obtain ⟨ih0, ih1, ih2⟩ := spec_BoxOK.mono_l k
  refine ⟨?_, ?_, ?_⟩
  ·intro y0 y1 y2 y3 y4 y5
   unfold spec_BoxOK.j0
   repeat' first
   | (with_reducible exact ih0 _ _ _ _ _ _)
   | (with_reducible exact ih1 _ _ _ _ _ _)
   | (with_reducible exact ih2 _ _ _ _ _ _)
   | (with_reducible exact spec_NameOK.mono _ _)
   | (with_reducible exact spec_l06Has.mono _ _ _)
   | (with_reducible exact LeO.refl _)
   | (with_reducible exact LeO.none _)
   | (with_reducible refine LeO.ite ?_ ?_)
   | (with_reducible refine LeO.bind ?_ (fun _ => ?_))
   | exact ih0 _ _ _ _ _ _
   | exact ih1 _ _ _ _ _ _
   | exact ih2 _ _ _ _ _ _
   | exact spec_NameOK.mono _ _
   | exact spec_l06Has.mono _ _ _
   | exact LeO.none _
   | refine LeO.ite ?_ ?_
   | refine LeO.bind ?_ (fun _ => ?_)
  ·intro y0 y1 y2 y3 y4 y5
   unfold spec_BoxOK.l0
   repeat' first
   | (with_reducible exact ih0 _ _ _ _ _ _)
   | (with_reducible exact ih1 _ _ _ _ _ _)
   | (with_reducible exact ih2 _ _ _ _ _ _)
   | (with_reducible exact spec_NameOK.mono _ _)
   | (with_reducible exact spec_l06Has.mono _ _ _)
   | (with_reducible exact LeO.refl _)
   | (with_reducible exact LeO.none _)
   | (with_reducible refine LeO.ite ?_ ?_)
   | (with_reducible refine LeO.bind ?_ (fun _ => ?_))
   | exact ih0 _ _ _ _ _ _
   | exact ih1 _ _ _ _ _ _
   | exact ih2 _ _ _ _ _ _
   | exact spec_NameOK.mono _ _
   | exact spec_l06Has.mono _ _ _
   | exact LeO.none _
   | refine LeO.ite ?_ ?_
   | refine LeO.bind ?_ (fun _ => ?_)
  ·intro y0 y1 y2 y3 y4 y5
   unfold spec_BoxOK.l1
   repeat' first
   | (with_reducible exact ih0 _ _ _ _ _ _)
   | (with_reducible exact ih1 _ _ _ _ _ _)
   | (with_reducible exact ih2 _ _ _ _ _ _)
   | (with_reducible exact spec_NameOK.mono _ _)
   | (with_reducible exact spec_l06Has.mono _ _ _)
   | (with_reducible exact LeO.refl _)
   | (with_reducible exact LeO.none _)
   | (with_reducible refine LeO.ite ?_ ?_)
   | (with_reducible refine LeO.bind ?_ (fun _ => ?_))
   | exact ih0 _ _ _ _ _ _
   | exact ih1 _ _ _ _ _ _
   | exact ih2 _ _ _ _ _ _
   | exact spec_NameOK.mono _ _
   | exact spec_l06Has.mono _ _ _
   | exact LeO.none _
   | refine LeO.ite ?_ ?_
   | refine LeO.bind ?_ (fun _ => ?_)
theorem spec_BoxOK.mono : ∀ a0 a1 a2 a3 a4 k, LeO (spec_BoxOK.f k a0 a1 a2 a3 a4) (spec_BoxOK.f (k + 1) a0 a1 a2 a3 a4) := by
 intro a0 a1 a2 a3 a4 k
 obtain ⟨ih0, ih1, ih2⟩ := spec_BoxOK.mono_l k
 unfold spec_BoxOK.f
 repeat' first
   | (with_reducible exact ih0 _ _ _ _ _ _)
   | (with_reducible exact ih1 _ _ _ _ _ _)
   | (with_reducible exact ih2 _ _ _ _ _ _)
   | (with_reducible exact spec_NameOK.mono _ _)
   | (with_reducible exact spec_l06Has.mono _ _ _)
   | (with_reducible exact LeO.refl _)
   | (with_reducible exact LeO.none _)
   | (with_reducible refine LeO.ite ?_ ?_)
   | (with_reducible refine LeO.bind ?_ (fun _ => ?_))
   | exact ih0 _ _ _ _ _ _
   | exact ih1 _ _ _ _ _ _
   | exact ih2 _ _ _ _ _ _
   | exact spec_NameOK.mono _ _
   | exact spec_l06Has.mono _ _ _
   | exact LeO.none _
   | refine LeO.ite ?_ ?_
   | refine LeO.bind ?_ (fun _ => ?_)
def spec_BoxOK.T7 : Bool × List (List Nat × List Nat) := (true, [([], []), ([0], [0]), ([], []), ([2], [2]), ([3], [3]), ([1, 4], [1, 4]), ([5], [5]), ([6, 5], [6]), ([7], [7]), ([8, 7], [7, 8]), ([9, 7, 7], [7, 9]), ([10], [10]), ([11, 10], [10, 11]), ([10], [10]), ([13, 10], [10, 13]), ([12, 14, 10], [10, 12, 14]), ([15, 10], [10, 15]), ([16, 10], [10, 16]), ([10], [10]), ([18, 10], [10, 18]), ([17, 19, 10], [10, 17, 19]), ([10, 20, 7], [7, 10, 20]), ([7, 21], [7, 21]), ([22, 10], [22]), ([23], [23]), ([24, 23], [23, 24]), ([25, 23, 23], [23, 25]), ([26, 23], [23, 26]), ([23, 27], [23, 27]), ([28, 26], [28]), ([29], [29]), ([30, 29], [29, 30]), ([31, 29], [29, 31]), ([32, 29], [29, 32]), ([29, 33], [29, 33])])
def spec_BoxOK.B7 : List Nat := [0, 1, 0, 4, 12, 31, 63, 127, 255, 511, 1023, 2047, 4095, 2047, 10239, 32767, 65535, 131071, 2047, 264191, 1048575, 2097151, 4194303, 8388607, 16777215, 33554431, 67108863, 134217727, 268435455, 536870911, 1073741823, 2147483647, 4294967295, 8589934591, 17179869183]
theorem spec_BoxOK.tab7 : rtab .any (opsOf Tryd.f45 7) = spec_BoxOK.T7 := by kernel_rfl
theorem spec_BoxOK.bits7 : waitsOk spec_BoxOK.T7.2 spec_BoxOK.B7 = true := by kernel_rfl
def spec_BoxOK.T12 : Bool × List (List Nat × List Nat) := (true, [([], []), ([0], [0]), ([], []), ([1, 2], [1, 2]), ([3], [3]), ([4], [4]), ([5], [5]), ([6], [6]), ([7, 6], [7]), ([8], [8]), ([9, 8], [8, 9]), ([8], [8]), ([10, 11, 8], [8, 10, 11]), ([8], [8]), ([13, 8], [8, 13]), ([8], [8]), ([14, 15, 8], [8, 14, 15]), ([16, 8], [8, 16]), ([12, 17, 8, 8], [8, 12, 17]), ([8, 18], [8, 18])])
def spec_BoxOK.B12 : List Nat := [0, 1, 0, 7, 15, 31, 63, 127, 255, 511, 1023, 511, 4095, 511, 8703, 511, 57855, 123391, 262143, 524287]
theorem spec_BoxOK.tab12 : rtab .any (opsOf Tryd.f45 12) = spec_BoxOK.T12 := by kernel_rfl
theorem spec_BoxOK.bits12 : waitsOk spec_BoxOK.T12.2 spec_BoxOK.B12 = true := by kernel_rfl
set_option maxHeartbeats 40000000 in
set_option maxRecDepth 100000 in
theorem spec_BoxOK.calls (k : Nat) (a0_0 : ByteArray) (a0_1 : Int) (a0_2 : Int) (A0_3 : Option Addr) (c0_3 : Nat) (l0_3 : List (S67)) (A0_4 : Option Addr) (c0_4 : Nat) (l0_4 : List ByteArray) (r : Bool) (w : World) (hr0_3 : Kd.C k67 w A0_3 l0_3.length l0_3) (hc0_3 : l0_3.length ≤ c0_3) (hr0_4 : Kd.C Kd.string w A0_4 l0_4.length l0_4) (hc0_4 : l0_4.length ≤ c0_4) (h : spec_BoxOK.f k a0_0 a0_1 a0_2 l0_3 l0_4 = some r) :
  Calls Tryd.prog 45 #[.agg #[.string a0_0, .int .i64 a0_1, .int .i64 a0_2, .slice A0_3 l0_3.length c0_3, .slice A0_4 l0_4.length c0_4]] w fun e w' => e = .returned (.bool r) ∧ Below w.heap.size w w' := by
 have hu32 := Tryd.underlying32
 have hu67 := Tryd.underlying67
 have HR0_3 := Aside0.mk hr0_3
 have HC0_3 := Aside0.mk hc0_3
 clear hr0_3 hc0_3
 have HR0_4 := Aside0.mk hr0_4
 have HC0_4 := Aside0.mk hc0_4
 clear hr0_4 hc0_4
 have HB := Aside0.mk (Below.refl w.heap.size w)
 have H : ((spec_NameOK.f k a0_0).bind fun t114 => (if t114 = true then ((spec_l01In.f a0_1 1 1000000).bind fun t115 => (if t115 = true then ((spec_l01In.f a0_2 1 1001).bind fun t116 => (if t116 = true then (if (l0_3.length : Int) > 30 then (spec_BoxOK.j0 k true a0_0 a0_1 a0_2 l0_3 l0_4) else (if (l0_4.length : Int) > 60 then (spec_BoxOK.j0 k true a0_0 a0_1 a0_2 l0_3 l0_4) else (spec_BoxOK.j0 k ((l0_4.length : Int) != (wrap64 (a0_2 - 1))) a0_0 a0_1 a0_2 l0_3 l0_4))) else (spec_BoxOK.j0 k true a0_0 a0_1 a0_2 l0_3 l0_4))) else (spec_BoxOK.j0 k true a0_0 a0_1 a0_2 l0_3 l0_4))) else (spec_BoxOK.j0 k true a0_0 a0_1 a0_2 l0_3 l0_4))) = some r := h
 clear h
 have HC2 := Aside0.mk H
 clear H
 go_enter Tryd.func45, Tryd.ntmps45
 go_upto_region 1 with (first | ((with_reducible refine gate_dst (N := 1) rfl ?_); (try (refine gate_guard (by rfl) ?_; dsimp only)); refine box_event ?hg (N := 1) ?hd (cs := #[.string a0_0, .int .i64 a0_1, .int .i64 a0_2, .slice A0_3 l0_3.length c0_3, .slice A0_4 l0_4.length c0_4]) (t := 32) ?hr ?_; (case hd => rfl); (case hg => rfl); (case hr => first | (go_simp; done) | (go_simp; rfl)); intro gb113 hg w3 hbox hb; have n0_ := Aside0.mk (below_step (t1) hb); have n1_ := Aside0.mk (hbox); have n2_ := Aside0.mk ((by rw [hg]; exact (below_size (t1)) : w.heap.size ≤ gb113)); have n3_ := Aside0.mk ((by rw [hg]; exact (below_size (t1)) : w.heap.size ≤ gb113)); clear HB; have HB := n0_; have BK113 := n1_; have GW113 := n2_; have GE113 := n3_; clear n0_ n1_ n2_ n3_; clear hb hbox hg))
 (try simp only [Act.put, List.setIfInBounds_toArray, List.set_cons_zero, List.set_cons_succ])
 go_cut [42] (fun v42 wc => ∃ (kq : Nat) (x42_1 : Bool), v42 = .bool x42_1 ∧ Aside0 (spec_BoxOK.j0 kq x42_1 a0_0 a0_1 a0_2 l0_3 l0_4 = some r) ∧ Aside0 (kq ≤ k) ∧ Aside0 (wc.heap[gb113]? = some (.cells #[.string a0_0, .int .i64 a0_1, .int .i64 a0_2, (.slice A0_3 l0_3.length c0_3), (.slice A0_4 l0_4.length c0_4)] 32 (0, 0))) ∧ Aside0 (Below w.heap.size w wc))
 case first =>
  have H := HC2.out
  clear HC2
  replace H := Option.bind_eq_some_iff.mp H
  obtain ⟨t114, A40, H⟩ := H
  replace H : (if t114 = true then ((spec_l01In.f a0_1 1 1000000).bind fun t115 => (if t115 = true then ((spec_l01In.f a0_2 1 1001).bind fun t116 => (if t116 = true then (if (l0_3.length : Int) > 30 then (spec_BoxOK.j0 k true a0_0 a0_1 a0_2 l0_3 l0_4) else (if (l0_4.length : Int) > 60 then (spec_BoxOK.j0 k true a0_0 a0_1 a0_2 l0_3 l0_4) else (spec_BoxOK.j0 k ((l0_4.length : Int) != (wrap64 (a0_2 - 1))) a0_0 a0_1 a0_2 l0_3 l0_4))) else (spec_BoxOK.j0 k true a0_0 a0_1 a0_2 l0_3 l0_4))) else (spec_BoxOK.j0 k true a0_0 a0_1 a0_2 l0_3 l0_4))) else (spec_BoxOK.j0 k true a0_0 a0_1 a0_2 l0_3 l0_4)) = some r := H
  have A4 := Aside0.mk A40
  clear A40
  by_cases c5 : t114 = true
  ·subst c5
   have H1 : ((spec_l01In.f a0_1 1 1000000).bind fun t115 => (if t115 = true then ((spec_l01In.f a0_2 1 1001).bind fun t116 => (if t116 = true then (if (l0_3.length : Int) > 30 then (spec_BoxOK.j0 k true a0_0 a0_1 a0_2 l0_3 l0_4) else (if (l0_4.length : Int) > 60 then (spec_BoxOK.j0 k true a0_0 a0_1 a0_2 l0_3 l0_4) else (spec_BoxOK.j0 k ((l0_4.length : Int) != (wrap64 (a0_2 - 1))) a0_0 a0_1 a0_2 l0_3 l0_4))) else (spec_BoxOK.j0 k true a0_0 a0_1 a0_2 l0_3 l0_4))) else (spec_BoxOK.j0 k true a0_0 a0_1 a0_2 l0_3 l0_4))) = some r := by rw [if_pos rfl] at H; exact H
   clear H
   have H := H1
   clear H1
   replace H := Option.bind_eq_some_iff.mp H
   obtain ⟨t115, A60, H⟩ := H
   replace H : (if t115 = true then ((spec_l01In.f a0_2 1 1001).bind fun t116 => (if t116 = true then (if (l0_3.length : Int) > 30 then (spec_BoxOK.j0 k true a0_0 a0_1 a0_2 l0_3 l0_4) else (if (l0_4.length : Int) > 60 then (spec_BoxOK.j0 k true a0_0 a0_1 a0_2 l0_3 l0_4) else (spec_BoxOK.j0 k ((l0_4.length : Int) != (wrap64 (a0_2 - 1))) a0_0 a0_1 a0_2 l0_3 l0_4))) else (spec_BoxOK.j0 k true a0_0 a0_1 a0_2 l0_3 l0_4))) else (spec_BoxOK.j0 k true a0_0 a0_1 a0_2 l0_3 l0_4)) = some r := H
   have A6 := Aside0.mk A60
   clear A60
   by_cases c7 : t115 = true
   ·subst c7
    have H1 : ((spec_l01In.f a0_2 1 1001).bind fun t116 => (if t116 = true then (if (l0_3.length : Int) > 30 then (spec_BoxOK.j0 k true a0_0 a0_1 a0_2 l0_3 l0_4) else (if (l0_4.length : Int) > 60 then (spec_BoxOK.j0 k true a0_0 a0_1 a0_2 l0_3 l0_4) else (spec_BoxOK.j0 k ((l0_4.length : Int) != (wrap64 (a0_2 - 1))) a0_0 a0_1 a0_2 l0_3 l0_4))) else (spec_BoxOK.j0 k true a0_0 a0_1 a0_2 l0_3 l0_4))) = some r := by rw [if_pos rfl] at H; exact H
    clear H
    have H := H1
    clear H1
    replace H := Option.bind_eq_some_iff.mp H
    obtain ⟨t116, A80, H⟩ := H
    replace H : (if t116 = true then (if (l0_3.length : Int) > 30 then (spec_BoxOK.j0 k true a0_0 a0_1 a0_2 l0_3 l0_4) else (if (l0_4.length : Int) > 60 then (spec_BoxOK.j0 k true a0_0 a0_1 a0_2 l0_3 l0_4) else (spec_BoxOK.j0 k ((l0_4.length : Int) != (wrap64 (a0_2 - 1))) a0_0 a0_1 a0_2 l0_3 l0_4))) else (spec_BoxOK.j0 k true a0_0 a0_1 a0_2 l0_3 l0_4)) = some r := H
    have A8 := Aside0.mk A80
    clear A80
    by_cases c9 : t116 = true
    ·subst c9
     have H1 : (if (l0_3.length : Int) > 30 then (spec_BoxOK.j0 k true a0_0 a0_1 a0_2 l0_3 l0_4) else (if (l0_4.length : Int) > 60 then (spec_BoxOK.j0 k true a0_0 a0_1 a0_2 l0_3 l0_4) else (spec_BoxOK.j0 k ((l0_4.length : Int) != (wrap64 (a0_2 - 1))) a0_0 a0_1 a0_2 l0_3 l0_4))) = some r := by rw [if_pos rfl] at H; exact H
     clear H
     have H := H1
     clear H1
     by_cases c10 : (l0_3.length : Int) > 30
     ·rw [if_pos c10] at H
      have c10b0 : decide (30 < (l0_3.length : Int)) = true := decide_eq_true c10
      have c10b1 : decide (30 < l0_3.length) = true := decide_eq_true (t70)
      clear c10
      (first | rw [c10b0] | rw [c10b1] | (simp only [i64_w, i32_w]; rw [c10b0]) | skip)
      have H' := Aside0.mk H
      clear H
      have hcz11_0 : w3.cell? ⟨gb113, 0, none⟩ = some (.string a0_0) := (blk_cell BK113.out 0).trans rfl
      have hcz11_1 : w3.cell? ⟨gb113, 1, none⟩ = some (.int .i64 a0_1) := (blk_cell BK113.out 1).trans rfl
      have hcz11_2 : w3.cell? ⟨gb113, 2, none⟩ = some (.int .i64 a0_2) := (blk_cell BK113.out 2).trans rfl
      have hcz11_3 : w3.cell? ⟨gb113, 3, none⟩ = some (.slice A0_3 l0_3.length c0_3) := (blk_cell BK113.out 3).trans rfl
      have hcz11_4 : w3.cell? ⟨gb113, 4, none⟩ = some (.slice A0_4 l0_4.length c0_4) := (blk_cell BK113.out 4).trans rfl
      have hfz11_0 := blk_frozen BK113.out 0
      have hfz11_1 := blk_frozen BK113.out 1
      have hfz11_2 := blk_frozen BK113.out 2
      have hfz11_3 := blk_frozen BK113.out 3
      have hfz11_4 := blk_frozen BK113.out 4
      go_wp2_with (first | ((with_reducible refine gate_callee (f := 83) rfl ?_); refine goesL_ (some 8) rfl rfl Tryd.func83 (t23) rfl #[.string a0_0] rfl (t2) ?_; (with_reducible refine (spec_NameOK.calls k a0_0 true _ A4.out).mono ?_); rintro e w' ⟨rfl, ⟨nd, rfl⟩⟩; refine ⟨_, rfl, ?_⟩) | (go_at_call 78; (with_reducible refine (spec_l01In.calls a0_1 1 1000000 true _ A6.out).mono ?_); rintro e w' ⟨rfl, ⟨nd, rfl⟩⟩) | (go_at_call 78; (with_reducible refine (spec_l01In.calls a0_2 1 1001 true _ A8.out).mono ?_); rintro e w' ⟨rfl, ⟨nd, rfl⟩⟩))
      go_meet
      case rel => exact ⟨_, (true), (t0), H', ⟨t45⟩, ⟨t10⟩, ⟨t7⟩⟩
     ·rw [if_neg c10] at H
      have c10b0 : decide (30 < (l0_3.length : Int)) = false := decide_eq_false c10
      have c10b1 : decide (30 < l0_3.length) = false := decide_eq_false (t70)
      clear c10
      (first | rw [c10b0] | rw [c10b1] | (simp only [i64_w, i32_w]; rw [c10b0]) | skip)
      by_cases c12 : (l0_4.length : Int) > 60
      ·rw [if_pos c12] at H
       have c12b0 : decide (60 < (l0_4.length : Int)) = true := decide_eq_true c12
       have c12b1 : decide (60 < l0_4.length) = true := decide_eq_true (t70)
       clear c12
       have H' := Aside0.mk H
       clear H
       have hcz13_0 : w3.cell? ⟨gb113, 0, none⟩ = some (.string a0_0) := (blk_cell BK113.out 0).trans rfl
       have hcz13_1 : w3.cell? ⟨gb113, 1, none⟩ = some (.int .i64 a0_1) := (blk_cell BK113.out 1).trans rfl
       have hcz13_2 : w3.cell? ⟨gb113, 2, none⟩ = some (.int .i64 a0_2) := (blk_cell BK113.out 2).trans rfl
       have hcz13_3 : w3.cell? ⟨gb113, 3, none⟩ = some (.slice A0_3 l0_3.length c0_3) := (blk_cell BK113.out 3).trans rfl
       have hcz13_4 : w3.cell? ⟨gb113, 4, none⟩ = some (.slice A0_4 l0_4.length c0_4) := (blk_cell BK113.out 4).trans rfl
       have hfz13_0 := blk_frozen BK113.out 0
       have hfz13_1 := blk_frozen BK113.out 1
       have hfz13_2 := blk_frozen BK113.out 2
       have hfz13_3 := blk_frozen BK113.out 3
       have hfz13_4 := blk_frozen BK113.out 4
       go_wp2_with (first | ((with_reducible refine gate_callee (f := 83) rfl ?_); refine goesL_ (some 8) rfl rfl Tryd.func83 (t23) rfl #[.string a0_0] rfl (t2) ?_; (with_reducible refine (spec_NameOK.calls k a0_0 true _ A4.out).mono ?_); rintro e w' ⟨rfl, ⟨nd, rfl⟩⟩; refine ⟨_, rfl, ?_⟩) | (go_at_call 78; (with_reducible refine (spec_l01In.calls a0_1 1 1000000 true _ A6.out).mono ?_); rintro e w' ⟨rfl, ⟨nd, rfl⟩⟩) | (go_at_call 78; (with_reducible refine (spec_l01In.calls a0_2 1 1001 true _ A8.out).mono ?_); rintro e w' ⟨rfl, ⟨nd, rfl⟩⟩))
       go_meet
       case rel => exact ⟨_, (true), (t0), H', ⟨t45⟩, ⟨t10⟩, ⟨t7⟩⟩
      ·rw [if_neg c12] at H
       have c12b0 : decide (60 < (l0_4.length : Int)) = false := decide_eq_false c12
       have c12b1 : decide (60 < l0_4.length) = false := decide_eq_false (t70)
       clear c12
       have H' := Aside0.mk H
       clear H
       have hcz14_0 : w3.cell? ⟨gb113, 0, none⟩ = some (.string a0_0) := (blk_cell BK113.out 0).trans rfl
       have hcz14_1 : w3.cell? ⟨gb113, 1, none⟩ = some (.int .i64 a0_1) := (blk_cell BK113.out 1).trans rfl
       have hcz14_2 : w3.cell? ⟨gb113, 2, none⟩ = some (.int .i64 a0_2) := (blk_cell BK113.out 2).trans rfl
       have hcz14_3 : w3.cell? ⟨gb113, 3, none⟩ = some (.slice A0_3 l0_3.length c0_3) := (blk_cell BK113.out 3).trans rfl
       have hcz14_4 : w3.cell? ⟨gb113, 4, none⟩ = some (.slice A0_4 l0_4.length c0_4) := (blk_cell BK113.out 4).trans rfl
       have hfz14_0 := blk_frozen BK113.out 0
       have hfz14_1 := blk_frozen BK113.out 1
       have hfz14_2 := blk_frozen BK113.out 2
       have hfz14_3 := blk_frozen BK113.out 3
       have hfz14_4 := blk_frozen BK113.out 4
       go_wp2_with (first | ((with_reducible refine gate_callee (f := 83) rfl ?_); refine goesL_ (some 8) rfl rfl Tryd.func83 (t23) rfl #[.string a0_0] rfl (t2) ?_; (with_reducible refine (spec_NameOK.calls k a0_0 true _ A4.out).mono ?_); rintro e w' ⟨rfl, ⟨nd, rfl⟩⟩; refine ⟨_, rfl, ?_⟩) | (go_at_call 78; (with_reducible refine (spec_l01In.calls a0_1 1 1000000 true _ A6.out).mono ?_); rintro e w' ⟨rfl, ⟨nd, rfl⟩⟩) | (go_at_call 78; (with_reducible refine (spec_l01In.calls a0_2 1 1001 true _ A8.out).mono ?_); rintro e w' ⟨rfl, ⟨nd, rfl⟩⟩))
       go_meet
       case rel => exact ⟨_, (((l0_4.length : Int) != (wrap64 (a0_2 - 1)))), (t0), H', ⟨t45⟩, ⟨t10⟩, ⟨t7⟩⟩
    ·replace c9 := Bool.eq_false_iff.mpr c9
     subst c9
     have H1 : (spec_BoxOK.j0 k true a0_0 a0_1 a0_2 l0_3 l0_4) = some r := by rw [if_neg (show ¬ (false = true) by decide)] at H; exact H
     clear H
     have H := H1
     clear H1
     have H' := Aside0.mk H
     clear H
     have hcz15_0 : w3.cell? ⟨gb113, 0, none⟩ = some (.string a0_0) := (blk_cell BK113.out 0).trans rfl
     have hcz15_1 : w3.cell? ⟨gb113, 1, none⟩ = some (.int .i64 a0_1) := (blk_cell BK113.out 1).trans rfl
     have hcz15_2 : w3.cell? ⟨gb113, 2, none⟩ = some (.int .i64 a0_2) := (blk_cell BK113.out 2).trans rfl
     have hcz15_3 : w3.cell? ⟨gb113, 3, none⟩ = some (.slice A0_3 l0_3.length c0_3) := (blk_cell BK113.out 3).trans rfl
     have hcz15_4 : w3.cell? ⟨gb113, 4, none⟩ = some (.slice A0_4 l0_4.length c0_4) := (blk_cell BK113.out 4).trans rfl
     have hfz15_0 := blk_frozen BK113.out 0
     have hfz15_1 := blk_frozen BK113.out 1
     have hfz15_2 := blk_frozen BK113.out 2
     have hfz15_3 := blk_frozen BK113.out 3
     have hfz15_4 := blk_frozen BK113.out 4
     go_wp2_with (first | ((with_reducible refine gate_callee (f := 83) rfl ?_); refine goesL_ (some 8) rfl rfl Tryd.func83 (t23) rfl #[.string a0_0] rfl (t2) ?_; (with_reducible refine (spec_NameOK.calls k a0_0 true _ A4.out).mono ?_); rintro e w' ⟨rfl, ⟨nd, rfl⟩⟩; refine ⟨_, rfl, ?_⟩) | (go_at_call 78; (with_reducible refine (spec_l01In.calls a0_1 1 1000000 true _ A6.out).mono ?_); rintro e w' ⟨rfl, ⟨nd, rfl⟩⟩) | (go_at_call 78; (with_reducible refine (spec_l01In.calls a0_2 1 1001 false _ A8.out).mono ?_); rintro e w' ⟨rfl, ⟨nd, rfl⟩⟩))
     go_meet
     case rel => exact ⟨_, (true), (t0), H', ⟨t45⟩, ⟨t10⟩, ⟨t7⟩⟩
   ·replace c7 := Bool.eq_false_iff.mpr c7
    subst c7
    have H1 : (spec_BoxOK.j0 k true a0_0 a0_1 a0_2 l0_3 l0_4) = some r := by rw [if_neg (show ¬ (false = true) by decide)] at H; exact H
    clear H
    have H := H1
    clear H1
    have H' := Aside0.mk H
    clear H
    have hcz16_0 : w3.cell? ⟨gb113, 0, none⟩ = some (.string a0_0) := (blk_cell BK113.out 0).trans rfl
    have hcz16_1 : w3.cell? ⟨gb113, 1, none⟩ = some (.int .i64 a0_1) := (blk_cell BK113.out 1).trans rfl
    have hcz16_2 : w3.cell? ⟨gb113, 2, none⟩ = some (.int .i64 a0_2) := (blk_cell BK113.out 2).trans rfl
    have hcz16_3 : w3.cell? ⟨gb113, 3, none⟩ = some (.slice A0_3 l0_3.length c0_3) := (blk_cell BK113.out 3).trans rfl
    have hcz16_4 : w3.cell? ⟨gb113, 4, none⟩ = some (.slice A0_4 l0_4.length c0_4) := (blk_cell BK113.out 4).trans rfl
    have hfz16_0 := blk_frozen BK113.out 0
    have hfz16_1 := blk_frozen BK113.out 1
    have hfz16_2 := blk_frozen BK113.out 2
    have hfz16_3 := blk_frozen BK113.out 3
    have hfz16_4 := blk_frozen BK113.out 4
    go_wp2_with (first | ((with_reducible refine gate_callee (f := 83) rfl ?_); refine goesL_ (some 8) rfl rfl Tryd.func83 (t23) rfl #[.string a0_0] rfl (t2) ?_; (with_reducible refine (spec_NameOK.calls k a0_0 true _ A4.out).mono ?_); rintro e w' ⟨rfl, ⟨nd, rfl⟩⟩; refine ⟨_, rfl, ?_⟩) | (go_at_call 78; (with_reducible refine (spec_l01In.calls a0_1 1 1000000 false _ A6.out).mono ?_); rintro e w' ⟨rfl, ⟨nd, rfl⟩⟩))
    go_meet
    case rel => exact ⟨_, (true), (t0), H', ⟨t45⟩, ⟨t10⟩, ⟨t7⟩⟩
  ·replace c5 := Bool.eq_false_iff.mpr c5
   subst c5
   have H1 : (spec_BoxOK.j0 k true a0_0 a0_1 a0_2 l0_3 l0_4) = some r := by rw [if_neg (show ¬ (false = true) by decide)] at H; exact H
   clear H
   have H := H1
   clear H1
   have H' := Aside0.mk H
   clear H
   have hcz17_0 : w3.cell? ⟨gb113, 0, none⟩ = some (.string a0_0) := (blk_cell BK113.out 0).trans rfl
   have hcz17_1 : w3.cell? ⟨gb113, 1, none⟩ = some (.int .i64 a0_1) := (blk_cell BK113.out 1).trans rfl
   have hcz17_2 : w3.cell? ⟨gb113, 2, none⟩ = some (.int .i64 a0_2) := (blk_cell BK113.out 2).trans rfl
   have hcz17_3 : w3.cell? ⟨gb113, 3, none⟩ = some (.slice A0_3 l0_3.length c0_3) := (blk_cell BK113.out 3).trans rfl
   have hcz17_4 : w3.cell? ⟨gb113, 4, none⟩ = some (.slice A0_4 l0_4.length c0_4) := (blk_cell BK113.out 4).trans rfl
   have hfz17_0 := blk_frozen BK113.out 0
   have hfz17_1 := blk_frozen BK113.out 1
   have hfz17_2 := blk_frozen BK113.out 2
   have hfz17_3 := blk_frozen BK113.out 3
   have hfz17_4 := blk_frozen BK113.out 4
   go_wp2_with (first | ((with_reducible refine gate_callee (f := 83) rfl ?_); refine goesL_ (some 8) rfl rfl Tryd.func83 (t23) rfl #[.string a0_0] rfl (t2) ?_; (with_reducible refine (spec_NameOK.calls k a0_0 false _ A4.out).mono ?_); rintro e w' ⟨rfl, ⟨nd, rfl⟩⟩; refine ⟨_, rfl, ?_⟩))
   go_meet
   case rel => exact ⟨_, (true), (t0), H', ⟨t45⟩, ⟨t10⟩, ⟨t7⟩⟩
 case rest =>
  clear HC2
  try clear c1
  try clear p2
  try clear c4
  try clear c5
  try clear p6
  try clear c7
  try clear c8
  try clear c9
  try clear c10
  try clear c10b0
  try clear c10b1
  try clear c12
  try clear c12b0
  try clear c12b1
  try clear hcz11_0
  try clear hcz11_1
  try clear hcz11_2
  try clear hcz11_3
  try clear hcz11_4
  try clear hcz13_0
  try clear hcz13_1
  try clear hcz13_2
  try clear hcz13_3
  try clear hcz13_4
  try clear hcz14_0
  try clear hcz14_1
  try clear hcz14_2
  try clear hcz14_3
  try clear hcz14_4
  try clear hcz15_0
  try clear hcz15_1
  try clear hcz15_2
  try clear hcz15_3
  try clear hcz15_4
  try clear hcz16_0
  try clear hcz16_1
  try clear hcz16_2
  try clear hcz16_3
  try clear hcz16_4
  try clear hcz17_0
  try clear hcz17_1
  try clear hcz17_2
  try clear hcz17_3
  try clear hcz17_4
  try clear hfz11_0
  try clear hfz11_1
  try clear hfz11_2
  try clear hfz11_3
  try clear hfz11_4
  try clear hfz13_0
  try clear hfz13_1
  try clear hfz13_2
  try clear hfz13_3
  try clear hfz13_4
  try clear hfz14_0
  try clear hfz14_1
  try clear hfz14_2
  try clear hfz14_3
  try clear hfz14_4
  try clear hfz15_0
  try clear hfz15_1
  try clear hfz15_2
  try clear hfz15_3
  try clear hfz15_4
  try clear hfz16_0
  try clear hfz16_1
  try clear hfz16_2
  try clear hfz16_3
  try clear hfz16_4
  try clear hfz17_0
  try clear hfz17_1
  try clear hfz17_2
  try clear hfz17_3
  try clear hfz17_4
  obtain ⟨kq, x42_1, rfl, HA, HJ1, BK113, HB⟩ := hcut
  cases kq with
  | zero => exact absurd HA.out (by simp [spec_BoxOK.j0])
  | succ kj1 =>
   have H := HA.out
   clear HA
   simp only [spec_BoxOK.j0] at H
   by_cases c18 : x42_1 = true
   ·subst c18
    have H1 : (some false) = some r := by rw [if_pos rfl] at H; exact H
    clear H
    have H := H1
    clear H1
    obtain rfl := Option.some.inj H
    go_wp2
    go_ret
    exact ⟨t4, by repeat (first | (with_reducible first | exact HB.out | apply below_alloc | apply pw_below_drewN | apply below_drew1 | refine below_set ?_ GE113.out) | exact HB.out)⟩
   ·replace c18 := Bool.eq_false_iff.mpr c18
    subst c18
    have H1 : (spec_BoxOK.l0 kj1 0 a0_0 a0_1 a0_2 l0_3 l0_4) = some r := by rw [if_neg (show ¬ (false = true) by decide)] at H; exact H
    clear H
    have H := H1
    clear H1
    have H' := Aside0.mk H
    clear H
    go_wp2
    go_loopg [3] kj1 (fun kq v3 w' => ∃ (x3_2 : Int), v3 = .int .i64 x3_2 ∧ Aside0 (spec_BoxOK.l0 kq x3_2 a0_0 a0_1 a0_2 l0_3 l0_4 = some r) ∧ Aside0 (kq ≤ kj1) ∧ Aside0 (w'.heap[gb113]? = some (.cells #[.string a0_0, .int .i64 a0_1, .int .i64 a0_2, (.slice A0_3 l0_3.length c0_3), (.slice A0_4 l0_4.length c0_4)] 32 (0, 0))) ∧ Aside0 (Below w.heap.size w w'))
    case atStart => exact ⟨(0), (t0), H', ⟨Nat.le_refl _⟩, ⟨t10⟩, ⟨t7⟩⟩
    case round =>
     clear H'
     try clear c1
     try clear p2
     try clear c4
     try clear c5
     try clear p6
     try clear c7
     try clear c8
     try clear c9
     try clear c10
     try clear c10b0
     try clear c10b1
     try clear c12
     try clear c12b0
     try clear c12b1
     try clear c18
     try clear hcz11_0
     try clear hcz11_1
     try clear hcz11_2
     try clear hcz11_3
     try clear hcz11_4
     try clear hcz13_0
     try clear hcz13_1
     try clear hcz13_2
     try clear hcz13_3
     try clear hcz13_4
     try clear hcz14_0
     try clear hcz14_1
     try clear hcz14_2
     try clear hcz14_3
     try clear hcz14_4
     try clear hcz15_0
     try clear hcz15_1
     try clear hcz15_2
     try clear hcz15_3
     try clear hcz15_4
     try clear hcz16_0
     try clear hcz16_1
     try clear hcz16_2
     try clear hcz16_3
     try clear hcz16_4
     try clear hcz17_0
     try clear hcz17_1
     try clear hcz17_2
     try clear hcz17_3
     try clear hcz17_4
     try clear hfz11_0
     try clear hfz11_1
     try clear hfz11_2
     try clear hfz11_3
     try clear hfz11_4
     try clear hfz13_0
     try clear hfz13_1
     try clear hfz13_2
     try clear hfz13_3
     try clear hfz13_4
     try clear hfz14_0
     try clear hfz14_1
     try clear hfz14_2
     try clear hfz14_3
     try clear hfz14_4
     try clear hfz15_0
     try clear hfz15_1
     try clear hfz15_2
     try clear hfz15_3
     try clear hfz15_4
     try clear hfz16_0
     try clear hfz16_1
     try clear hfz16_2
     try clear hfz16_3
     try clear hfz16_4
     try clear hfz17_0
     try clear hfz17_1
     try clear hfz17_2
     try clear hfz17_3
     try clear hfz17_4
     try clear p2
     try clear p6
     obtain ⟨x3_2, rfl, HA, HK2, BK113, HB⟩ := hrel
     cases gk with
     | zero => exact absurd HA.out (by simp [spec_BoxOK.l0])
     | succ k2 =>
      have H := HA.out
      clear HA
      simp only [spec_BoxOK.l0] at H
      by_cases c19 : x3_2 < (l0_3.length : Int)
      ·rw [if_pos c19] at H
       have c19b0 : decide (x3_2 < (l0_3.length : Int)) = true := decide_eq_true c19
       clear c19
       by_cases c20 : 0 ≤ x3_2
       ·rw [if_pos c20] at H
        have c20b0 : decide (0 ≤ x3_2) = true := decide_eq_true c20
        clear c20
        replace H := Option.bind_eq_some_iff.mp H
        obtain ⟨t119, A210, H⟩ := H
        replace H : (if t119 = true then (if x3_2 > 0 then (if 0 ≤ (wrap64 (x3_2 - 1)) then (if (wrap64 (x3_2 - 1)) < (l0_3.length : Int) then (if ((rd_T67 l0_3 (wrap64 (x3_2 - 1))).f0) ≥ ((rd_T67 l0_3 x3_2).f0) then (some false) else ((spec_l01In.f ((rd_T67 l0_3 x3_2).f1) 0 31).bind fun t121 => (if t121 = true then (if (((rd_T67 l0_3 x3_2).f2).size : Int) > 4000 then (some false) else (spec_BoxOK.l0 k2 (wrap64 (x3_2 + 1)) a0_0 a0_1 a0_2 l0_3 l0_4)) else (some false)))) else (none)) else (none)) else ((spec_l01In.f ((rd_T67 l0_3 x3_2).f1) 0 31).bind fun t122 => (if t122 = true then (if (((rd_T67 l0_3 x3_2).f2).size : Int) > 4000 then (some false) else (spec_BoxOK.l0 k2 (wrap64 (x3_2 + 1)) a0_0 a0_1 a0_2 l0_3 l0_4)) else (some false)))) else (some false)) = some r := H
        have A21 := Aside0.mk A210
        clear A210
        by_cases c22 : t119 = true
        ·subst c22
         have H1 : (if x3_2 > 0 then (if 0 ≤ (wrap64 (x3_2 - 1)) then (if (wrap64 (x3_2 - 1)) < (l0_3.length : Int) then (if ((rd_T67 l0_3 (wrap64 (x3_2 - 1))).f0) ≥ ((rd_T67 l0_3 x3_2).f0) then (some false) else ((spec_l01In.f ((rd_T67 l0_3 x3_2).f1) 0 31).bind fun t121 => (if t121 = true then (if (((rd_T67 l0_3 x3_2).f2).size : Int) > 4000 then (some false) else (spec_BoxOK.l0 k2 (wrap64 (x3_2 + 1)) a0_0 a0_1 a0_2 l0_3 l0_4)) else (some false)))) else (none)) else (none)) else ((spec_l01In.f ((rd_T67 l0_3 x3_2).f1) 0 31).bind fun t122 => (if t122 = true then (if (((rd_T67 l0_3 x3_2).f2).size : Int) > 4000 then (some false) else (spec_BoxOK.l0 k2 (wrap64 (x3_2 + 1)) a0_0 a0_1 a0_2 l0_3 l0_4)) else (some false)))) = some r := by rw [if_pos rfl] at H; exact H
         clear H
         have H := H1
         clear H1
         by_cases c23 : x3_2 > 0
         ·rw [if_pos c23] at H
          have c23b0 : decide (0 < x3_2) = true := decide_eq_true c23
          clear c23
          obtain ⟨ji24, hji24⟩ : ∃ j_ : Int, (wrap64 (x3_2 - 1)) = j_ := ⟨_, rfl⟩
          replace H : (if 0 ≤ (ji24) then (if (ji24) < (l0_3.length : Int) then (if ((rd_T67 l0_3 (ji24)).f0) ≥ ((rd_T67 l0_3 x3_2).f0) then (some false) else ((spec_l01In.f ((rd_T67 l0_3 x3_2).f1) 0 31).bind fun t121 => (if t121 = true then (if (((rd_T67 l0_3 x3_2).f2).size : Int) > 4000 then (some false) else (spec_BoxOK.l0 k2 (wrap64 (x3_2 + 1)) a0_0 a0_1 a0_2 l0_3 l0_4)) else (some false)))) else (none)) else (none)) = some r := by first | (rw [hji24] at H; exact H) | (simp only [hji24] at H ⊢; exact H)
          (try rw [hji24] at A21)
          have hji24w : (IntKind.i64.wrap (x3_2 - 1)) = ji24 := (i64_w _).trans hji24
          by_cases c25 : 0 ≤ (ji24)
          ·rw [if_pos c25] at H
           have c25b0 : decide (0 ≤ (ji24)) = true := decide_eq_true c25
           clear c25
           by_cases c26 : (ji24) < (l0_3.length : Int)
           ·rw [if_pos c26] at H
            have c26b0 : decide ((ji24) < (l0_3.length : Int)) = true := decide_eq_true c26
            clear c26
            by_cases c27 : ((rd_T67 l0_3 (ji24)).f0) ≥ ((rd_T67 l0_3 x3_2).f0)
            ·rw [if_pos c27] at H
             have c27b0 : decide (((rd_T67 l0_3 x3_2).f0) ≤ ((rd_T67 l0_3 (ji24)).f0)) = true := decide_eq_true c27
             clear c27
             obtain rfl := Option.some.inj H
             have hcz28_0 : wr.cell? ⟨gb113, 0, none⟩ = some (.string a0_0) := (blk_cell BK113.out 0).trans rfl
             have hcz28_1 : wr.cell? ⟨gb113, 1, none⟩ = some (.int .i64 a0_1) := (blk_cell BK113.out 1).trans rfl
             have hcz28_2 : wr.cell? ⟨gb113, 2, none⟩ = some (.int .i64 a0_2) := (blk_cell BK113.out 2).trans rfl
             have hcz28_3 : wr.cell? ⟨gb113, 3, none⟩ = some (.slice A0_3 l0_3.length c0_3) := (blk_cell BK113.out 3).trans rfl
             have hcz28_4 : wr.cell? ⟨gb113, 4, none⟩ = some (.slice A0_4 l0_4.length c0_4) := (blk_cell BK113.out 4).trans rfl
             have hfz28_0 := blk_frozen BK113.out 0
             have hfz28_1 := blk_frozen BK113.out 1
             have hfz28_2 := blk_frozen BK113.out 2
             have hfz28_3 := blk_frozen BK113.out 3
             have hfz28_4 := blk_frozen BK113.out 4
             have p117 : 0 ≤ (x3_2 : Int) := of_decide_eq_true (t3)
             have q117 : x3_2 < (l0_3.length : Int) := of_decide_eq_true (t3)
             obtain ⟨ad117, e117, hx117_0, hx117_1, hx117_2⟩ := at_T67 HR0_3.out x3_2 p117 q117
             cases e117
             replace hx117_0 := (HB.out.cell (World.block_lt_of_cell? w _ hx117_0)).trans hx117_0
             replace hx117_1 := (HB.out.cell (World.block_lt_of_cell? w _ hx117_1)).trans hx117_1
             replace hx117_2 := (HB.out.cell (World.block_lt_of_cell? w _ hx117_2)).trans hx117_2
             replace p117 := eq_true p117
             replace q117 := eq_true q117
             try go_wp2_with (first | ((with_reducible refine gate_dst (N := 4) rfl ?_); (try (refine gate_guard (by rfl) ?_; dsimp only)); refine box_event ?hg (N := 4) ?hd (cs := #[.int .i64 0, .int .i64 0, .string (⟨#[]⟩ : ByteArray)]) (t := 67) ?hr ?_; (case hd => rfl); (case hg => rfl); (case hr => first | (go_simp; done) | (go_simp; rfl)); intro gb118 hg w29 hbox hb; have n0_ := Aside0.mk (blk_below (g := gb113) (o := .cells #[.string a0_0, .int .i64 a0_1, .int .i64 a0_2, .slice (some ad117) l0_3.length c0_3, .slice A0_4 l0_4.length c0_4] 32 (0, 0)) (t10) hb); have n1_ := Aside0.mk (below_step (t7) hb); have n2_ := Aside0.mk (hbox); have n3_ := Aside0.mk ((by rw [hg]; exact (below_size (t7)) : w.heap.size ≤ gb118)); have n4_ := Aside0.mk ((by rw [hg]; exact (below_size (t7)) : w.heap.size ≤ gb118)); have n5_ := Aside0.mk ((by rw [hg]; exact Nat.ne_of_lt (blk_lt (g := gb113) (o := .cells #[.string a0_0, .int .i64 a0_1, .int .i64 a0_2, .slice (some ad117) l0_3.length c0_3, .slice A0_4 l0_4.length c0_4] 32 (0, 0)) (t10)) : gb113 ≠ gb118)); have n6_ := Aside0.mk ((by rw [hg]; exact Nat.ne_of_gt (blk_lt (g := gb113) (o := .cells #[.string a0_0, .int .i64 a0_1, .int .i64 a0_2, .slice (some ad117) l0_3.length c0_3, .slice A0_4 l0_4.length c0_4] 32 (0, 0)) (t10)) : gb118 ≠ gb113)); clear BK113; clear HB; have BK113 := n0_; have HB := n1_; have BK118 := n2_; have GW118 := n3_; have GE118 := n4_; have NB113_118 := n5_; have NB118_113 := n6_; clear n0_ n1_ n2_ n3_ n4_ n5_ n6_; clear hb hbox hg; have hnb30 := NB118_113.out; have hnc30 := NB113_118.out; have hcz31_0 : w29.cell? ⟨gb118, 0, none⟩ = some (.int .i64 0) := (blk_cell BK118.out 0).trans rfl; have hcz31_1 : w29.cell? ⟨gb118, 1, none⟩ = some (.int .i64 0) := (blk_cell BK118.out 1).trans rfl; have hcz31_2 : w29.cell? ⟨gb118, 2, none⟩ = some (.string (⟨#[]⟩ : ByteArray)) := (blk_cell BK118.out 2).trans rfl; have hfz31_0 := blk_frozen BK118.out 0; have hfz31_1 := blk_frozen BK118.out 1; have hfz31_2 := blk_frozen BK118.out 2))
             have n0_ : Aside0 ((((w29.setCell ⟨gb118, 0, none⟩ (.int .i64 ((rd_T67 l0_3 x3_2).f0))).setCell ⟨gb118, 1, none⟩ (.int .i64 ((rd_T67 l0_3 x3_2).f1))).setCell ⟨gb118, 2, none⟩ (.string ((rd_T67 l0_3 x3_2).f2))).heap[gb113]? = some (.cells #[.string a0_0, .int .i64 a0_1, .int .i64 a0_2, .slice (some ad117) l0_3.length c0_3, .slice A0_4 l0_4.length c0_4] 32 (0, 0))) := ⟨t8⟩
             have n1_ : Aside0 ((((w29.setCell ⟨gb118, 0, none⟩ (.int .i64 ((rd_T67 l0_3 x3_2).f0))).setCell ⟨gb118, 1, none⟩ (.int .i64 ((rd_T67 l0_3 x3_2).f1))).setCell ⟨gb118, 2, none⟩ (.string ((rd_T67 l0_3 x3_2).f2))).heap[gb118]? = some (.cells #[.int .i64 ((rd_T67 l0_3 x3_2).f0), .int .i64 ((rd_T67 l0_3 x3_2).f1), .string ((rd_T67 l0_3 x3_2).f2)] 67 (0, 0))) := ⟨t6⟩
             have n2_ : Aside0 (Below w.heap.size w (((w29.setCell ⟨gb118, 0, none⟩ (.int .i64 ((rd_T67 l0_3 x3_2).f0))).setCell ⟨gb118, 1, none⟩ (.int .i64 ((rd_T67 l0_3 x3_2).f1))).setCell ⟨gb118, 2, none⟩ (.string ((rd_T67 l0_3 x3_2).f2)))) := ⟨t25⟩
             (try clear BK113)
             (try clear BK118)
             (try clear HB)
             generalize (((w29.setCell ⟨gb118, 0, none⟩ (.int .i64 ((rd_T67 l0_3 x3_2).f0))).setCell ⟨gb118, 1, none⟩ (.int .i64 ((rd_T67 l0_3 x3_2).f1))).setCell ⟨gb118, 2, none⟩ (.string ((rd_T67 l0_3 x3_2).f2))) = w32 at n0_ n1_ n2_ ⊢
             have BK113 := n0_
             have BK118 := n1_
             have HB := n2_
             clear n0_ n1_ n2_
             have n0_ := Aside0.mk (blk_drew BK113.out)
             have n1_ := Aside0.mk (blk_drew BK118.out)
             have n2_ := Aside0.mk (below_drew1 HB.out)
             clear BK113
             clear BK118
             clear HB
             have BK113 := n0_
             have BK118 := n1_
             have HB := n2_
             clear n0_ n1_ n2_
             have p120 : 0 ≤ ((ji24) : Int) := of_decide_eq_true (t3)
             have q120 : (ji24) < (l0_3.length : Int) := of_decide_eq_true (t3)
             obtain ⟨ad120, e120, hx120_0, hx120_1, hx120_2⟩ := at_T67 HR0_3.out (ji24) p120 q120
             have hw120_2 := hx120_2
             have hw120_1 := hx120_1
             have hw120_0 := hx120_0
             obtain rfl : ad117 = ad120 := (by injection e120)
             replace hx120_0 := (HB.out.cell (World.block_lt_of_cell? w _ hx120_0)).trans hx120_0
             replace hx120_1 := (HB.out.cell (World.block_lt_of_cell? w _ hx120_1)).trans hx120_1
             replace hx120_2 := (HB.out.cell (World.block_lt_of_cell? w _ hx120_2)).trans hx120_2
             replace p120 := eq_true p120
             replace q120 := eq_true q120
             refine start_ (n := 35) (S := fun w' => w'.cell? ⟨gb118, 0, none⟩ = some (.int .i64 ((rd_T67 l0_3 x3_2).f0)) ∧ w'.cell? ⟨gb118, 1, none⟩ = some (.int .i64 ((rd_T67 l0_3 x3_2).f1)) ∧ w'.cell? ⟨gb118, 2, none⟩ = some (.string ((rd_T67 l0_3 x3_2).f2)) ∧ w'.cell? ⟨gb113, 0, none⟩ = some (.string a0_0) ∧ w'.cell? ⟨gb113, 1, none⟩ = some (.int .i64 a0_1) ∧ w'.cell? ⟨gb113, 2, none⟩ = some (.int .i64 a0_2) ∧ w'.cell? ⟨gb113, 3, none⟩ = some (.slice (some ad117) l0_3.length c0_3) ∧ w'.cell? ⟨gb113, 4, none⟩ = some (.slice A0_4 l0_4.length c0_4) ∧ w'.cell? (ad117.add (((ji24)).toNat * 3)) = some (.int .i64 ((rd_T67 l0_3 (ji24)).f0)) ∧ w'.cell? ⟨(ad117.add (((ji24)).toNat * 3)).block, (ad117.add (((ji24)).toNat * 3)).off + 1, none⟩ = some (.int .i64 ((rd_T67 l0_3 (ji24)).f1)) ∧ w'.cell? ⟨(ad117.add (((ji24)).toNat * 3)).block, (ad117.add (((ji24)).toNat * 3)).off + 2, none⟩ = some (.string ((rd_T67 l0_3 (ji24)).f2))) (ds := []) #[false, false, false, false, false, false, false, false, false, false, false, false, false, false, false, false, false, false, false, false, false, false, false, false, false, false, false, false, false, false, false, false, false, false, false] (t23) rfl rfl ⟨(blk_cell BK118.out 0).trans rfl, (blk_cell BK118.out 1).trans rfl, (blk_cell BK118.out 2).trans rfl, (blk_cell BK113.out 0).trans rfl, (blk_cell BK113.out 1).trans rfl, (blk_cell BK113.out 2).trans rfl, (blk_cell BK113.out 3).trans rfl, (blk_cell BK113.out 4).trans rfl, ((HB.out.cell (World.block_lt_of_cell? w _ hw120_0)).trans hw120_0), ((HB.out.cell (World.block_lt_of_cell? w _ hw120_1)).trans hw120_1), ((HB.out.cell (World.block_lt_of_cell? w _ hw120_2)).trans hw120_2)⟩ (fun hHeld => ?_); refine with_tabW spec_BoxOK.tab7 spec_BoxOK.bits7 (fun HT_ HW_ => ?_)
             generalize w32.drew = w33 at BK113 BK118 HB hx120_0 hx120_1 hx120_2 hHeld ⊢
             refine pA 0 55 ?_
             refine pA 2 57 ?_
             refine tA 1 56 ?_
             refine tA 3 58 ?_
             refine pA 4 59 ?_
             refine oA 5 60 (fun K hK => ?_)
             refine goes_ Tryd.func78 (t23) rfl #[.int .i64 ((rd_T67 l0_3 x3_2).f0), .int .i64 1, .int .i64 (wrap64 (a0_2 - 1))] (by rfl) rfl rfl (t2) ?_
             with_reducible refine (spec_l01In.calls ((rd_T67 l0_3 x3_2).f0) 1 (wrap64 (a0_2 - 1)) true _ A21.out).mono ?_
             rintro e w' ⟨rfl, ⟨nd, rfl⟩⟩
             refine ⟨_, rfl, ?_⟩
             refine hK.out _ _ ⟨(blk_cell BK118.out 0).trans rfl, (blk_cell BK118.out 1).trans rfl, (blk_cell BK118.out 2).trans rfl, (blk_cell BK113.out 0).trans rfl, (blk_cell BK113.out 1).trans rfl, (blk_cell BK113.out 2).trans rfl, (blk_cell BK113.out 3).trans rfl, (blk_cell BK113.out 4).trans rfl, ((HB.out.cell (World.block_lt_of_cell? w _ hw120_0)).trans hw120_0), ((HB.out.cell (World.block_lt_of_cell? w _ hw120_1)).trans hw120_1), ((HB.out.cell (World.block_lt_of_cell? w _ hw120_2)).trans hw120_2)⟩ (fun hHeld => ?_)
             clear hK K
             refine norm_ (a' := ?_) ?_ ?_
             rotate_left
             ·show Act.put _ (some 60) _ = _
              simp only [Act.put, List.setIfInBounds_toArray, List.set_cons_zero, List.set_cons_succ, i64_w, i32_w]
              rfl
             refine pA 6 61 ?_
             refine pA 7 62 ?_
             refine pA 8 63 ?_
             refine pA 9 64 ?_
             refine pA 10 65 ?_
             refine pA 11 66 ?_
             refine pA 13 68 ?_
             refine pA 14 69 ?_
             refine pA 18 73 ?_
             refine tA 12 67 ?_
             refine pA 15 70 ?_
             refine pA 16 71 ?_
             refine tA 17 72 ?_
             refine tA 19 74 ?_
             refine pA 20 75 ?_
             refine pA 21 76 ?_
             refine pA 22 77 ?_
             refine pA 23 78 ?_
             refine pU 24 79 ?_
             refine pU 25 80 ?_
             refine pU 26 81 ?_
             refine pU 27 82 ?_
             refine pA 28 83 ?_
             refine pA 29 84 ?_
             refine pU 30 85 ?_
             refine pU 31 86 ?_
             refine pU 32 87 ?_
             refine pU 33 88 ?_
             refine pA 34 89 ?_
             refine done_ (done_of HT_.out (t23)) ?_
             try go_wp2
             go_ret
             exact ⟨t40, by repeat (first | (with_reducible first | exact HB.out | apply below_alloc | apply pw_below_drewN | apply below_drew1 | refine below_set ?_ GE113.out | refine below_set ?_ GE118.out) | exact HB.out)⟩
            ·rw [if_neg c27] at H
             have c27b0 : decide (((rd_T67 l0_3 x3_2).f0) ≤ ((rd_T67 l0_3 (ji24)).f0)) = false := decide_eq_false c27
             clear c27
             replace H := Option.bind_eq_some_iff.mp H
             obtain ⟨t121, A340, H⟩ := H
             replace H : (if t121 = true then (if (((rd_T67 l0_3 x3_2).f2).size : Int) > 4000 then (some false) else (spec_BoxOK.l0 k2 (wrap64 (x3_2 + 1)) a0_0 a0_1 a0_2 l0_3 l0_4)) else (some false)) = some r := H
             have A34 := Aside0.mk A340
             clear A340
             by_cases c35 : t121 = true
             ·subst c35
              have H1 : (if (((rd_T67 l0_3 x3_2).f2).size : Int) > 4000 then (some false) else (spec_BoxOK.l0 k2 (wrap64 (x3_2 + 1)) a0_0 a0_1 a0_2 l0_3 l0_4)) = some r := by rw [if_pos rfl] at H; exact H
              clear H
              have H := H1
              clear H1
              by_cases c36 : (((rd_T67 l0_3 x3_2).f2).size : Int) > 4000
              ·rw [if_pos c36] at H
               have c36b0 : decide (4000 < (((rd_T67 l0_3 x3_2).f2).size : Int)) = true := decide_eq_true c36
               have c36b1 : decide (4000 < ((rd_T67 l0_3 x3_2).f2).size) = true := decide_eq_true (t70)
               clear c36
               obtain rfl := Option.some.inj H
               have hcz37_0 : wr.cell? ⟨gb113, 0, none⟩ = some (.string a0_0) := (blk_cell BK113.out 0).trans rfl
               have hcz37_1 : wr.cell? ⟨gb113, 1, none⟩ = some (.int .i64 a0_1) := (blk_cell BK113.out 1).trans rfl
               have hcz37_2 : wr.cell? ⟨gb113, 2, none⟩ = some (.int .i64 a0_2) := (blk_cell BK113.out 2).trans rfl
               have hcz37_3 : wr.cell? ⟨gb113, 3, none⟩ = some (.slice A0_3 l0_3.length c0_3) := (blk_cell BK113.out 3).trans rfl
               have hcz37_4 : wr.cell? ⟨gb113, 4, none⟩ = some (.slice A0_4 l0_4.length c0_4) := (blk_cell BK113.out 4).trans rfl
               have hfz37_0 := blk_frozen BK113.out 0
               have hfz37_1 := blk_frozen BK113.out 1
               have hfz37_2 := blk_frozen BK113.out 2
               have hfz37_3 := blk_frozen BK113.out 3
               have hfz37_4 := blk_frozen BK113.out 4
               have p117 : 0 ≤ (x3_2 : Int) := of_decide_eq_true (t3)
               have q117 : x3_2 < (l0_3.length : Int) := of_decide_eq_true (t3)
               obtain ⟨ad117, e117, hx117_0, hx117_1, hx117_2⟩ := at_T67 HR0_3.out x3_2 p117 q117
               cases e117
               replace hx117_0 := (HB.out.cell (World.block_lt_of_cell? w _ hx117_0)).trans hx117_0
               replace hx117_1 := (HB.out.cell (World.block_lt_of_cell? w _ hx117_1)).trans hx117_1
               replace hx117_2 := (HB.out.cell (World.block_lt_of_cell? w _ hx117_2)).trans hx117_2
               replace p117 := eq_true p117
               replace q117 := eq_true q117
               try go_wp2_with (first | ((with_reducible refine gate_dst (N := 4) rfl ?_); (try (refine gate_guard (by rfl) ?_; dsimp only)); refine box_event ?hg (N := 4) ?hd (cs := #[.int .i64 0, .int .i64 0, .string (⟨#[]⟩ : ByteArray)]) (t := 67) ?hr ?_; (case hd => rfl); (case hg => rfl); (case hr => first | (go_simp; done) | (go_simp; rfl)); intro gb118 hg w38 hbox hb; have n0_ := Aside0.mk (blk_below (g := gb113) (o := .cells #[.string a0_0, .int .i64 a0_1, .int .i64 a0_2, .slice (some ad117) l0_3.length c0_3, .slice A0_4 l0_4.length c0_4] 32 (0, 0)) (t10) hb); have n1_ := Aside0.mk (below_step (t7) hb); have n2_ := Aside0.mk (hbox); have n3_ := Aside0.mk ((by rw [hg]; exact (below_size (t7)) : w.heap.size ≤ gb118)); have n4_ := Aside0.mk ((by rw [hg]; exact (below_size (t7)) : w.heap.size ≤ gb118)); have n5_ := Aside0.mk ((by rw [hg]; exact Nat.ne_of_lt (blk_lt (g := gb113) (o := .cells #[.string a0_0, .int .i64 a0_1, .int .i64 a0_2, .slice (some ad117) l0_3.length c0_3, .slice A0_4 l0_4.length c0_4] 32 (0, 0)) (t10)) : gb113 ≠ gb118)); have n6_ := Aside0.mk ((by rw [hg]; exact Nat.ne_of_gt (blk_lt (g := gb113) (o := .cells #[.string a0_0, .int .i64 a0_1, .int .i64 a0_2, .slice (some ad117) l0_3.length c0_3, .slice A0_4 l0_4.length c0_4] 32 (0, 0)) (t10)) : gb118 ≠ gb113)); clear BK113; clear HB; have BK113 := n0_; have HB := n1_; have BK118 := n2_; have GW118 := n3_; have GE118 := n4_; have NB113_118 := n5_; have NB118_113 := n6_; clear n0_ n1_ n2_ n3_ n4_ n5_ n6_; clear hb hbox hg; have hnb39 := NB118_113.out; have hnc39 := NB113_118.out; have hcz40_0 : w38.cell? ⟨gb118, 0, none⟩ = some (.int .i64 0) := (blk_cell BK118.out 0).trans rfl; have hcz40_1 : w38.cell? ⟨gb118, 1, none⟩ = some (.int .i64 0) := (blk_cell BK118.out 1).trans rfl; have hcz40_2 : w38.cell? ⟨gb118, 2, none⟩ = some (.string (⟨#[]⟩ : ByteArray)) := (blk_cell BK118.out 2).trans rfl; have hfz40_0 := blk_frozen BK118.out 0; have hfz40_1 := blk_frozen BK118.out 1; have hfz40_2 := blk_frozen BK118.out 2))
               have n0_ : Aside0 ((((w38.setCell ⟨gb118, 0, none⟩ (.int .i64 ((rd_T67 l0_3 x3_2).f0))).setCell ⟨gb118, 1, none⟩ (.int .i64 ((rd_T67 l0_3 x3_2).f1))).setCell ⟨gb118, 2, none⟩ (.string ((rd_T67 l0_3 x3_2).f2))).heap[gb113]? = some (.cells #[.string a0_0, .int .i64 a0_1, .int .i64 a0_2, .slice (some ad117) l0_3.length c0_3, .slice A0_4 l0_4.length c0_4] 32 (0, 0))) := ⟨t8⟩
               have n1_ : Aside0 ((((w38.setCell ⟨gb118, 0, none⟩ (.int .i64 ((rd_T67 l0_3 x3_2).f0))).setCell ⟨gb118, 1, none⟩ (.int .i64 ((rd_T67 l0_3 x3_2).f1))).setCell ⟨gb118, 2, none⟩ (.string ((rd_T67 l0_3 x3_2).f2))).heap[gb118]? = some (.cells #[.int .i64 ((rd_T67 l0_3 x3_2).f0), .int .i64 ((rd_T67 l0_3 x3_2).f1), .string ((rd_T67 l0_3 x3_2).f2)] 67 (0, 0))) := ⟨t6⟩
               have n2_ : Aside0 (Below w.heap.size w (((w38.setCell ⟨gb118, 0, none⟩ (.int .i64 ((rd_T67 l0_3 x3_2).f0))).setCell ⟨gb118, 1, none⟩ (.int .i64 ((rd_T67 l0_3 x3_2).f1))).setCell ⟨gb118, 2, none⟩ (.string ((rd_T67 l0_3 x3_2).f2)))) := ⟨t25⟩
               (try clear BK113)
               (try clear BK118)
               (try clear HB)
               generalize (((w38.setCell ⟨gb118, 0, none⟩ (.int .i64 ((rd_T67 l0_3 x3_2).f0))).setCell ⟨gb118, 1, none⟩ (.int .i64 ((rd_T67 l0_3 x3_2).f1))).setCell ⟨gb118, 2, none⟩ (.string ((rd_T67 l0_3 x3_2).f2))) = w41 at n0_ n1_ n2_ ⊢
               have BK113 := n0_
               have BK118 := n1_
               have HB := n2_
               clear n0_ n1_ n2_
               have n0_ := Aside0.mk (blk_drew BK113.out)
               have n1_ := Aside0.mk (blk_drew BK118.out)
               have n2_ := Aside0.mk (below_drew1 HB.out)
               clear BK113
               clear BK118
               clear HB
               have BK113 := n0_
               have BK118 := n1_
               have HB := n2_
               clear n0_ n1_ n2_
               have p120 : 0 ≤ ((ji24) : Int) := of_decide_eq_true (t3)
               have q120 : (ji24) < (l0_3.length : Int) := of_decide_eq_true (t3)
               obtain ⟨ad120, e120, hx120_0, hx120_1, hx120_2⟩ := at_T67 HR0_3.out (ji24) p120 q120
               have hw120_2 := hx120_2
               have hw120_1 := hx120_1
               have hw120_0 := hx120_0
               obtain rfl : ad117 = ad120 := (by injection e120)
               replace hx120_0 := (HB.out.cell (World.block_lt_of_cell? w _ hx120_0)).trans hx120_0
               replace hx120_1 := (HB.out.cell (World.block_lt_of_cell? w _ hx120_1)).trans hx120_1
               replace hx120_2 := (HB.out.cell (World.block_lt_of_cell? w _ hx120_2)).trans hx120_2
               replace p120 := eq_true p120
               replace q120 := eq_true q120
               refine start_ (n := 35) (S := fun w' => w'.cell? ⟨gb118, 0, none⟩ = some (.int .i64 ((rd_T67 l0_3 x3_2).f0)) ∧ w'.cell? ⟨gb118, 1, none⟩ = some (.int .i64 ((rd_T67 l0_3 x3_2).f1)) ∧ w'.cell? ⟨gb118, 2, none⟩ = some (.string ((rd_T67 l0_3 x3_2).f2)) ∧ w'.cell? ⟨gb113, 0, none⟩ = some (.string a0_0) ∧ w'.cell? ⟨gb113, 1, none⟩ = some (.int .i64 a0_1) ∧ w'.cell? ⟨gb113, 2, none⟩ = some (.int .i64 a0_2) ∧ w'.cell? ⟨gb113, 3, none⟩ = some (.slice (some ad117) l0_3.length c0_3) ∧ w'.cell? ⟨gb113, 4, none⟩ = some (.slice A0_4 l0_4.length c0_4) ∧ w'.cell? (ad117.add (((ji24)).toNat * 3)) = some (.int .i64 ((rd_T67 l0_3 (ji24)).f0)) ∧ w'.cell? ⟨(ad117.add (((ji24)).toNat * 3)).block, (ad117.add (((ji24)).toNat * 3)).off + 1, none⟩ = some (.int .i64 ((rd_T67 l0_3 (ji24)).f1)) ∧ w'.cell? ⟨(ad117.add (((ji24)).toNat * 3)).block, (ad117.add (((ji24)).toNat * 3)).off + 2, none⟩ = some (.string ((rd_T67 l0_3 (ji24)).f2))) (ds := []) #[false, false, false, false, false, false, false, false, false, false, false, false, false, false, false, false, false, false, false, false, false, false, false, false, false, false, false, false, false, false, false, false, false, false, false] (t23) rfl rfl ⟨(blk_cell BK118.out 0).trans rfl, (blk_cell BK118.out 1).trans rfl, (blk_cell BK118.out 2).trans rfl, (blk_cell BK113.out 0).trans rfl, (blk_cell BK113.out 1).trans rfl, (blk_cell BK113.out 2).trans rfl, (blk_cell BK113.out 3).trans rfl, (blk_cell BK113.out 4).trans rfl, ((HB.out.cell (World.block_lt_of_cell? w _ hw120_0)).trans hw120_0), ((HB.out.cell (World.block_lt_of_cell? w _ hw120_1)).trans hw120_1), ((HB.out.cell (World.block_lt_of_cell? w _ hw120_2)).trans hw120_2)⟩ (fun hHeld => ?_); refine with_tabW spec_BoxOK.tab7 spec_BoxOK.bits7 (fun HT_ HW_ => ?_)
               generalize w41.drew = w42 at BK113 BK118 HB hx120_0 hx120_1 hx120_2 hHeld ⊢
               refine pA 0 55 ?_
               refine pA 2 57 ?_
               refine tA 1 56 ?_
               refine tA 3 58 ?_
               refine pA 4 59 ?_
               refine oA 5 60 (fun K hK => ?_)
               refine goes_ Tryd.func78 (t23) rfl #[.int .i64 ((rd_T67 l0_3 x3_2).f0), .int .i64 1, .int .i64 (wrap64 (a0_2 - 1))] (by rfl) rfl rfl (t2) ?_
               with_reducible refine (spec_l01In.calls ((rd_T67 l0_3 x3_2).f0) 1 (wrap64 (a0_2 - 1)) true _ A21.out).mono ?_
               rintro e w' ⟨rfl, ⟨nd, rfl⟩⟩
               refine ⟨_, rfl, ?_⟩
               refine hK.out _ _ ⟨(blk_cell BK118.out 0).trans rfl, (blk_cell BK118.out 1).trans rfl, (blk_cell BK118.out 2).trans rfl, (blk_cell BK113.out 0).trans rfl, (blk_cell BK113.out 1).trans rfl, (blk_cell BK113.out 2).trans rfl, (blk_cell BK113.out 3).trans rfl, (blk_cell BK113.out 4).trans rfl, ((HB.out.cell (World.block_lt_of_cell? w _ hw120_0)).trans hw120_0), ((HB.out.cell (World.block_lt_of_cell? w _ hw120_1)).trans hw120_1), ((HB.out.cell (World.block_lt_of_cell? w _ hw120_2)).trans hw120_2)⟩ (fun hHeld => ?_)
               clear hK K
               refine norm_ (a' := ?_) ?_ ?_
               rotate_left
               ·show Act.put _ (some 60) _ = _
                simp only [Act.put, List.setIfInBounds_toArray, List.set_cons_zero, List.set_cons_succ, i64_w, i32_w]
                rfl
               refine pA 6 61 ?_
               refine pA 7 62 ?_
               refine pA 8 63 ?_
               refine pA 9 64 ?_
               refine pA 10 65 ?_
               refine pA 11 66 ?_
               refine pA 13 68 ?_
               refine pA 14 69 ?_
               refine pA 18 73 ?_
               refine tA 12 67 ?_
               refine pA 15 70 ?_
               refine pA 16 71 ?_
               refine tA 17 72 ?_
               refine tA 19 74 ?_
               refine pA 20 75 ?_
               refine pA 21 76 ?_
               refine pA 22 77 ?_
               refine pA 23 78 ?_
               refine pA 24 79 ?_
               refine tA 25 80 ?_
               refine oA 26 81 (fun K hK => ?_)
               refine goes_ Tryd.func78 (t23) rfl #[.int .i64 ((rd_T67 l0_3 x3_2).f1), .int .i64 0, .int .i64 31] (by rfl) rfl rfl (t2) ?_
               with_reducible refine (spec_l01In.calls ((rd_T67 l0_3 x3_2).f1) 0 31 true _ A34.out).mono ?_
               rintro e w' ⟨rfl, ⟨nd, rfl⟩⟩
               refine ⟨_, rfl, ?_⟩
               refine hK.out _ _ ⟨(blk_cell BK118.out 0).trans rfl, (blk_cell BK118.out 1).trans rfl, (blk_cell BK118.out 2).trans rfl, (blk_cell BK113.out 0).trans rfl, (blk_cell BK113.out 1).trans rfl, (blk_cell BK113.out 2).trans rfl, (blk_cell BK113.out 3).trans rfl, (blk_cell BK113.out 4).trans rfl, ((HB.out.cell (World.block_lt_of_cell? w _ hw120_0)).trans hw120_0), ((HB.out.cell (World.block_lt_of_cell? w _ hw120_1)).trans hw120_1), ((HB.out.cell (World.block_lt_of_cell? w _ hw120_2)).trans hw120_2)⟩ (fun hHeld => ?_)
               clear hK K
               refine norm_ (a' := ?_) ?_ ?_
               rotate_left
               ·show Act.put _ (some 81) _ = _
                simp only [Act.put, List.setIfInBounds_toArray, List.set_cons_zero, List.set_cons_succ, i64_w, i32_w]
                rfl
               refine pA 27 82 ?_
               refine pA 28 83 ?_
               refine pA 29 84 ?_
               refine pA 30 85 ?_
               refine tA 31 86 ?_
               refine pA 32 87 ?_
               refine pA 33 88 ?_
               refine pA 34 89 ?_
               refine done_ (done_of HT_.out (t23)) ?_
               try go_wp2
               go_ret
               exact ⟨t40, by repeat (first | (with_reducible first | exact HB.out | apply below_alloc | apply pw_below_drewN | apply below_drew1 | refine below_set ?_ GE113.out | refine below_set ?_ GE118.out) | exact HB.out)⟩
              ·rw [if_neg c36] at H
               have c36b0 : decide (4000 < (((rd_T67 l0_3 x3_2).f2).size : Int)) = false := decide_eq_false c36
               have c36b1 : decide (4000 < ((rd_T67 l0_3 x3_2).f2).size) = false := decide_eq_false (t70)
               clear c36
               have H' := Aside0.mk H
               clear H
               have hcz43_0 : wr.cell? ⟨gb113, 0, none⟩ = some (.string a0_0) := (blk_cell BK113.out 0).trans rfl
               have hcz43_1 : wr.cell? ⟨gb113, 1, none⟩ = some (.int .i64 a0_1) := (blk_cell BK113.out 1).trans rfl
               have hcz43_2 : wr.cell? ⟨gb113, 2, none⟩ = some (.int .i64 a0_2) := (blk_cell BK113.out 2).trans rfl
               have hcz43_3 : wr.cell? ⟨gb113, 3, none⟩ = some (.slice A0_3 l0_3.length c0_3) := (blk_cell BK113.out 3).trans rfl
               have hcz43_4 : wr.cell? ⟨gb113, 4, none⟩ = some (.slice A0_4 l0_4.length c0_4) := (blk_cell BK113.out 4).trans rfl
               have hfz43_0 := blk_frozen BK113.out 0
               have hfz43_1 := blk_frozen BK113.out 1
               have hfz43_2 := blk_frozen BK113.out 2
               have hfz43_3 := blk_frozen BK113.out 3
               have hfz43_4 := blk_frozen BK113.out 4
               have p117 : 0 ≤ (x3_2 : Int) := of_decide_eq_true (t3)
               have q117 : x3_2 < (l0_3.length : Int) := of_decide_eq_true (t3)
               obtain ⟨ad117, e117, hx117_0, hx117_1, hx117_2⟩ := at_T67 HR0_3.out x3_2 p117 q117
               cases e117
               replace hx117_0 := (HB.out.cell (World.block_lt_of_cell? w _ hx117_0)).trans hx117_0
               replace hx117_1 := (HB.out.cell (World.block_lt_of_cell? w _ hx117_1)).trans hx117_1
               replace hx117_2 := (HB.out.cell (World.block_lt_of_cell? w _ hx117_2)).trans hx117_2
               replace p117 := eq_true p117
               replace q117 := eq_true q117
               try go_wp2_with (first | ((with_reducible refine gate_dst (N := 4) rfl ?_); (try (refine gate_guard (by rfl) ?_; dsimp only)); refine box_event ?hg (N := 4) ?hd (cs := #[.int .i64 0, .int .i64 0, .string (⟨#[]⟩ : ByteArray)]) (t := 67) ?hr ?_; (case hd => rfl); (case hg => rfl); (case hr => first | (go_simp; done) | (go_simp; rfl)); intro gb118 hg w44 hbox hb; have n0_ := Aside0.mk (blk_below (g := gb113) (o := .cells #[.string a0_0, .int .i64 a0_1, .int .i64 a0_2, .slice (some ad117) l0_3.length c0_3, .slice A0_4 l0_4.length c0_4] 32 (0, 0)) (t10) hb); have n1_ := Aside0.mk (below_step (t7) hb); have n2_ := Aside0.mk (hbox); have n3_ := Aside0.mk ((by rw [hg]; exact (below_size (t7)) : w.heap.size ≤ gb118)); have n4_ := Aside0.mk ((by rw [hg]; exact (below_size (t7)) : w.heap.size ≤ gb118)); have n5_ := Aside0.mk ((by rw [hg]; exact Nat.ne_of_lt (blk_lt (g := gb113) (o := .cells #[.string a0_0, .int .i64 a0_1, .int .i64 a0_2, .slice (some ad117) l0_3.length c0_3, .slice A0_4 l0_4.length c0_4] 32 (0, 0)) (t10)) : gb113 ≠ gb118)); have n6_ := Aside0.mk ((by rw [hg]; exact Nat.ne_of_gt (blk_lt (g := gb113) (o := .cells #[.string a0_0, .int .i64 a0_1, .int .i64 a0_2, .slice (some ad117) l0_3.length c0_3, .slice A0_4 l0_4.length c0_4] 32 (0, 0)) (t10)) : gb118 ≠ gb113)); clear BK113; clear HB; have BK113 := n0_; have HB := n1_; have BK118 := n2_; have GW118 := n3_; have GE118 := n4_; have NB113_118 := n5_; have NB118_113 := n6_; clear n0_ n1_ n2_ n3_ n4_ n5_ n6_; clear hb hbox hg; have hnb45 := NB118_113.out; have hnc45 := NB113_118.out; have hcz46_0 : w44.cell? ⟨gb118, 0, none⟩ = some (.int .i64 0) := (blk_cell BK118.out 0).trans rfl; have hcz46_1 : w44.cell? ⟨gb118, 1, none⟩ = some (.int .i64 0) := (blk_cell BK118.out 1).trans rfl; have hcz46_2 : w44.cell? ⟨gb118, 2, none⟩ = some (.string (⟨#[]⟩ : ByteArray)) := (blk_cell BK118.out 2).trans rfl; have hfz46_0 := blk_frozen BK118.out 0; have hfz46_1 := blk_frozen BK118.out 1; have hfz46_2 := blk_frozen BK118.out 2))
               have n0_ : Aside0 ((((w44.setCell ⟨gb118, 0, none⟩ (.int .i64 ((rd_T67 l0_3 x3_2).f0))).setCell ⟨gb118, 1, none⟩ (.int .i64 ((rd_T67 l0_3 x3_2).f1))).setCell ⟨gb118, 2, none⟩ (.string ((rd_T67 l0_3 x3_2).f2))).heap[gb113]? = some (.cells #[.string a0_0, .int .i64 a0_1, .int .i64 a0_2, .slice (some ad117) l0_3.length c0_3, .slice A0_4 l0_4.length c0_4] 32 (0, 0))) := ⟨t8⟩
               have n1_ : Aside0 ((((w44.setCell ⟨gb118, 0, none⟩ (.int .i64 ((rd_T67 l0_3 x3_2).f0))).setCell ⟨gb118, 1, none⟩ (.int .i64 ((rd_T67 l0_3 x3_2).f1))).setCell ⟨gb118, 2, none⟩ (.string ((rd_T67 l0_3 x3_2).f2))).heap[gb118]? = some (.cells #[.int .i64 ((rd_T67 l0_3 x3_2).f0), .int .i64 ((rd_T67 l0_3 x3_2).f1), .string ((rd_T67 l0_3 x3_2).f2)] 67 (0, 0))) := ⟨t6⟩
               have n2_ : Aside0 (Below w.heap.size w (((w44.setCell ⟨gb118, 0, none⟩ (.int .i64 ((rd_T67 l0_3 x3_2).f0))).setCell ⟨gb118, 1, none⟩ (.int .i64 ((rd_T67 l0_3 x3_2).f1))).setCell ⟨gb118, 2, none⟩ (.string ((rd_T67 l0_3 x3_2).f2)))) := ⟨t25⟩
               (try clear BK113)
               (try clear BK118)
               (try clear HB)
               generalize (((w44.setCell ⟨gb118, 0, none⟩ (.int .i64 ((rd_T67 l0_3 x3_2).f0))).setCell ⟨gb118, 1, none⟩ (.int .i64 ((rd_T67 l0_3 x3_2).f1))).setCell ⟨gb118, 2, none⟩ (.string ((rd_T67 l0_3 x3_2).f2))) = w47 at n0_ n1_ n2_ ⊢
               have BK113 := n0_
               have BK118 := n1_
               have HB := n2_
               clear n0_ n1_ n2_
               have n0_ := Aside0.mk (blk_drew BK113.out)
               have n1_ := Aside0.mk (blk_drew BK118.out)
               have n2_ := Aside0.mk (below_drew1 HB.out)
               clear BK113
               clear BK118
               clear HB
               have BK113 := n0_
               have BK118 := n1_
               have HB := n2_
               clear n0_ n1_ n2_
               have p120 : 0 ≤ ((ji24) : Int) := of_decide_eq_true (t3)
               have q120 : (ji24) < (l0_3.length : Int) := of_decide_eq_true (t3)
               obtain ⟨ad120, e120, hx120_0, hx120_1, hx120_2⟩ := at_T67 HR0_3.out (ji24) p120 q120
               have hw120_2 := hx120_2
               have hw120_1 := hx120_1
               have hw120_0 := hx120_0
               obtain rfl : ad117 = ad120 := (by injection e120)
               replace hx120_0 := (HB.out.cell (World.block_lt_of_cell? w _ hx120_0)).trans hx120_0
               replace hx120_1 := (HB.out.cell (World.block_lt_of_cell? w _ hx120_1)).trans hx120_1
               replace hx120_2 := (HB.out.cell (World.block_lt_of_cell? w _ hx120_2)).trans hx120_2
               replace p120 := eq_true p120
               replace q120 := eq_true q120
               refine start_ (n := 35) (S := fun w' => w'.cell? ⟨gb118, 0, none⟩ = some (.int .i64 ((rd_T67 l0_3 x3_2).f0)) ∧ w'.cell? ⟨gb118, 1, none⟩ = some (.int .i64 ((rd_T67 l0_3 x3_2).f1)) ∧ w'.cell? ⟨gb118, 2, none⟩ = some (.string ((rd_T67 l0_3 x3_2).f2)) ∧ w'.cell? ⟨gb113, 0, none⟩ = some (.string a0_0) ∧ w'.cell? ⟨gb113, 1, none⟩ = some (.int .i64 a0_1) ∧ w'.cell? ⟨gb113, 2, none⟩ = some (.int .i64 a0_2) ∧ w'.cell? ⟨gb113, 3, none⟩ = some (.slice (some ad117) l0_3.length c0_3) ∧ w'.cell? ⟨gb113, 4, none⟩ = some (.slice A0_4 l0_4.length c0_4) ∧ w'.cell? (ad117.add (((ji24)).toNat * 3)) = some (.int .i64 ((rd_T67 l0_3 (ji24)).f0)) ∧ w'.cell? ⟨(ad117.add (((ji24)).toNat * 3)).block, (ad117.add (((ji24)).toNat * 3)).off + 1, none⟩ = some (.int .i64 ((rd_T67 l0_3 (ji24)).f1)) ∧ w'.cell? ⟨(ad117.add (((ji24)).toNat * 3)).block, (ad117.add (((ji24)).toNat * 3)).off + 2, none⟩ = some (.string ((rd_T67 l0_3 (ji24)).f2))) (ds := []) #[false, false, false, false, false, false, false, false, false, false, false, false, false, false, false, false, false, false, false, false, false, false, false, false, false, false, false, false, false, false, false, false, false, false, false] (t23) rfl rfl ⟨(blk_cell BK118.out 0).trans rfl, (blk_cell BK118.out 1).trans rfl, (blk_cell BK118.out 2).trans rfl, (blk_cell BK113.out 0).trans rfl, (blk_cell BK113.out 1).trans rfl, (blk_cell BK113.out 2).trans rfl, (blk_cell BK113.out 3).trans rfl, (blk_cell BK113.out 4).trans rfl, ((HB.out.cell (World.block_lt_of_cell? w _ hw120_0)).trans hw120_0), ((HB.out.cell (World.block_lt_of_cell? w _ hw120_1)).trans hw120_1), ((HB.out.cell (World.block_lt_of_cell? w _ hw120_2)).trans hw120_2)⟩ (fun hHeld => ?_); refine with_tabW spec_BoxOK.tab7 spec_BoxOK.bits7 (fun HT_ HW_ => ?_)
               generalize w47.drew = w48 at BK113 BK118 HB hx120_0 hx120_1 hx120_2 hHeld ⊢
               refine pA 0 55 ?_
               refine pA 2 57 ?_
               refine tA 1 56 ?_
               refine tA 3 58 ?_
               refine pA 4 59 ?_
               refine oA 5 60 (fun K hK => ?_)
               refine goes_ Tryd.func78 (t23) rfl #[.int .i64 ((rd_T67 l0_3 x3_2).f0), .int .i64 1, .int .i64 (wrap64 (a0_2 - 1))] (by rfl) rfl rfl (t2) ?_
               with_reducible refine (spec_l01In.calls ((rd_T67 l0_3 x3_2).f0) 1 (wrap64 (a0_2 - 1)) true _ A21.out).mono ?_
               rintro e w' ⟨rfl, ⟨nd, rfl⟩⟩
               refine ⟨_, rfl, ?_⟩
               refine hK.out _ _ ⟨(blk_cell BK118.out 0).trans rfl, (blk_cell BK118.out 1).trans rfl, (blk_cell BK118.out 2).trans rfl, (blk_cell BK113.out 0).trans rfl, (blk_cell BK113.out 1).trans rfl, (blk_cell BK113.out 2).trans rfl, (blk_cell BK113.out 3).trans rfl, (blk_cell BK113.out 4).trans rfl, ((HB.out.cell (World.block_lt_of_cell? w _ hw120_0)).trans hw120_0), ((HB.out.cell (World.block_lt_of_cell? w _ hw120_1)).trans hw120_1), ((HB.out.cell (World.block_lt_of_cell? w _ hw120_2)).trans hw120_2)⟩ (fun hHeld => ?_)
               clear hK K
               refine norm_ (a' := ?_) ?_ ?_
               rotate_left
               ·show Act.put _ (some 60) _ = _
                simp only [Act.put, List.setIfInBounds_toArray, List.set_cons_zero, List.set_cons_succ, i64_w, i32_w]
                rfl
               refine pA 6 61 ?_
               refine pA 7 62 ?_
               refine pA 8 63 ?_
               refine pA 9 64 ?_
               refine pA 10 65 ?_
               refine pA 11 66 ?_
               refine pA 13 68 ?_
               refine pA 14 69 ?_
               refine pA 18 73 ?_
               refine tA 12 67 ?_
               refine pA 15 70 ?_
               refine pA 16 71 ?_
               refine tA 17 72 ?_
               refine tA 19 74 ?_
               refine pA 20 75 ?_
               refine pA 21 76 ?_
               refine pA 22 77 ?_
               refine pA 23 78 ?_
               refine pA 24 79 ?_
               refine tA 25 80 ?_
               refine oA 26 81 (fun K hK => ?_)
               refine goes_ Tryd.func78 (t23) rfl #[.int .i64 ((rd_T67 l0_3 x3_2).f1), .int .i64 0, .int .i64 31] (by rfl) rfl rfl (t2) ?_
               with_reducible refine (spec_l01In.calls ((rd_T67 l0_3 x3_2).f1) 0 31 true _ A34.out).mono ?_
               rintro e w' ⟨rfl, ⟨nd, rfl⟩⟩
               refine ⟨_, rfl, ?_⟩
               refine hK.out _ _ ⟨(blk_cell BK118.out 0).trans rfl, (blk_cell BK118.out 1).trans rfl, (blk_cell BK118.out 2).trans rfl, (blk_cell BK113.out 0).trans rfl, (blk_cell BK113.out 1).trans rfl, (blk_cell BK113.out 2).trans rfl, (blk_cell BK113.out 3).trans rfl, (blk_cell BK113.out 4).trans rfl, ((HB.out.cell (World.block_lt_of_cell? w _ hw120_0)).trans hw120_0), ((HB.out.cell (World.block_lt_of_cell? w _ hw120_1)).trans hw120_1), ((HB.out.cell (World.block_lt_of_cell? w _ hw120_2)).trans hw120_2)⟩ (fun hHeld => ?_)
               clear hK K
               refine norm_ (a' := ?_) ?_ ?_
               rotate_left
               ·show Act.put _ (some 81) _ = _
                simp only [Act.put, List.setIfInBounds_toArray, List.set_cons_zero, List.set_cons_succ, i64_w, i32_w]
                rfl
               refine pA 27 82 ?_
               refine pA 28 83 ?_
               refine pA 29 84 ?_
               refine pA 30 85 ?_
               refine tA 31 86 ?_
               refine pA 32 87 ?_
               refine pA 33 88 ?_
               refine pA 34 89 ?_
               refine done_ (done_of HT_.out (t23)) ?_
               try go_wp2
               go_roundg k2
               case measure => have := HJ1.out; have := HK2.out; omega
               case rel => exact ⟨(wrap64 (x3_2 + 1)), (t0), H', ⟨t89⟩, ⟨t10⟩, ⟨t25⟩⟩
             ·replace c35 := Bool.eq_false_iff.mpr c35
              subst c35
              have H1 : (some false) = some r := by rw [if_neg (show ¬ (false = true) by decide)] at H; exact H
              clear H
              have H := H1
              clear H1
              obtain rfl := Option.some.inj H
              have hcz49_0 : wr.cell? ⟨gb113, 0, none⟩ = some (.string a0_0) := (blk_cell BK113.out 0).trans rfl
              have hcz49_1 : wr.cell? ⟨gb113, 1, none⟩ = some (.int .i64 a0_1) := (blk_cell BK113.out 1).trans rfl
              have hcz49_2 : wr.cell? ⟨gb113, 2, none⟩ = some (.int .i64 a0_2) := (blk_cell BK113.out 2).trans rfl
              have hcz49_3 : wr.cell? ⟨gb113, 3, none⟩ = some (.slice A0_3 l0_3.length c0_3) := (blk_cell BK113.out 3).trans rfl
              have hcz49_4 : wr.cell? ⟨gb113, 4, none⟩ = some (.slice A0_4 l0_4.length c0_4) := (blk_cell BK113.out 4).trans rfl
              have hfz49_0 := blk_frozen BK113.out 0
              have hfz49_1 := blk_frozen BK113.out 1
              have hfz49_2 := blk_frozen BK113.out 2
              have hfz49_3 := blk_frozen BK113.out 3
              have hfz49_4 := blk_frozen BK113.out 4
              have p117 : 0 ≤ (x3_2 : Int) := of_decide_eq_true (t3)
              have q117 : x3_2 < (l0_3.length : Int) := of_decide_eq_true (t3)
              obtain ⟨ad117, e117, hx117_0, hx117_1, hx117_2⟩ := at_T67 HR0_3.out x3_2 p117 q117
              cases e117
              replace hx117_0 := (HB.out.cell (World.block_lt_of_cell? w _ hx117_0)).trans hx117_0
              replace hx117_1 := (HB.out.cell (World.block_lt_of_cell? w _ hx117_1)).trans hx117_1
              replace hx117_2 := (HB.out.cell (World.block_lt_of_cell? w _ hx117_2)).trans hx117_2
              replace p117 := eq_true p117
              replace q117 := eq_true q117
              try go_wp2_with (first | ((with_reducible refine gate_dst (N := 4) rfl ?_); (try (refine gate_guard (by rfl) ?_; dsimp only)); refine box_event ?hg (N := 4) ?hd (cs := #[.int .i64 0, .int .i64 0, .string (⟨#[]⟩ : ByteArray)]) (t := 67) ?hr ?_; (case hd => rfl); (case hg => rfl); (case hr => first | (go_simp; done) | (go_simp; rfl)); intro gb118 hg w50 hbox hb; have n0_ := Aside0.mk (blk_below (g := gb113) (o := .cells #[.string a0_0, .int .i64 a0_1, .int .i64 a0_2, .slice (some ad117) l0_3.length c0_3, .slice A0_4 l0_4.length c0_4] 32 (0, 0)) (t10) hb); have n1_ := Aside0.mk (below_step (t7) hb); have n2_ := Aside0.mk (hbox); have n3_ := Aside0.mk ((by rw [hg]; exact (below_size (t7)) : w.heap.size ≤ gb118)); have n4_ := Aside0.mk ((by rw [hg]; exact (below_size (t7)) : w.heap.size ≤ gb118)); have n5_ := Aside0.mk ((by rw [hg]; exact Nat.ne_of_lt (blk_lt (g := gb113) (o := .cells #[.string a0_0, .int .i64 a0_1, .int .i64 a0_2, .slice (some ad117) l0_3.length c0_3, .slice A0_4 l0_4.length c0_4] 32 (0, 0)) (t10)) : gb113 ≠ gb118)); have n6_ := Aside0.mk ((by rw [hg]; exact Nat.ne_of_gt (blk_lt (g := gb113) (o := .cells #[.string a0_0, .int .i64 a0_1, .int .i64 a0_2, .slice (some ad117) l0_3.length c0_3, .slice A0_4 l0_4.length c0_4] 32 (0, 0)) (t10)) : gb118 ≠ gb113)); clear BK113; clear HB; have BK113 := n0_; have HB := n1_; have BK118 := n2_; have GW118 := n3_; have GE118 := n4_; have NB113_118 := n5_; have NB118_113 := n6_; clear n0_ n1_ n2_ n3_ n4_ n5_ n6_; clear hb hbox hg; have hnb51 := NB118_113.out; have hnc51 := NB113_118.out; have hcz52_0 : w50.cell? ⟨gb118, 0, none⟩ = some (.int .i64 0) := (blk_cell BK118.out 0).trans rfl; have hcz52_1 : w50.cell? ⟨gb118, 1, none⟩ = some (.int .i64 0) := (blk_cell BK118.out 1).trans rfl; have hcz52_2 : w50.cell? ⟨gb118, 2, none⟩ = some (.string (⟨#[]⟩ : ByteArray)) := (blk_cell BK118.out 2).trans rfl; have hfz52_0 := blk_frozen BK118.out 0; have hfz52_1 := blk_frozen BK118.out 1; have hfz52_2 := blk_frozen BK118.out 2))
              have n0_ : Aside0 ((((w50.setCell ⟨gb118, 0, none⟩ (.int .i64 ((rd_T67 l0_3 x3_2).f0))).setCell ⟨gb118, 1, none⟩ (.int .i64 ((rd_T67 l0_3 x3_2).f1))).setCell ⟨gb118, 2, none⟩ (.string ((rd_T67 l0_3 x3_2).f2))).heap[gb113]? = some (.cells #[.string a0_0, .int .i64 a0_1, .int .i64 a0_2, .slice (some ad117) l0_3.length c0_3, .slice A0_4 l0_4.length c0_4] 32 (0, 0))) := ⟨t8⟩
              have n1_ : Aside0 ((((w50.setCell ⟨gb118, 0, none⟩ (.int .i64 ((rd_T67 l0_3 x3_2).f0))).setCell ⟨gb118, 1, none⟩ (.int .i64 ((rd_T67 l0_3 x3_2).f1))).setCell ⟨gb118, 2, none⟩ (.string ((rd_T67 l0_3 x3_2).f2))).heap[gb118]? = some (.cells #[.int .i64 ((rd_T67 l0_3 x3_2).f0), .int .i64 ((rd_T67 l0_3 x3_2).f1), .string ((rd_T67 l0_3 x3_2).f2)] 67 (0, 0))) := ⟨t6⟩
              have n2_ : Aside0 (Below w.heap.size w (((w50.setCell ⟨gb118, 0, none⟩ (.int .i64 ((rd_T67 l0_3 x3_2).f0))).setCell ⟨gb118, 1, none⟩ (.int .i64 ((rd_T67 l0_3 x3_2).f1))).setCell ⟨gb118, 2, none⟩ (.string ((rd_T67 l0_3 x3_2).f2)))) := ⟨t25⟩
              (try clear BK113)
              (try clear BK118)
              (try clear HB)
              generalize (((w50.setCell ⟨gb118, 0, none⟩ (.int .i64 ((rd_T67 l0_3 x3_2).f0))).setCell ⟨gb118, 1, none⟩ (.int .i64 ((rd_T67 l0_3 x3_2).f1))).setCell ⟨gb118, 2, none⟩ (.string ((rd_T67 l0_3 x3_2).f2))) = w53 at n0_ n1_ n2_ ⊢
              have BK113 := n0_
              have BK118 := n1_
              have HB := n2_
              clear n0_ n1_ n2_
              have n0_ := Aside0.mk (blk_drew BK113.out)
              have n1_ := Aside0.mk (blk_drew BK118.out)
              have n2_ := Aside0.mk (below_drew1 HB.out)
              clear BK113
              clear BK118
              clear HB
              have BK113 := n0_
              have BK118 := n1_
              have HB := n2_
              clear n0_ n1_ n2_
              have p120 : 0 ≤ ((ji24) : Int) := of_decide_eq_true (t3)
              have q120 : (ji24) < (l0_3.length : Int) := of_decide_eq_true (t3)
              obtain ⟨ad120, e120, hx120_0, hx120_1, hx120_2⟩ := at_T67 HR0_3.out (ji24) p120 q120
              have hw120_2 := hx120_2
              have hw120_1 := hx120_1
              have hw120_0 := hx120_0
              obtain rfl : ad117 = ad120 := (by injection e120)
              replace hx120_0 := (HB.out.cell (World.block_lt_of_cell? w _ hx120_0)).trans hx120_0
              replace hx120_1 := (HB.out.cell (World.block_lt_of_cell? w _ hx120_1)).trans hx120_1
              replace hx120_2 := (HB.out.cell (World.block_lt_of_cell? w _ hx120_2)).trans hx120_2
              replace p120 := eq_true p120
              replace q120 := eq_true q120
              refine start_ (n := 35) (S := fun w' => w'.cell? ⟨gb118, 0, none⟩ = some (.int .i64 ((rd_T67 l0_3 x3_2).f0)) ∧ w'.cell? ⟨gb118, 1, none⟩ = some (.int .i64 ((rd_T67 l0_3 x3_2).f1)) ∧ w'.cell? ⟨gb118, 2, none⟩ = some (.string ((rd_T67 l0_3 x3_2).f2)) ∧ w'.cell? ⟨gb113, 0, none⟩ = some (.string a0_0) ∧ w'.cell? ⟨gb113, 1, none⟩ = some (.int .i64 a0_1) ∧ w'.cell? ⟨gb113, 2, none⟩ = some (.int .i64 a0_2) ∧ w'.cell? ⟨gb113, 3, none⟩ = some (.slice (some ad117) l0_3.length c0_3) ∧ w'.cell? ⟨gb113, 4, none⟩ = some (.slice A0_4 l0_4.length c0_4) ∧ w'.cell? (ad117.add (((ji24)).toNat * 3)) = some (.int .i64 ((rd_T67 l0_3 (ji24)).f0)) ∧ w'.cell? ⟨(ad117.add (((ji24)).toNat * 3)).block, (ad117.add (((ji24)).toNat * 3)).off + 1, none⟩ = some (.int .i64 ((rd_T67 l0_3 (ji24)).f1)) ∧ w'.cell? ⟨(ad117.add (((ji24)).toNat * 3)).block, (ad117.add (((ji24)).toNat * 3)).off + 2, none⟩ = some (.string ((rd_T67 l0_3 (ji24)).f2))) (ds := []) #[false, false, false, false, false, false, false, false, false, false, false, false, false, false, false, false, false, false, false, false, false, false, false, false, false, false, false, false, false, false, false, false, false, false, false] (t23) rfl rfl ⟨(blk_cell BK118.out 0).trans rfl, (blk_cell BK118.out 1).trans rfl, (blk_cell BK118.out 2).trans rfl, (blk_cell BK113.out 0).trans rfl, (blk_cell BK113.out 1).trans rfl, (blk_cell BK113.out 2).trans rfl, (blk_cell BK113.out 3).trans rfl, (blk_cell BK113.out 4).trans rfl, ((HB.out.cell (World.block_lt_of_cell? w _ hw120_0)).trans hw120_0), ((HB.out.cell (World.block_lt_of_cell? w _ hw120_1)).trans hw120_1), ((HB.out.cell (World.block_lt_of_cell? w _ hw120_2)).trans hw120_2)⟩ (fun hHeld => ?_); refine with_tabW spec_BoxOK.tab7 spec_BoxOK.bits7 (fun HT_ HW_ => ?_)
              generalize w53.drew = w54 at BK113 BK118 HB hx120_0 hx120_1 hx120_2 hHeld ⊢
              refine pA 0 55 ?_
              refine pA 2 57 ?_
              refine tA 1 56 ?_
              refine tA 3 58 ?_
              refine pA 4 59 ?_
              refine oA 5 60 (fun K hK => ?_)
              refine goes_ Tryd.func78 (t23) rfl #[.int .i64 ((rd_T67 l0_3 x3_2).f0), .int .i64 1, .int .i64 (wrap64 (a0_2 - 1))] (by rfl) rfl rfl (t2) ?_
              with_reducible refine (spec_l01In.calls ((rd_T67 l0_3 x3_2).f0) 1 (wrap64 (a0_2 - 1)) true _ A21.out).mono ?_
              rintro e w' ⟨rfl, ⟨nd, rfl⟩⟩
              refine ⟨_, rfl, ?_⟩
              refine hK.out _ _ ⟨(blk_cell BK118.out 0).trans rfl, (blk_cell BK118.out 1).trans rfl, (blk_cell BK118.out 2).trans rfl, (blk_cell BK113.out 0).trans rfl, (blk_cell BK113.out 1).trans rfl, (blk_cell BK113.out 2).trans rfl, (blk_cell BK113.out 3).trans rfl, (blk_cell BK113.out 4).trans rfl, ((HB.out.cell (World.block_lt_of_cell? w _ hw120_0)).trans hw120_0), ((HB.out.cell (World.block_lt_of_cell? w _ hw120_1)).trans hw120_1), ((HB.out.cell (World.block_lt_of_cell? w _ hw120_2)).trans hw120_2)⟩ (fun hHeld => ?_)
              clear hK K
              refine norm_ (a' := ?_) ?_ ?_
              rotate_left
              ·show Act.put _ (some 60) _ = _
               simp only [Act.put, List.setIfInBounds_toArray, List.set_cons_zero, List.set_cons_succ, i64_w, i32_w]
               rfl
              refine pA 6 61 ?_
              refine pA 7 62 ?_
              refine pA 8 63 ?_
              refine pA 9 64 ?_
              refine pA 10 65 ?_
              refine pA 11 66 ?_
              refine pA 13 68 ?_
              refine pA 14 69 ?_
              refine pA 18 73 ?_
              refine tA 12 67 ?_
              refine pA 15 70 ?_
              refine pA 16 71 ?_
              refine tA 17 72 ?_
              refine tA 19 74 ?_
              refine pA 20 75 ?_
              refine pA 21 76 ?_
              refine pA 22 77 ?_
              refine pA 23 78 ?_
              refine pA 24 79 ?_
              refine tA 25 80 ?_
              refine oA 26 81 (fun K hK => ?_)
              refine goes_ Tryd.func78 (t23) rfl #[.int .i64 ((rd_T67 l0_3 x3_2).f1), .int .i64 0, .int .i64 31] (by rfl) rfl rfl (t2) ?_
              with_reducible refine (spec_l01In.calls ((rd_T67 l0_3 x3_2).f1) 0 31 false _ A34.out).mono ?_
              rintro e w' ⟨rfl, ⟨nd, rfl⟩⟩
              refine ⟨_, rfl, ?_⟩
              refine hK.out _ _ ⟨(blk_cell BK118.out 0).trans rfl, (blk_cell BK118.out 1).trans rfl, (blk_cell BK118.out 2).trans rfl, (blk_cell BK113.out 0).trans rfl, (blk_cell BK113.out 1).trans rfl, (blk_cell BK113.out 2).trans rfl, (blk_cell BK113.out 3).trans rfl, (blk_cell BK113.out 4).trans rfl, ((HB.out.cell (World.block_lt_of_cell? w _ hw120_0)).trans hw120_0), ((HB.out.cell (World.block_lt_of_cell? w _ hw120_1)).trans hw120_1), ((HB.out.cell (World.block_lt_of_cell? w _ hw120_2)).trans hw120_2)⟩ (fun hHeld => ?_)
              clear hK K
              refine norm_ (a' := ?_) ?_ ?_
              rotate_left
              ·show Act.put _ (some 81) _ = _
               simp only [Act.put, List.setIfInBounds_toArray, List.set_cons_zero, List.set_cons_succ, i64_w, i32_w]
               rfl
              refine pA 27 82 ?_
              refine pA 28 83 ?_
              refine pA 29 84 ?_
              refine pU 30 85 ?_
              refine pU 31 86 ?_
              refine pU 32 87 ?_
              refine pU 33 88 ?_
              refine pA 34 89 ?_
              refine done_ (done_of HT_.out (t23)) ?_
              try go_wp2
              go_ret
              exact ⟨t40, by repeat (first | (with_reducible first | exact HB.out | apply below_alloc | apply pw_below_drewN | apply below_drew1 | refine below_set ?_ GE113.out | refine below_set ?_ GE118.out) | exact HB.out)⟩
           ·rw [if_neg c26] at H
            exact absurd H (t50)
          ·rw [if_neg c25] at H
           exact absurd H (t50)
         ·rw [if_neg c23] at H
          have c23b0 : decide (0 < x3_2) = false := decide_eq_false c23
          clear c23
          replace H := Option.bind_eq_some_iff.mp H
          obtain ⟨t122, A550, H⟩ := H
          replace H : (if t122 = true then (if (((rd_T67 l0_3 x3_2).f2).size : Int) > 4000 then (some false) else (spec_BoxOK.l0 k2 (wrap64 (x3_2 + 1)) a0_0 a0_1 a0_2 l0_3 l0_4)) else (some false)) = some r := H
          have A55 := Aside0.mk A550
          clear A550
          by_cases c56 : t122 = true
          ·subst c56
           have H1 : (if (((rd_T67 l0_3 x3_2).f2).size : Int) > 4000 then (some false) else (spec_BoxOK.l0 k2 (wrap64 (x3_2 + 1)) a0_0 a0_1 a0_2 l0_3 l0_4)) = some r := by rw [if_pos rfl] at H; exact H
           clear H
           have H := H1
           clear H1
           by_cases c57 : (((rd_T67 l0_3 x3_2).f2).size : Int) > 4000
           ·rw [if_pos c57] at H
            have c57b0 : decide (4000 < (((rd_T67 l0_3 x3_2).f2).size : Int)) = true := decide_eq_true c57
            have c57b1 : decide (4000 < ((rd_T67 l0_3 x3_2).f2).size) = true := decide_eq_true (t70)
            clear c57
            obtain rfl := Option.some.inj H
            have hcz58_0 : wr.cell? ⟨gb113, 0, none⟩ = some (.string a0_0) := (blk_cell BK113.out 0).trans rfl
            have hcz58_1 : wr.cell? ⟨gb113, 1, none⟩ = some (.int .i64 a0_1) := (blk_cell BK113.out 1).trans rfl
            have hcz58_2 : wr.cell? ⟨gb113, 2, none⟩ = some (.int .i64 a0_2) := (blk_cell BK113.out 2).trans rfl
            have hcz58_3 : wr.cell? ⟨gb113, 3, none⟩ = some (.slice A0_3 l0_3.length c0_3) := (blk_cell BK113.out 3).trans rfl
            have hcz58_4 : wr.cell? ⟨gb113, 4, none⟩ = some (.slice A0_4 l0_4.length c0_4) := (blk_cell BK113.out 4).trans rfl
            have hfz58_0 := blk_frozen BK113.out 0
            have hfz58_1 := blk_frozen BK113.out 1
            have hfz58_2 := blk_frozen BK113.out 2
            have hfz58_3 := blk_frozen BK113.out 3
            have hfz58_4 := blk_frozen BK113.out 4
            have p117 : 0 ≤ (x3_2 : Int) := of_decide_eq_true (t3)
            have q117 : x3_2 < (l0_3.length : Int) := of_decide_eq_true (t3)
            obtain ⟨ad117, e117, hx117_0, hx117_1, hx117_2⟩ := at_T67 HR0_3.out x3_2 p117 q117
            cases e117
            replace hx117_0 := (HB.out.cell (World.block_lt_of_cell? w _ hx117_0)).trans hx117_0
            replace hx117_1 := (HB.out.cell (World.block_lt_of_cell? w _ hx117_1)).trans hx117_1
            replace hx117_2 := (HB.out.cell (World.block_lt_of_cell? w _ hx117_2)).trans hx117_2
            replace p117 := eq_true p117
            replace q117 := eq_true q117
            try go_wp2_with (first | ((with_reducible refine gate_dst (N := 4) rfl ?_); (try (refine gate_guard (by rfl) ?_; dsimp only)); refine box_event ?hg (N := 4) ?hd (cs := #[.int .i64 0, .int .i64 0, .string (⟨#[]⟩ : ByteArray)]) (t := 67) ?hr ?_; (case hd => rfl); (case hg => rfl); (case hr => first | (go_simp; done) | (go_simp; rfl)); intro gb118 hg w59 hbox hb; have n0_ := Aside0.mk (blk_below (g := gb113) (o := .cells #[.string a0_0, .int .i64 a0_1, .int .i64 a0_2, .slice (some ad117) l0_3.length c0_3, .slice A0_4 l0_4.length c0_4] 32 (0, 0)) (t10) hb); have n1_ := Aside0.mk (below_step (t7) hb); have n2_ := Aside0.mk (hbox); have n3_ := Aside0.mk ((by rw [hg]; exact (below_size (t7)) : w.heap.size ≤ gb118)); have n4_ := Aside0.mk ((by rw [hg]; exact (below_size (t7)) : w.heap.size ≤ gb118)); have n5_ := Aside0.mk ((by rw [hg]; exact Nat.ne_of_lt (blk_lt (g := gb113) (o := .cells #[.string a0_0, .int .i64 a0_1, .int .i64 a0_2, .slice (some ad117) l0_3.length c0_3, .slice A0_4 l0_4.length c0_4] 32 (0, 0)) (t10)) : gb113 ≠ gb118)); have n6_ := Aside0.mk ((by rw [hg]; exact Nat.ne_of_gt (blk_lt (g := gb113) (o := .cells #[.string a0_0, .int .i64 a0_1, .int .i64 a0_2, .slice (some ad117) l0_3.length c0_3, .slice A0_4 l0_4.length c0_4] 32 (0, 0)) (t10)) : gb118 ≠ gb113)); clear BK113; clear HB; have BK113 := n0_; have HB := n1_; have BK118 := n2_; have GW118 := n3_; have GE118 := n4_; have NB113_118 := n5_; have NB118_113 := n6_; clear n0_ n1_ n2_ n3_ n4_ n5_ n6_; clear hb hbox hg; have hnb60 := NB118_113.out; have hnc60 := NB113_118.out; have hcz61_0 : w59.cell? ⟨gb118, 0, none⟩ = some (.int .i64 0) := (blk_cell BK118.out 0).trans rfl; have hcz61_1 : w59.cell? ⟨gb118, 1, none⟩ = some (.int .i64 0) := (blk_cell BK118.out 1).trans rfl; have hcz61_2 : w59.cell? ⟨gb118, 2, none⟩ = some (.string (⟨#[]⟩ : ByteArray)) := (blk_cell BK118.out 2).trans rfl; have hfz61_0 := blk_frozen BK118.out 0; have hfz61_1 := blk_frozen BK118.out 1; have hfz61_2 := blk_frozen BK118.out 2))
            have n0_ : Aside0 ((((w59.setCell ⟨gb118, 0, none⟩ (.int .i64 ((rd_T67 l0_3 x3_2).f0))).setCell ⟨gb118, 1, none⟩ (.int .i64 ((rd_T67 l0_3 x3_2).f1))).setCell ⟨gb118, 2, none⟩ (.string ((rd_T67 l0_3 x3_2).f2))).heap[gb113]? = some (.cells #[.string a0_0, .int .i64 a0_1, .int .i64 a0_2, .slice (some ad117) l0_3.length c0_3, .slice A0_4 l0_4.length c0_4] 32 (0, 0))) := ⟨t8⟩
            have n1_ : Aside0 ((((w59.setCell ⟨gb118, 0, none⟩ (.int .i64 ((rd_T67 l0_3 x3_2).f0))).setCell ⟨gb118, 1, none⟩ (.int .i64 ((rd_T67 l0_3 x3_2).f1))).setCell ⟨gb118, 2, none⟩ (.string ((rd_T67 l0_3 x3_2).f2))).heap[gb118]? = some (.cells #[.int .i64 ((rd_T67 l0_3 x3_2).f0), .int .i64 ((rd_T67 l0_3 x3_2).f1), .string ((rd_T67 l0_3 x3_2).f2)] 67 (0, 0))) := ⟨t6⟩
            have n2_ : Aside0 (Below w.heap.size w (((w59.setCell ⟨gb118, 0, none⟩ (.int .i64 ((rd_T67 l0_3 x3_2).f0))).setCell ⟨gb118, 1, none⟩ (.int .i64 ((rd_T67 l0_3 x3_2).f1))).setCell ⟨gb118, 2, none⟩ (.string ((rd_T67 l0_3 x3_2).f2)))) := ⟨t25⟩
            (try clear BK113)
            (try clear BK118)
            (try clear HB)
            generalize (((w59.setCell ⟨gb118, 0, none⟩ (.int .i64 ((rd_T67 l0_3 x3_2).f0))).setCell ⟨gb118, 1, none⟩ (.int .i64 ((rd_T67 l0_3 x3_2).f1))).setCell ⟨gb118, 2, none⟩ (.string ((rd_T67 l0_3 x3_2).f2))) = w62 at n0_ n1_ n2_ ⊢
            have BK113 := n0_
            have BK118 := n1_
            have HB := n2_
            clear n0_ n1_ n2_
            have n0_ := Aside0.mk (blk_drew BK113.out)
            have n1_ := Aside0.mk (blk_drew BK118.out)
            have n2_ := Aside0.mk (below_drew1 HB.out)
            clear BK113
            clear BK118
            clear HB
            have BK113 := n0_
            have BK118 := n1_
            have HB := n2_
            clear n0_ n1_ n2_
            refine start_ (n := 35) (S := fun w' => w'.cell? ⟨gb118, 0, none⟩ = some (.int .i64 ((rd_T67 l0_3 x3_2).f0)) ∧ w'.cell? ⟨gb118, 1, none⟩ = some (.int .i64 ((rd_T67 l0_3 x3_2).f1)) ∧ w'.cell? ⟨gb118, 2, none⟩ = some (.string ((rd_T67 l0_3 x3_2).f2)) ∧ w'.cell? ⟨gb113, 0, none⟩ = some (.string a0_0) ∧ w'.cell? ⟨gb113, 1, none⟩ = some (.int .i64 a0_1) ∧ w'.cell? ⟨gb113, 2, none⟩ = some (.int .i64 a0_2) ∧ w'.cell? ⟨gb113, 3, none⟩ = some (.slice (some ad117) l0_3.length c0_3) ∧ w'.cell? ⟨gb113, 4, none⟩ = some (.slice A0_4 l0_4.length c0_4)) (ds := []) #[false, false, false, false, false, false, false, false, false, false, false, false, false, false, false, false, false, false, false, false, false, false, false, false, false, false, false, false, false, false, false, false, false, false, false] (t23) rfl rfl ⟨(blk_cell BK118.out 0).trans rfl, (blk_cell BK118.out 1).trans rfl, (blk_cell BK118.out 2).trans rfl, (blk_cell BK113.out 0).trans rfl, (blk_cell BK113.out 1).trans rfl, (blk_cell BK113.out 2).trans rfl, (blk_cell BK113.out 3).trans rfl, (blk_cell BK113.out 4).trans rfl⟩ (fun hHeld => ?_); refine with_tabW spec_BoxOK.tab7 spec_BoxOK.bits7 (fun HT_ HW_ => ?_)
            generalize w62.drew = w63 at BK113 BK118 HB hHeld ⊢
            refine pA 0 55 ?_
            refine pA 2 57 ?_
            refine tA 1 56 ?_
            refine tA 3 58 ?_
            refine pA 4 59 ?_
            refine oA 5 60 (fun K hK => ?_)
            refine goes_ Tryd.func78 (t23) rfl #[.int .i64 ((rd_T67 l0_3 x3_2).f0), .int .i64 1, .int .i64 (wrap64 (a0_2 - 1))] (by rfl) rfl rfl (t2) ?_
            with_reducible refine (spec_l01In.calls ((rd_T67 l0_3 x3_2).f0) 1 (wrap64 (a0_2 - 1)) true _ A21.out).mono ?_
            rintro e w' ⟨rfl, ⟨nd, rfl⟩⟩
            refine ⟨_, rfl, ?_⟩
            refine hK.out _ _ ⟨(blk_cell BK118.out 0).trans rfl, (blk_cell BK118.out 1).trans rfl, (blk_cell BK118.out 2).trans rfl, (blk_cell BK113.out 0).trans rfl, (blk_cell BK113.out 1).trans rfl, (blk_cell BK113.out 2).trans rfl, (blk_cell BK113.out 3).trans rfl, (blk_cell BK113.out 4).trans rfl⟩ (fun hHeld => ?_)
            clear hK K
            refine norm_ (a' := ?_) ?_ ?_
            rotate_left
            ·show Act.put _ (some 60) _ = _
             simp only [Act.put, List.setIfInBounds_toArray, List.set_cons_zero, List.set_cons_succ, i64_w, i32_w]
             rfl
            refine pA 6 61 ?_
            refine pA 7 62 ?_
            refine pA 8 63 ?_
            refine pA 9 64 ?_
            refine pA 10 65 ?_
            refine pU 11 66 ?_
            refine pU 12 67 ?_
            refine pU 13 68 ?_
            refine pU 14 69 ?_
            refine pU 15 70 ?_
            refine pU 16 71 ?_
            refine pU 17 72 ?_
            refine pU 18 73 ?_
            refine pU 19 74 ?_
            refine pU 20 75 ?_
            refine pA 21 76 ?_
            refine pA 22 77 ?_
            refine pA 23 78 ?_
            refine pA 24 79 ?_
            refine tA 25 80 ?_
            refine oA 26 81 (fun K hK => ?_)
            refine goes_ Tryd.func78 (t23) rfl #[.int .i64 ((rd_T67 l0_3 x3_2).f1), .int .i64 0, .int .i64 31] (by rfl) rfl rfl (t2) ?_
            with_reducible refine (spec_l01In.calls ((rd_T67 l0_3 x3_2).f1) 0 31 true _ A55.out).mono ?_
            rintro e w' ⟨rfl, ⟨nd, rfl⟩⟩
            refine ⟨_, rfl, ?_⟩
            refine hK.out _ _ ⟨(blk_cell BK118.out 0).trans rfl, (blk_cell BK118.out 1).trans rfl, (blk_cell BK118.out 2).trans rfl, (blk_cell BK113.out 0).trans rfl, (blk_cell BK113.out 1).trans rfl, (blk_cell BK113.out 2).trans rfl, (blk_cell BK113.out 3).trans rfl, (blk_cell BK113.out 4).trans rfl⟩ (fun hHeld => ?_)
            clear hK K
            refine norm_ (a' := ?_) ?_ ?_
            rotate_left
            ·show Act.put _ (some 81) _ = _
             simp only [Act.put, List.setIfInBounds_toArray, List.set_cons_zero, List.set_cons_succ, i64_w, i32_w]
             rfl
            refine pA 27 82 ?_
            refine pA 28 83 ?_
            refine pA 29 84 ?_
            refine pA 30 85 ?_
            refine tA 31 86 ?_
            refine pA 32 87 ?_
            refine pA 33 88 ?_
            refine pA 34 89 ?_
            refine done_ (done_of HT_.out (t23)) ?_
            try go_wp2
            go_ret
            exact ⟨t4, by repeat (first | (with_reducible first | exact HB.out | apply below_alloc | apply pw_below_drewN | apply below_drew1 | refine below_set ?_ GE113.out | refine below_set ?_ GE118.out) | exact HB.out)⟩
           ·rw [if_neg c57] at H
            have c57b0 : decide (4000 < (((rd_T67 l0_3 x3_2).f2).size : Int)) = false := decide_eq_false c57
            have c57b1 : decide (4000 < ((rd_T67 l0_3 x3_2).f2).size) = false := decide_eq_false (t70)
            clear c57
            have H' := Aside0.mk H
            clear H
            have hcz64_0 : wr.cell? ⟨gb113, 0, none⟩ = some (.string a0_0) := (blk_cell BK113.out 0).trans rfl
            have hcz64_1 : wr.cell? ⟨gb113, 1, none⟩ = some (.int .i64 a0_1) := (blk_cell BK113.out 1).trans rfl
            have hcz64_2 : wr.cell? ⟨gb113, 2, none⟩ = some (.int .i64 a0_2) := (blk_cell BK113.out 2).trans rfl
            have hcz64_3 : wr.cell? ⟨gb113, 3, none⟩ = some (.slice A0_3 l0_3.length c0_3) := (blk_cell BK113.out 3).trans rfl
            have hcz64_4 : wr.cell? ⟨gb113, 4, none⟩ = some (.slice A0_4 l0_4.length c0_4) := (blk_cell BK113.out 4).trans rfl
            have hfz64_0 := blk_frozen BK113.out 0
            have hfz64_1 := blk_frozen BK113.out 1
            have hfz64_2 := blk_frozen BK113.out 2
            have hfz64_3 := blk_frozen BK113.out 3
            have hfz64_4 := blk_frozen BK113.out 4
            have p117 : 0 ≤ (x3_2 : Int) := of_decide_eq_true (t3)
            have q117 : x3_2 < (l0_3.length : Int) := of_decide_eq_true (t3)
            obtain ⟨ad117, e117, hx117_0, hx117_1, hx117_2⟩ := at_T67 HR0_3.out x3_2 p117 q117
            cases e117
            replace hx117_0 := (HB.out.cell (World.block_lt_of_cell? w _ hx117_0)).trans hx117_0
            replace hx117_1 := (HB.out.cell (World.block_lt_of_cell? w _ hx117_1)).trans hx117_1
            replace hx117_2 := (HB.out.cell (World.block_lt_of_cell? w _ hx117_2)).trans hx117_2
            replace p117 := eq_true p117
            replace q117 := eq_true q117
            try go_wp2_with (first | ((with_reducible refine gate_dst (N := 4) rfl ?_); (try (refine gate_guard (by rfl) ?_; dsimp only)); refine box_event ?hg (N := 4) ?hd (cs := #[.int .i64 0, .int .i64 0, .string (⟨#[]⟩ : ByteArray)]) (t := 67) ?hr ?_; (case hd => rfl); (case hg => rfl); (case hr => first | (go_simp; done) | (go_simp; rfl)); intro gb118 hg w65 hbox hb; have n0_ := Aside0.mk (blk_below (g := gb113) (o := .cells #[.string a0_0, .int .i64 a0_1, .int .i64 a0_2, .slice (some ad117) l0_3.length c0_3, .slice A0_4 l0_4.length c0_4] 32 (0, 0)) (t10) hb); have n1_ := Aside0.mk (below_step (t7) hb); have n2_ := Aside0.mk (hbox); have n3_ := Aside0.mk ((by rw [hg]; exact (below_size (t7)) : w.heap.size ≤ gb118)); have n4_ := Aside0.mk ((by rw [hg]; exact (below_size (t7)) : w.heap.size ≤ gb118)); have n5_ := Aside0.mk ((by rw [hg]; exact Nat.ne_of_lt (blk_lt (g := gb113) (o := .cells #[.string a0_0, .int .i64 a0_1, .int .i64 a0_2, .slice (some ad117) l0_3.length c0_3, .slice A0_4 l0_4.length c0_4] 32 (0, 0)) (t10)) : gb113 ≠ gb118)); have n6_ := Aside0.mk ((by rw [hg]; exact Nat.ne_of_gt (blk_lt (g := gb113) (o := .cells #[.string a0_0, .int .i64 a0_1, .int .i64 a0_2, .slice (some ad117) l0_3.length c0_3, .slice A0_4 l0_4.length c0_4] 32 (0, 0)) (t10)) : gb118 ≠ gb113)); clear BK113; clear HB; have BK113 := n0_; have HB := n1_; have BK118 := n2_; have GW118 := n3_; have GE118 := n4_; have NB113_118 := n5_; have NB118_113 := n6_; clear n0_ n1_ n2_ n3_ n4_ n5_ n6_; clear hb hbox hg; have hnb66 := NB118_113.out; have hnc66 := NB113_118.out; have hcz67_0 : w65.cell? ⟨gb118, 0, none⟩ = some (.int .i64 0) := (blk_cell BK118.out 0).trans rfl; have hcz67_1 : w65.cell? ⟨gb118, 1, none⟩ = some (.int .i64 0) := (blk_cell BK118.out 1).trans rfl; have hcz67_2 : w65.cell? ⟨gb118, 2, none⟩ = some (.string (⟨#[]⟩ : ByteArray)) := (blk_cell BK118.out 2).trans rfl; have hfz67_0 := blk_frozen BK118.out 0; have hfz67_1 := blk_frozen BK118.out 1; have hfz67_2 := blk_frozen BK118.out 2))
            have n0_ : Aside0 ((((w65.setCell ⟨gb118, 0, none⟩ (.int .i64 ((rd_T67 l0_3 x3_2).f0))).setCell ⟨gb118, 1, none⟩ (.int .i64 ((rd_T67 l0_3 x3_2).f1))).setCell ⟨gb118, 2, none⟩ (.string ((rd_T67 l0_3 x3_2).f2))).heap[gb113]? = some (.cells #[.string a0_0, .int .i64 a0_1, .int .i64 a0_2, .slice (some ad117) l0_3.length c0_3, .slice A0_4 l0_4.length c0_4] 32 (0, 0))) := ⟨t8⟩
            have n1_ : Aside0 ((((w65.setCell ⟨gb118, 0, none⟩ (.int .i64 ((rd_T67 l0_3 x3_2).f0))).setCell ⟨gb118, 1, none⟩ (.int .i64 ((rd_T67 l0_3 x3_2).f1))).setCell ⟨gb118, 2, none⟩ (.string ((rd_T67 l0_3 x3_2).f2))).heap[gb118]? = some (.cells #[.int .i64 ((rd_T67 l0_3 x3_2).f0), .int .i64 ((rd_T67 l0_3 x3_2).f1), .string ((rd_T67 l0_3 x3_2).f2)] 67 (0, 0))) := ⟨t6⟩
            have n2_ : Aside0 (Below w.heap.size w (((w65.setCell ⟨gb118, 0, none⟩ (.int .i64 ((rd_T67 l0_3 x3_2).f0))).setCell ⟨gb118, 1, none⟩ (.int .i64 ((rd_T67 l0_3 x3_2).f1))).setCell ⟨gb118, 2, none⟩ (.string ((rd_T67 l0_3 x3_2).f2)))) := ⟨t25⟩
            (try clear BK113)
            (try clear BK118)
            (try clear HB)
            generalize (((w65.setCell ⟨gb118, 0, none⟩ (.int .i64 ((rd_T67 l0_3 x3_2).f0))).setCell ⟨gb118, 1, none⟩ (.int .i64 ((rd_T67 l0_3 x3_2).f1))).setCell ⟨gb118, 2, none⟩ (.string ((rd_T67 l0_3 x3_2).f2))) = w68 at n0_ n1_ n2_ ⊢
            have BK113 := n0_
            have BK118 := n1_
            have HB := n2_
            clear n0_ n1_ n2_
            have n0_ := Aside0.mk (blk_drew BK113.out)
            have n1_ := Aside0.mk (blk_drew BK118.out)
            have n2_ := Aside0.mk (below_drew1 HB.out)
            clear BK113
            clear BK118
            clear HB
            have BK113 := n0_
            have BK118 := n1_
            have HB := n2_
            clear n0_ n1_ n2_
            refine start_ (n := 35) (S := fun w' => w'.cell? ⟨gb118, 0, none⟩ = some (.int .i64 ((rd_T67 l0_3 x3_2).f0)) ∧ w'.cell? ⟨gb118, 1, none⟩ = some (.int .i64 ((rd_T67 l0_3 x3_2).f1)) ∧ w'.cell? ⟨gb118, 2, none⟩ = some (.string ((rd_T67 l0_3 x3_2).f2)) ∧ w'.cell? ⟨gb113, 0, none⟩ = some (.string a0_0) ∧ w'.cell? ⟨gb113, 1, none⟩ = some (.int .i64 a0_1) ∧ w'.cell? ⟨gb113, 2, none⟩ = some (.int .i64 a0_2) ∧ w'.cell? ⟨gb113, 3, none⟩ = some (.slice (some ad117) l0_3.length c0_3) ∧ w'.cell? ⟨gb113, 4, none⟩ = some (.slice A0_4 l0_4.length c0_4)) (ds := []) #[false, false, false, false, false, false, false, false, false, false, false, false, false, false, false, false, false, false, false, false, false, false, false, false, false, false, false, false, false, false, false, false, false, false, false] (t23) rfl rfl ⟨(blk_cell BK118.out 0).trans rfl, (blk_cell BK118.out 1).trans rfl, (blk_cell BK118.out 2).trans rfl, (blk_cell BK113.out 0).trans rfl, (blk_cell BK113.out 1).trans rfl, (blk_cell BK113.out 2).trans rfl, (blk_cell BK113.out 3).trans rfl, (blk_cell BK113.out 4).trans rfl⟩ (fun hHeld => ?_); refine with_tabW spec_BoxOK.tab7 spec_BoxOK.bits7 (fun HT_ HW_ => ?_)
            generalize w68.drew = w69 at BK113 BK118 HB hHeld ⊢
            refine pA 0 55 ?_
            refine pA 2 57 ?_
            refine tA 1 56 ?_
            refine tA 3 58 ?_
            refine pA 4 59 ?_
            refine oA 5 60 (fun K hK => ?_)
            refine goes_ Tryd.func78 (t23) rfl #[.int .i64 ((rd_T67 l0_3 x3_2).f0), .int .i64 1, .int .i64 (wrap64 (a0_2 - 1))] (by rfl) rfl rfl (t2) ?_
            with_reducible refine (spec_l01In.calls ((rd_T67 l0_3 x3_2).f0) 1 (wrap64 (a0_2 - 1)) true _ A21.out).mono ?_
            rintro e w' ⟨rfl, ⟨nd, rfl⟩⟩
            refine ⟨_, rfl, ?_⟩
            refine hK.out _ _ ⟨(blk_cell BK118.out 0).trans rfl, (blk_cell BK118.out 1).trans rfl, (blk_cell BK118.out 2).trans rfl, (blk_cell BK113.out 0).trans rfl, (blk_cell BK113.out 1).trans rfl, (blk_cell BK113.out 2).trans rfl, (blk_cell BK113.out 3).trans rfl, (blk_cell BK113.out 4).trans rfl⟩ (fun hHeld => ?_)
            clear hK K
            refine norm_ (a' := ?_) ?_ ?_
            rotate_left
            ·show Act.put _ (some 60) _ = _
             simp only [Act.put, List.setIfInBounds_toArray, List.set_cons_zero, List.set_cons_succ, i64_w, i32_w]
             rfl
            refine pA 6 61 ?_
            refine pA 7 62 ?_
            refine pA 8 63 ?_
            refine pA 9 64 ?_
            refine pA 10 65 ?_
            refine pU 11 66 ?_
            refine pU 12 67 ?_
            refine pU 13 68 ?_
            refine pU 14 69 ?_
            refine pU 15 70 ?_
            refine pU 16 71 ?_
            refine pU 17 72 ?_
            refine pU 18 73 ?_
            refine pU 19 74 ?_
            refine pU 20 75 ?_
            refine pA 21 76 ?_
            refine pA 22 77 ?_
            refine pA 23 78 ?_
            refine pA 24 79 ?_
            refine tA 25 80 ?_
            refine oA 26 81 (fun K hK => ?_)
            refine goes_ Tryd.func78 (t23) rfl #[.int .i64 ((rd_T67 l0_3 x3_2).f1), .int .i64 0, .int .i64 31] (by rfl) rfl rfl (t2) ?_
            with_reducible refine (spec_l01In.calls ((rd_T67 l0_3 x3_2).f1) 0 31 true _ A55.out).mono ?_
            rintro e w' ⟨rfl, ⟨nd, rfl⟩⟩
            refine ⟨_, rfl, ?_⟩
            refine hK.out _ _ ⟨(blk_cell BK118.out 0).trans rfl, (blk_cell BK118.out 1).trans rfl, (blk_cell BK118.out 2).trans rfl, (blk_cell BK113.out 0).trans rfl, (blk_cell BK113.out 1).trans rfl, (blk_cell BK113.out 2).trans rfl, (blk_cell BK113.out 3).trans rfl, (blk_cell BK113.out 4).trans rfl⟩ (fun hHeld => ?_)
            clear hK K
            refine norm_ (a' := ?_) ?_ ?_
            rotate_left
            ·show Act.put _ (some 81) _ = _
             simp only [Act.put, List.setIfInBounds_toArray, List.set_cons_zero, List.set_cons_succ, i64_w, i32_w]
             rfl
            refine pA 27 82 ?_
            refine pA 28 83 ?_
            refine pA 29 84 ?_
            refine pA 30 85 ?_
            refine tA 31 86 ?_
            refine pA 32 87 ?_
            refine pA 33 88 ?_
            refine pA 34 89 ?_
            refine done_ (done_of HT_.out (t23)) ?_
            try go_wp2
            go_roundg k2
            case measure => have := HJ1.out; have := HK2.out; omega
            case rel => exact ⟨(wrap64 (x3_2 + 1)), (t0), H', ⟨t89⟩, ⟨t10⟩, ⟨t25⟩⟩
          ·replace c56 := Bool.eq_false_iff.mpr c56
           subst c56
           have H1 : (some false) = some r := by rw [if_neg (show ¬ (false = true) by decide)] at H; exact H
           clear H
           have H := H1
           clear H1
           obtain rfl := Option.some.inj H
           have hcz70_0 : wr.cell? ⟨gb113, 0, none⟩ = some (.string a0_0) := (blk_cell BK113.out 0).trans rfl
           have hcz70_1 : wr.cell? ⟨gb113, 1, none⟩ = some (.int .i64 a0_1) := (blk_cell BK113.out 1).trans rfl
           have hcz70_2 : wr.cell? ⟨gb113, 2, none⟩ = some (.int .i64 a0_2) := (blk_cell BK113.out 2).trans rfl
           have hcz70_3 : wr.cell? ⟨gb113, 3, none⟩ = some (.slice A0_3 l0_3.length c0_3) := (blk_cell BK113.out 3).trans rfl
           have hcz70_4 : wr.cell? ⟨gb113, 4, none⟩ = some (.slice A0_4 l0_4.length c0_4) := (blk_cell BK113.out 4).trans rfl
           have hfz70_0 := blk_frozen BK113.out 0
           have hfz70_1 := blk_frozen BK113.out 1
           have hfz70_2 := blk_frozen BK113.out 2
           have hfz70_3 := blk_frozen BK113.out 3
           have hfz70_4 := blk_frozen BK113.out 4
           have p117 : 0 ≤ (x3_2 : Int) := of_decide_eq_true (t3)
           have q117 : x3_2 < (l0_3.length : Int) := of_decide_eq_true (t3)
           obtain ⟨ad117, e117, hx117_0, hx117_1, hx117_2⟩ := at_T67 HR0_3.out x3_2 p117 q117
           cases e117
           replace hx117_0 := (HB.out.cell (World.block_lt_of_cell? w _ hx117_0)).trans hx117_0
           replace hx117_1 := (HB.out.cell (World.block_lt_of_cell? w _ hx117_1)).trans hx117_1
           replace hx117_2 := (HB.out.cell (World.block_lt_of_cell? w _ hx117_2)).trans hx117_2
           replace p117 := eq_true p117
           replace q117 := eq_true q117
           try go_wp2_with (first | ((with_reducible refine gate_dst (N := 4) rfl ?_); (try (refine gate_guard (by rfl) ?_; dsimp only)); refine box_event ?hg (N := 4) ?hd (cs := #[.int .i64 0, .int .i64 0, .string (⟨#[]⟩ : ByteArray)]) (t := 67) ?hr ?_; (case hd => rfl); (case hg => rfl); (case hr => first | (go_simp; done) | (go_simp; rfl)); intro gb118 hg w71 hbox hb; have n0_ := Aside0.mk (blk_below (g := gb113) (o := .cells #[.string a0_0, .int .i64 a0_1, .int .i64 a0_2, .slice (some ad117) l0_3.length c0_3, .slice A0_4 l0_4.length c0_4] 32 (0, 0)) (t10) hb); have n1_ := Aside0.mk (below_step (t7) hb); have n2_ := Aside0.mk (hbox); have n3_ := Aside0.mk ((by rw [hg]; exact (below_size (t7)) : w.heap.size ≤ gb118)); have n4_ := Aside0.mk ((by rw [hg]; exact (below_size (t7)) : w.heap.size ≤ gb118)); have n5_ := Aside0.mk ((by rw [hg]; exact Nat.ne_of_lt (blk_lt (g := gb113) (o := .cells #[.string a0_0, .int .i64 a0_1, .int .i64 a0_2, .slice (some ad117) l0_3.length c0_3, .slice A0_4 l0_4.length c0_4] 32 (0, 0)) (t10)) : gb113 ≠ gb118)); have n6_ := Aside0.mk ((by rw [hg]; exact Nat.ne_of_gt (blk_lt (g := gb113) (o := .cells #[.string a0_0, .int .i64 a0_1, .int .i64 a0_2, .slice (some ad117) l0_3.length c0_3, .slice A0_4 l0_4.length c0_4] 32 (0, 0)) (t10)) : gb118 ≠ gb113)); clear BK113; clear HB; have BK113 := n0_; have HB := n1_; have BK118 := n2_; have GW118 := n3_; have GE118 := n4_; have NB113_118 := n5_; have NB118_113 := n6_; clear n0_ n1_ n2_ n3_ n4_ n5_ n6_; clear hb hbox hg; have hnb72 := NB118_113.out; have hnc72 := NB113_118.out; have hcz73_0 : w71.cell? ⟨gb118, 0, none⟩ = some (.int .i64 0) := (blk_cell BK118.out 0).trans rfl; have hcz73_1 : w71.cell? ⟨gb118, 1, none⟩ = some (.int .i64 0) := (blk_cell BK118.out 1).trans rfl; have hcz73_2 : w71.cell? ⟨gb118, 2, none⟩ = some (.string (⟨#[]⟩ : ByteArray)) := (blk_cell BK118.out 2).trans rfl; have hfz73_0 := blk_frozen BK118.out 0; have hfz73_1 := blk_frozen BK118.out 1; have hfz73_2 := blk_frozen BK118.out 2))
           have n0_ : Aside0 ((((w71.setCell ⟨gb118, 0, none⟩ (.int .i64 ((rd_T67 l0_3 x3_2).f0))).setCell ⟨gb118, 1, none⟩ (.int .i64 ((rd_T67 l0_3 x3_2).f1))).setCell ⟨gb118, 2, none⟩ (.string ((rd_T67 l0_3 x3_2).f2))).heap[gb113]? = some (.cells #[.string a0_0, .int .i64 a0_1, .int .i64 a0_2, .slice (some ad117) l0_3.length c0_3, .slice A0_4 l0_4.length c0_4] 32 (0, 0))) := ⟨t8⟩
           have n1_ : Aside0 ((((w71.setCell ⟨gb118, 0, none⟩ (.int .i64 ((rd_T67 l0_3 x3_2).f0))).setCell ⟨gb118, 1, none⟩ (.int .i64 ((rd_T67 l0_3 x3_2).f1))).setCell ⟨gb118, 2, none⟩ (.string ((rd_T67 l0_3 x3_2).f2))).heap[gb118]? = some (.cells #[.int .i64 ((rd_T67 l0_3 x3_2).f0), .int .i64 ((rd_T67 l0_3 x3_2).f1), .string ((rd_T67 l0_3 x3_2).f2)] 67 (0, 0))) := ⟨t6⟩
           have n2_ : Aside0 (Below w.heap.size w (((w71.setCell ⟨gb118, 0, none⟩ (.int .i64 ((rd_T67 l0_3 x3_2).f0))).setCell ⟨gb118, 1, none⟩ (.int .i64 ((rd_T67 l0_3 x3_2).f1))).setCell ⟨gb118, 2, none⟩ (.string ((rd_T67 l0_3 x3_2).f2)))) := ⟨t25⟩
           (try clear BK113)
           (try clear BK118)
           (try clear HB)
           generalize (((w71.setCell ⟨gb118, 0, none⟩ (.int .i64 ((rd_T67 l0_3 x3_2).f0))).setCell ⟨gb118, 1, none⟩ (.int .i64 ((rd_T67 l0_3 x3_2).f1))).setCell ⟨gb118, 2, none⟩ (.string ((rd_T67 l0_3 x3_2).f2))) = w74 at n0_ n1_ n2_ ⊢
           have BK113 := n0_
           have BK118 := n1_
           have HB := n2_
           clear n0_ n1_ n2_
           have n0_ := Aside0.mk (blk_drew BK113.out)
           have n1_ := Aside0.mk (blk_drew BK118.out)
           have n2_ := Aside0.mk (below_drew1 HB.out)
           clear BK113
           clear BK118
           clear HB
           have BK113 := n0_
           have BK118 := n1_
           have HB := n2_
           clear n0_ n1_ n2_
           refine start_ (n := 35) (S := fun w' => w'.cell? ⟨gb118, 0, none⟩ = some (.int .i64 ((rd_T67 l0_3 x3_2).f0)) ∧ w'.cell? ⟨gb118, 1, none⟩ = some (.int .i64 ((rd_T67 l0_3 x3_2).f1)) ∧ w'.cell? ⟨gb118, 2, none⟩ = some (.string ((rd_T67 l0_3 x3_2).f2)) ∧ w'.cell? ⟨gb113, 0, none⟩ = some (.string a0_0) ∧ w'.cell? ⟨gb113, 1, none⟩ = some (.int .i64 a0_1) ∧ w'.cell? ⟨gb113, 2, none⟩ = some (.int .i64 a0_2) ∧ w'.cell? ⟨gb113, 3, none⟩ = some (.slice (some ad117) l0_3.length c0_3) ∧ w'.cell? ⟨gb113, 4, none⟩ = some (.slice A0_4 l0_4.length c0_4)) (ds := []) #[false, false, false, false, false, false, false, false, false, false, false, false, false, false, false, false, false, false, false, false, false, false, false, false, false, false, false, false, false, false, false, false, false, false, false] (t23) rfl rfl ⟨(blk_cell BK118.out 0).trans rfl, (blk_cell BK118.out 1).trans rfl, (blk_cell BK118.out 2).trans rfl, (blk_cell BK113.out 0).trans rfl, (blk_cell BK113.out 1).trans rfl, (blk_cell BK113.out 2).trans rfl, (blk_cell BK113.out 3).trans rfl, (blk_cell BK113.out 4).trans rfl⟩ (fun hHeld => ?_); refine with_tabW spec_BoxOK.tab7 spec_BoxOK.bits7 (fun HT_ HW_ => ?_)
           generalize w74.drew = w75 at BK113 BK118 HB hHeld ⊢
           refine pA 0 55 ?_
           refine pA 2 57 ?_
           refine tA 1 56 ?_
           refine tA 3 58 ?_
           refine pA 4 59 ?_
           refine oA 5 60 (fun K hK => ?_)
           refine goes_ Tryd.func78 (t23) rfl #[.int .i64 ((rd_T67 l0_3 x3_2).f0), .int .i64 1, .int .i64 (wrap64 (a0_2 - 1))] (by rfl) rfl rfl (t2) ?_
           with_reducible refine (spec_l01In.calls ((rd_T67 l0_3 x3_2).f0) 1 (wrap64 (a0_2 - 1)) true _ A21.out).mono ?_
           rintro e w' ⟨rfl, ⟨nd, rfl⟩⟩
           refine ⟨_, rfl, ?_⟩
           refine hK.out _ _ ⟨(blk_cell BK118.out 0).trans rfl, (blk_cell BK118.out 1).trans rfl, (blk_cell BK118.out 2).trans rfl, (blk_cell BK113.out 0).trans rfl, (blk_cell BK113.out 1).trans rfl, (blk_cell BK113.out 2).trans rfl, (blk_cell BK113.out 3).trans rfl, (blk_cell BK113.out 4).trans rfl⟩ (fun hHeld => ?_)
           clear hK K
           refine norm_ (a' := ?_) ?_ ?_
           rotate_left
           ·show Act.put _ (some 60) _ = _
            simp only [Act.put, List.setIfInBounds_toArray, List.set_cons_zero, List.set_cons_succ, i64_w, i32_w]
            rfl
           refine pA 6 61 ?_
           refine pA 7 62 ?_
           refine pA 8 63 ?_
           refine pA 9 64 ?_
           refine pA 10 65 ?_
           refine pU 11 66 ?_
           refine pU 12 67 ?_
           refine pU 13 68 ?_
           refine pU 14 69 ?_
           refine pU 15 70 ?_
           refine pU 16 71 ?_
           refine pU 17 72 ?_
           refine pU 18 73 ?_
           refine pU 19 74 ?_
           refine pU 20 75 ?_
           refine pA 21 76 ?_
           refine pA 22 77 ?_
           refine pA 23 78 ?_
           refine pA 24 79 ?_
           refine tA 25 80 ?_
           refine oA 26 81 (fun K hK => ?_)
           refine goes_ Tryd.func78 (t23) rfl #[.int .i64 ((rd_T67 l0_3 x3_2).f1), .int .i64 0, .int .i64 31] (by rfl) rfl rfl (t2) ?_
           with_reducible refine (spec_l01In.calls ((rd_T67 l0_3 x3_2).f1) 0 31 false _ A55.out).mono ?_
           rintro e w' ⟨rfl, ⟨nd, rfl⟩⟩
           refine ⟨_, rfl, ?_⟩
           refine hK.out _ _ ⟨(blk_cell BK118.out 0).trans rfl, (blk_cell BK118.out 1).trans rfl, (blk_cell BK118.out 2).trans rfl, (blk_cell BK113.out 0).trans rfl, (blk_cell BK113.out 1).trans rfl, (blk_cell BK113.out 2).trans rfl, (blk_cell BK113.out 3).trans rfl, (blk_cell BK113.out 4).trans rfl⟩ (fun hHeld => ?_)
           clear hK K
           refine norm_ (a' := ?_) ?_ ?_
           rotate_left
           ·show Act.put _ (some 81) _ = _
            simp only [Act.put, List.setIfInBounds_toArray, List.set_cons_zero, List.set_cons_succ, i64_w, i32_w]
            rfl
           refine pA 27 82 ?_
           refine pA 28 83 ?_
           refine pA 29 84 ?_
           refine pU 30 85 ?_
           refine pU 31 86 ?_
           refine pU 32 87 ?_
           refine pU 33 88 ?_
           refine pA 34 89 ?_
           refine done_ (done_of HT_.out (t23)) ?_
           try go_wp2
           go_ret
           exact ⟨t4, by repeat (first | (with_reducible first | exact HB.out | apply below_alloc | apply pw_below_drewN | apply below_drew1 | refine below_set ?_ GE113.out | refine below_set ?_ GE118.out) | exact HB.out)⟩
        ·replace c22 := Bool.eq_false_iff.mpr c22
         subst c22
         have H1 : (some false) = some r := by rw [if_neg (show ¬ (false = true) by decide)] at H; exact H
         clear H
         have H := H1
         clear H1
         obtain rfl := Option.some.inj H
         have hcz76_0 : wr.cell? ⟨gb113, 0, none⟩ = some (.string a0_0) := (blk_cell BK113.out 0).trans rfl
         have hcz76_1 : wr.cell? ⟨gb113, 1, none⟩ = some (.int .i64 a0_1) := (blk_cell BK113.out 1).trans rfl
         have hcz76_2 : wr.cell? ⟨gb113, 2, none⟩ = some (.int .i64 a0_2) := (blk_cell BK113.out 2).trans rfl
         have hcz76_3 : wr.cell? ⟨gb113, 3, none⟩ = some (.slice A0_3 l0_3.length c0_3) := (blk_cell BK113.out 3).trans rfl
         have hcz76_4 : wr.cell? ⟨gb113, 4, none⟩ = some (.slice A0_4 l0_4.length c0_4) := (blk_cell BK113.out 4).trans rfl
         have hfz76_0 := blk_frozen BK113.out 0
         have hfz76_1 := blk_frozen BK113.out 1
         have hfz76_2 := blk_frozen BK113.out 2
         have hfz76_3 := blk_frozen BK113.out 3
         have hfz76_4 := blk_frozen BK113.out 4
         have p117 : 0 ≤ (x3_2 : Int) := of_decide_eq_true (t3)
         have q117 : x3_2 < (l0_3.length : Int) := of_decide_eq_true (t3)
         obtain ⟨ad117, e117, hx117_0, hx117_1, hx117_2⟩ := at_T67 HR0_3.out x3_2 p117 q117
         cases e117
         replace hx117_0 := (HB.out.cell (World.block_lt_of_cell? w _ hx117_0)).trans hx117_0
         replace hx117_1 := (HB.out.cell (World.block_lt_of_cell? w _ hx117_1)).trans hx117_1
         replace hx117_2 := (HB.out.cell (World.block_lt_of_cell? w _ hx117_2)).trans hx117_2
         replace p117 := eq_true p117
         replace q117 := eq_true q117
         try go_wp2_with (first | ((with_reducible refine gate_dst (N := 4) rfl ?_); (try (refine gate_guard (by rfl) ?_; dsimp only)); refine box_event ?hg (N := 4) ?hd (cs := #[.int .i64 0, .int .i64 0, .string (⟨#[]⟩ : ByteArray)]) (t := 67) ?hr ?_; (case hd => rfl); (case hg => rfl); (case hr => first | (go_simp; done) | (go_simp; rfl)); intro gb118 hg w77 hbox hb; have n0_ := Aside0.mk (blk_below (g := gb113) (o := .cells #[.string a0_0, .int .i64 a0_1, .int .i64 a0_2, .slice (some ad117) l0_3.length c0_3, .slice A0_4 l0_4.length c0_4] 32 (0, 0)) (t10) hb); have n1_ := Aside0.mk (below_step (t7) hb); have n2_ := Aside0.mk (hbox); have n3_ := Aside0.mk ((by rw [hg]; exact (below_size (t7)) : w.heap.size ≤ gb118)); have n4_ := Aside0.mk ((by rw [hg]; exact (below_size (t7)) : w.heap.size ≤ gb118)); have n5_ := Aside0.mk ((by rw [hg]; exact Nat.ne_of_lt (blk_lt (g := gb113) (o := .cells #[.string a0_0, .int .i64 a0_1, .int .i64 a0_2, .slice (some ad117) l0_3.length c0_3, .slice A0_4 l0_4.length c0_4] 32 (0, 0)) (t10)) : gb113 ≠ gb118)); have n6_ := Aside0.mk ((by rw [hg]; exact Nat.ne_of_gt (blk_lt (g := gb113) (o := .cells #[.string a0_0, .int .i64 a0_1, .int .i64 a0_2, .slice (some ad117) l0_3.length c0_3, .slice A0_4 l0_4.length c0_4] 32 (0, 0)) (t10)) : gb118 ≠ gb113)); clear BK113; clear HB; have BK113 := n0_; have HB := n1_; have BK118 := n2_; have GW118 := n3_; have GE118 := n4_; have NB113_118 := n5_; have NB118_113 := n6_; clear n0_ n1_ n2_ n3_ n4_ n5_ n6_; clear hb hbox hg; have hnb78 := NB118_113.out; have hnc78 := NB113_118.out; have hcz79_0 : w77.cell? ⟨gb118, 0, none⟩ = some (.int .i64 0) := (blk_cell BK118.out 0).trans rfl; have hcz79_1 : w77.cell? ⟨gb118, 1, none⟩ = some (.int .i64 0) := (blk_cell BK118.out 1).trans rfl; have hcz79_2 : w77.cell? ⟨gb118, 2, none⟩ = some (.string (⟨#[]⟩ : ByteArray)) := (blk_cell BK118.out 2).trans rfl; have hfz79_0 := blk_frozen BK118.out 0; have hfz79_1 := blk_frozen BK118.out 1; have hfz79_2 := blk_frozen BK118.out 2))
         have n0_ : Aside0 ((((w77.setCell ⟨gb118, 0, none⟩ (.int .i64 ((rd_T67 l0_3 x3_2).f0))).setCell ⟨gb118, 1, none⟩ (.int .i64 ((rd_T67 l0_3 x3_2).f1))).setCell ⟨gb118, 2, none⟩ (.string ((rd_T67 l0_3 x3_2).f2))).heap[gb113]? = some (.cells #[.string a0_0, .int .i64 a0_1, .int .i64 a0_2, .slice (some ad117) l0_3.length c0_3, .slice A0_4 l0_4.length c0_4] 32 (0, 0))) := ⟨t8⟩
         have n1_ : Aside0 ((((w77.setCell ⟨gb118, 0, none⟩ (.int .i64 ((rd_T67 l0_3 x3_2).f0))).setCell ⟨gb118, 1, none⟩ (.int .i64 ((rd_T67 l0_3 x3_2).f1))).setCell ⟨gb118, 2, none⟩ (.string ((rd_T67 l0_3 x3_2).f2))).heap[gb118]? = some (.cells #[.int .i64 ((rd_T67 l0_3 x3_2).f0), .int .i64 ((rd_T67 l0_3 x3_2).f1), .string ((rd_T67 l0_3 x3_2).f2)] 67 (0, 0))) := ⟨t6⟩
         have n2_ : Aside0 (Below w.heap.size w (((w77.setCell ⟨gb118, 0, none⟩ (.int .i64 ((rd_T67 l0_3 x3_2).f0))).setCell ⟨gb118, 1, none⟩ (.int .i64 ((rd_T67 l0_3 x3_2).f1))).setCell ⟨gb118, 2, none⟩ (.string ((rd_T67 l0_3 x3_2).f2)))) := ⟨t25⟩
         (try clear BK113)
         (try clear BK118)
         (try clear HB)
         generalize (((w77.setCell ⟨gb118, 0, none⟩ (.int .i64 ((rd_T67 l0_3 x3_2).f0))).setCell ⟨gb118, 1, none⟩ (.int .i64 ((rd_T67 l0_3 x3_2).f1))).setCell ⟨gb118, 2, none⟩ (.string ((rd_T67 l0_3 x3_2).f2))) = w80 at n0_ n1_ n2_ ⊢
         have BK113 := n0_
         have BK118 := n1_
         have HB := n2_
         clear n0_ n1_ n2_
         have n0_ := Aside0.mk (blk_drew BK113.out)
         have n1_ := Aside0.mk (blk_drew BK118.out)
         have n2_ := Aside0.mk (below_drew1 HB.out)
         clear BK113
         clear BK118
         clear HB
         have BK113 := n0_
         have BK118 := n1_
         have HB := n2_
         clear n0_ n1_ n2_
         refine start_ (n := 35) (S := fun w' => w'.cell? ⟨gb118, 0, none⟩ = some (.int .i64 ((rd_T67 l0_3 x3_2).f0)) ∧ w'.cell? ⟨gb118, 1, none⟩ = some (.int .i64 ((rd_T67 l0_3 x3_2).f1)) ∧ w'.cell? ⟨gb118, 2, none⟩ = some (.string ((rd_T67 l0_3 x3_2).f2)) ∧ w'.cell? ⟨gb113, 0, none⟩ = some (.string a0_0) ∧ w'.cell? ⟨gb113, 1, none⟩ = some (.int .i64 a0_1) ∧ w'.cell? ⟨gb113, 2, none⟩ = some (.int .i64 a0_2) ∧ w'.cell? ⟨gb113, 3, none⟩ = some (.slice (some ad117) l0_3.length c0_3) ∧ w'.cell? ⟨gb113, 4, none⟩ = some (.slice A0_4 l0_4.length c0_4)) (ds := []) #[false, false, false, false, false, false, false, false, false, false, false, false, false, false, false, false, false, false, false, false, false, false, false, false, false, false, false, false, false, false, false, false, false, false, false] (t23) rfl rfl ⟨(blk_cell BK118.out 0).trans rfl, (blk_cell BK118.out 1).trans rfl, (blk_cell BK118.out 2).trans rfl, (blk_cell BK113.out 0).trans rfl, (blk_cell BK113.out 1).trans rfl, (blk_cell BK113.out 2).trans rfl, (blk_cell BK113.out 3).trans rfl, (blk_cell BK113.out 4).trans rfl⟩ (fun hHeld => ?_); refine with_tabW spec_BoxOK.tab7 spec_BoxOK.bits7 (fun HT_ HW_ => ?_)
         generalize w80.drew = w81 at BK113 BK118 HB hHeld ⊢
         refine pA 0 55 ?_
         refine pA 2 57 ?_
         refine tA 1 56 ?_
         refine tA 3 58 ?_
         refine pA 4 59 ?_
         refine oA 5 60 (fun K hK => ?_)
         refine goes_ Tryd.func78 (t23) rfl #[.int .i64 ((rd_T67 l0_3 x3_2).f0), .int .i64 1, .int .i64 (wrap64 (a0_2 - 1))] (by rfl) rfl rfl (t2) ?_
         with_reducible refine (spec_l01In.calls ((rd_T67 l0_3 x3_2).f0) 1 (wrap64 (a0_2 - 1)) false _ A21.out).mono ?_
         rintro e w' ⟨rfl, ⟨nd, rfl⟩⟩
         refine ⟨_, rfl, ?_⟩
         refine hK.out _ _ ⟨(blk_cell BK118.out 0).trans rfl, (blk_cell BK118.out 1).trans rfl, (blk_cell BK118.out 2).trans rfl, (blk_cell BK113.out 0).trans rfl, (blk_cell BK113.out 1).trans rfl, (blk_cell BK113.out 2).trans rfl, (blk_cell BK113.out 3).trans rfl, (blk_cell BK113.out 4).trans rfl⟩ (fun hHeld => ?_)
         clear hK K
         refine norm_ (a' := ?_) ?_ ?_
         rotate_left
         ·show Act.put _ (some 60) _ = _
          simp only [Act.put, List.setIfInBounds_toArray, List.set_cons_zero, List.set_cons_succ, i64_w, i32_w]
          rfl
         refine pA 6 61 ?_
         refine pA 7 62 ?_
         refine pU 8 63 ?_
         refine pU 9 64 ?_
         refine pU 10 65 ?_
         refine pU 11 66 ?_
         refine pU 12 67 ?_
         refine pU 13 68 ?_
         refine pU 14 69 ?_
         refine pU 15 70 ?_
         refine pU 16 71 ?_
         refine pU 17 72 ?_
         refine pU 18 73 ?_
         refine pU 19 74 ?_
         refine pU 20 75 ?_
         refine pU 21 76 ?_
         refine pA 22 77 ?_
         refine pA 23 78 ?_
         refine pU 24 79 ?_
         refine pU 25 80 ?_
         refine pU 26 81 ?_
         refine pU 27 82 ?_
         refine pA 28 83 ?_
         refine pA 29 84 ?_
         refine pU 30 85 ?_
         refine pU 31 86 ?_
         refine pU 32 87 ?_
         refine pU 33 88 ?_
         refine pA 34 89 ?_
         refine done_ (done_of HT_.out (t23)) ?_
         try go_wp2
         go_ret
         exact ⟨t4, by repeat (first | (with_reducible first | exact HB.out | apply below_alloc | apply pw_below_drewN | apply below_drew1 | refine below_set ?_ GE113.out | refine below_set ?_ GE118.out) | exact HB.out)⟩
       ·rw [if_neg c20] at H
        exact absurd H (t50)
      ·rw [if_neg c19] at H
       have c19b0 : decide (x3_2 < (l0_3.length : Int)) = false := decide_eq_false c19
       clear c19
       have H' := Aside0.mk H
       clear H
       have hcz82_0 : wr.cell? ⟨gb113, 0, none⟩ = some (.string a0_0) := (blk_cell BK113.out 0).trans rfl
       have hcz82_1 : wr.cell? ⟨gb113, 1, none⟩ = some (.int .i64 a0_1) := (blk_cell BK113.out 1).trans rfl
       have hcz82_2 : wr.cell? ⟨gb113, 2, none⟩ = some (.int .i64 a0_2) := (blk_cell BK113.out 2).trans rfl
       have hcz82_3 : wr.cell? ⟨gb113, 3, none⟩ = some (.slice A0_3 l0_3.length c0_3) := (blk_cell BK113.out 3).trans rfl
       have hcz82_4 : wr.cell? ⟨gb113, 4, none⟩ = some (.slice A0_4 l0_4.length c0_4) := (blk_cell BK113.out 4).trans rfl
       have hfz82_0 := blk_frozen BK113.out 0
       have hfz82_1 := blk_frozen BK113.out 1
       have hfz82_2 := blk_frozen BK113.out 2
       have hfz82_3 := blk_frozen BK113.out 3
       have hfz82_4 := blk_frozen BK113.out 4
       go_wp2
       go_loopg [5] k2 (fun kq v5 w' => ∃ (x5_3 : Int), v5 = .int .i64 x5_3 ∧ Aside0 (spec_BoxOK.l1 kq x5_3 a0_0 a0_1 a0_2 l0_3 l0_4 = some r) ∧ Aside0 (kq ≤ k2) ∧ Aside0 (w'.heap[gb113]? = some (.cells #[.string a0_0, .int .i64 a0_1, .int .i64 a0_2, (.slice A0_3 l0_3.length c0_3), (.slice A0_4 l0_4.length c0_4)] 32 (0, 0))) ∧ Aside0 (Below w.heap.size w w'))
       case atStart => exact ⟨(0), (t0), H', ⟨Nat.le_refl _⟩, ⟨t10⟩, ⟨t7⟩⟩
       case round =>
        clear H'
        try clear c1
        try clear p1
        try clear q1
        try clear hx1
        try clear c2
        try clear p2
        try clear c5
        try clear p6
        try clear c7
        try clear p11
        try clear q11
        try clear hx11
        try clear c19
        try clear c19b0
        try clear c20
        try clear c22
        try clear c56
        try clear p64
        try clear c72
        try clear c78
        try clear hcz70_0
        try clear hcz70_1
        try clear hcz70_2
        try clear hcz70_3
        try clear hcz70_4
        try clear hcz73_0
        try clear hcz73_1
        try clear hcz73_2
        try clear hcz76_0
        try clear hcz76_1
        try clear hcz76_2
        try clear hcz76_3
        try clear hcz76_4
        try clear hcz79_0
        try clear hcz79_1
        try clear hcz79_2
        try clear hcz82_0
        try clear hcz82_1
        try clear hcz82_2
        try clear hcz82_3
        try clear hcz82_4
        try clear hfz70_0
        try clear hfz70_1
        try clear hfz70_2
        try clear hfz70_3
        try clear hfz70_4
        try clear hfz73_0
        try clear hfz73_1
        try clear hfz73_2
        try clear hfz76_0
        try clear hfz76_1
        try clear hfz76_2
        try clear hfz76_3
        try clear hfz76_4
        try clear hfz79_0
        try clear hfz79_1
        try clear hfz79_2
        try clear hfz82_0
        try clear hfz82_1
        try clear hfz82_2
        try clear hfz82_3
        try clear hfz82_4
        try clear hx117_0
        try clear hx117_1
        try clear hx117_2
        try clear p117
        try clear q117
        obtain ⟨x5_3, rfl, HA, HK3, BK113, HB⟩ := hrel
        cases gk with
        | zero => exact absurd HA.out (by simp [spec_BoxOK.l1])
        | succ k3 =>
         have H := HA.out
         clear HA
         simp only [spec_BoxOK.l1] at H
         by_cases c83 : x5_3 < (l0_4.length : Int)
         ·rw [if_pos c83] at H
          have c83b0 : decide (x5_3 < (l0_4.length : Int)) = true := decide_eq_true c83
          clear c83
          by_cases c84 : 0 ≤ x5_3
          ·rw [if_pos c84] at H
           have c84b0 : decide (0 ≤ x5_3) = true := decide_eq_true c84
           clear c84
           replace H := Option.bind_eq_some_iff.mp H
           obtain ⟨t124, A850, H⟩ := H
           replace H : (if t124 = true then (if x5_3 ≤ (l0_4.length : Int) then ((spec_l06Has.f k3 (l0_4.take (x5_3 : Int).toNat) (rdOf ByteArray.empty l0_4 x5_3)).bind fun t127 => (if t127 = true then (some false) else (spec_BoxOK.l1 k3 (wrap64 (x5_3 + 1)) a0_0 a0_1 a0_2 l0_3 l0_4))) else (none)) else (some false)) = some r := H
           have A85 := Aside0.mk A850
           clear A850
           by_cases c86 : t124 = true
           ·subst c86
            have H1 : (if x5_3 ≤ (l0_4.length : Int) then ((spec_l06Has.f k3 (l0_4.take (x5_3 : Int).toNat) (rdOf ByteArray.empty l0_4 x5_3)).bind fun t127 => (if t127 = true then (some false) else (spec_BoxOK.l1 k3 (wrap64 (x5_3 + 1)) a0_0 a0_1 a0_2 l0_3 l0_4))) else (none)) = some r := by rw [if_pos rfl] at H; exact H
            clear H
            have H := H1
            clear H1
            have c87b0 := eq_true (of_decide_eq_true (t3) : 0 ≤ x5_3)
            by_cases c88 : x5_3 ≤ (l0_4.length : Int)
            ·rw [if_pos c88] at H
             have c88b0 := eq_true c88
             have c88b1 : decide (x5_3 ≤ (l0_4.length : Int)) = true := decide_eq_true c88
             clear c88
             replace H := Option.bind_eq_some_iff.mp H
             obtain ⟨t127, A890, H⟩ := H
             replace H : (if t127 = true then (some false) else (spec_BoxOK.l1 k3 (wrap64 (x5_3 + 1)) a0_0 a0_1 a0_2 l0_3 l0_4)) = some r := H
             have A89 := Aside0.mk A890
             clear A890
             by_cases c90 : t127 = true
             ·subst c90
              have H1 : (some false) = some r := by rw [if_pos rfl] at H; exact H
              clear H
              have H := H1
              clear H1
              obtain rfl := Option.some.inj H
              have hcz91_0 : wr.cell? ⟨gb113, 0, none⟩ = some (.string a0_0) := (blk_cell BK113.out 0).trans rfl
              have hcz91_1 : wr.cell? ⟨gb113, 1, none⟩ = some (.int .i64 a0_1) := (blk_cell BK113.out 1).trans rfl
              have hcz91_2 : wr.cell? ⟨gb113, 2, none⟩ = some (.int .i64 a0_2) := (blk_cell BK113.out 2).trans rfl
              have hcz91_3 : wr.cell? ⟨gb113, 3, none⟩ = some (.slice A0_3 l0_3.length c0_3) := (blk_cell BK113.out 3).trans rfl
              have hcz91_4 : wr.cell? ⟨gb113, 4, none⟩ = some (.slice A0_4 l0_4.length c0_4) := (blk_cell BK113.out 4).trans rfl
              have hfz91_0 := blk_frozen BK113.out 0
              have hfz91_1 := blk_frozen BK113.out 1
              have hfz91_2 := blk_frozen BK113.out 2
              have hfz91_3 := blk_frozen BK113.out 3
              have hfz91_4 := blk_frozen BK113.out 4
              try go_wp2
              have n0_ := Aside0.mk (blk_drew BK113.out)
              have n1_ := Aside0.mk (below_drew1 HB.out)
              clear BK113
              clear HB
              have BK113 := n0_
              have HB := n1_
              clear n0_ n1_
              have p123 : 0 ≤ (x5_3 : Int) := of_decide_eq_true (t3)
              have q123 : x5_3 < (l0_4.length : Int) := of_decide_eq_true (t3)
              obtain ⟨ad123, e123, hx123_0⟩ := Kd.at_string HR0_4.out x5_3 p123 q123
              have hw123_0 := hx123_0
              cases e123
              replace hx123_0 := (HB.out.cell (World.block_lt_of_cell? w _ hx123_0)).trans hx123_0
              replace p123 := eq_true p123
              replace q123 := eq_true q123
              have p126 : 0 ≤ (x5_3 : Int) := of_decide_eq_true (t3)
              have q126 : x5_3 < (l0_4.length : Int) := of_decide_eq_true (t3)
              obtain ⟨ad126, e126, hx126_0⟩ := Kd.at_string HR0_4.out x5_3 p126 q126
              have hw126_0 := hx126_0
              obtain rfl : ad123 = ad126 := (by injection e126)
              replace hx126_0 := (HB.out.cell (World.block_lt_of_cell? w _ hx126_0)).trans hx126_0
              replace p126 := eq_true p126
              replace q126 := eq_true q126
              refine start_ (n := 20) (S := fun w' => w'.cell? ⟨gb113, 0, none⟩ = some (.string a0_0) ∧ w'.cell? ⟨gb113, 1, none⟩ = some (.int .i64 a0_1) ∧ w'.cell? ⟨gb113, 2, none⟩ = some (.int .i64 a0_2) ∧ w'.cell? ⟨gb113, 3, none⟩ = some (.slice A0_3 l0_3.length c0_3) ∧ w'.cell? ⟨gb113, 4, none⟩ = some (.slice (some ad123) l0_4.length c0_4) ∧ w'.cell? (ad123.add (x5_3).toNat) = some (.string (rdOf ByteArray.empty l0_4 x5_3)) ∧ w'.cell? (ad123.add (x5_3).toNat) = some (.string (rdOf ByteArray.empty l0_4 x5_3))) (ds := []) #[false, false, false, false, false, false, false, false, false, false, false, false, false, false, false, false, false, false, false, false] (t23) rfl rfl ⟨(blk_cell BK113.out 0).trans rfl, (blk_cell BK113.out 1).trans rfl, (blk_cell BK113.out 2).trans rfl, (blk_cell BK113.out 3).trans rfl, (blk_cell BK113.out 4).trans rfl, ((HB.out.cell (World.block_lt_of_cell? w _ hw123_0)).trans hw123_0), ((HB.out.cell (World.block_lt_of_cell? w _ hw126_0)).trans hw126_0)⟩ (fun hHeld => ?_); refine with_tabW spec_BoxOK.tab12 spec_BoxOK.bits12 (fun HT_ HW_ => ?_)
              generalize wr.drew = w92 at BK113 HB hx123_0 hx126_0 hHeld ⊢
              refine pA 0 97 ?_
              refine pA 2 99 ?_
              refine tA 1 98 ?_
              refine pA 3 100 ?_
              refine tA 4 101 ?_
              refine pA 5 102 ?_
              refine oA 6 103 (fun K hK => ?_)
              refine goes_ Tryd.func78 (t23) rfl #[.int .i64 ((rdOf ByteArray.empty l0_4 x5_3).size : Int), .int .i64 1, .int .i64 200] (by rfl) rfl rfl (t2) ?_
              with_reducible refine (spec_l01In.calls ((rdOf ByteArray.empty l0_4 x5_3).size : Int) 1 200 true _ A85.out).mono ?_
              rintro e w' ⟨rfl, ⟨nd, rfl⟩⟩
              refine ⟨_, rfl, ?_⟩
              obtain ⟨i093, hi093, _, hsz93, _⟩ := info_parts info9
              obtain ⟨hcut93, hA93, hC93⟩ := print_take_of (P := Tryd.prog) Value.string (⟨#[]⟩ : ByteArray) 23 9 .i64 Tryd.underlying23 hi093 hsz93 (some ad123) c0_4 l0_4 x5_3 (of_decide_eq_true (t3)) (of_decide_eq_true (t3)) HC0_4.out
              have HR125 := Aside0.mk (Kd.C_of_reads (h1 := fun _ => rfl) (hA93 _ (Kd.reads_of_C HR0_4.out)))
              have HC125 := Aside0.mk hC93
              clear hA93 hC93 hi093 hsz93
              refine hK.out _ _ ⟨(blk_cell BK113.out 0).trans rfl, (blk_cell BK113.out 1).trans rfl, (blk_cell BK113.out 2).trans rfl, (blk_cell BK113.out 3).trans rfl, (blk_cell BK113.out 4).trans rfl, ((HB.out.cell (World.block_lt_of_cell? w _ hw123_0)).trans hw123_0), ((HB.out.cell (World.block_lt_of_cell? w _ hw126_0)).trans hw126_0)⟩ (fun hHeld => ?_)
              clear hK K
              refine norm_ (a' := ?_) ?_ ?_
              rotate_left
              ·show Act.put _ (some 103) _ = _
               simp only [Act.put, List.setIfInBounds_toArray, List.set_cons_zero, List.set_cons_succ, i64_w, i32_w]
               rfl
              refine pA 7 104 ?_
              refine pA 8 105 ?_
              refine pA 9 106 ?_
              refine pA 11 108 ?_
              refine pA 13 110 ?_
              refine pA 15 112 ?_
              refine tA 10 107 ?_
              refine pA 12 109 ?_
              refine tA 14 111 ?_
              refine pA 16 113 ?_
              refine tA 17 114 ?_
              refine oA 18 115 (fun K hK => ?_)
              refine goes_ Tryd.func84 (t23) rfl #[.slice (some ad123) (l0_4.take (x5_3 : Int).toNat).length c0_4, .string (rdOf ByteArray.empty l0_4 x5_3)] (by rfl) rfl rfl (by (try simp only [List.map_toArray, List.map_cons, List.map_nil]); first | done | (rw [show (l0_4.take (x5_3 : Int).toNat).length = x5_3.toNat from (by rw [List.length_take]; have h_ : (x5_3 : Int) ≤ (l0_4.length : Int) := of_decide_eq_true (t3); omega)] <;> rfl) | rfl | (simp only [List.length_drop, List.length_take]; rfl)) ?_
              with_reducible refine (spec_l06Has.calls k3 _ _ (l0_4.take (x5_3 : Int).toNat) (rdOf ByteArray.empty l0_4 x5_3) true _ ?side1 ?side2 A89.out).mono ?_
              (case side1 => repeat (first | exact (Kd.C_below HR125.out (t7)) | (with_reducible refine Kd.C_alloc ?_ _) | (with_reducible refine Kd.C_drewN ?_ _) | (with_reducible refine Kd.C_drew ?_)))
              (case side2 => exact HC125.out)
              rintro e w' ⟨rfl, ⟨nd, rfl⟩⟩
              refine ⟨_, rfl, ?_⟩
              refine hK.out _ _ ⟨(blk_cell BK113.out 0).trans rfl, (blk_cell BK113.out 1).trans rfl, (blk_cell BK113.out 2).trans rfl, (blk_cell BK113.out 3).trans rfl, (blk_cell BK113.out 4).trans rfl, ((HB.out.cell (World.block_lt_of_cell? w _ hw123_0)).trans hw123_0), ((HB.out.cell (World.block_lt_of_cell? w _ hw126_0)).trans hw126_0)⟩ (fun hHeld => ?_)
              clear hK K
              refine norm_ (a' := ?_) ?_ ?_
              rotate_left
              ·show Act.put _ (some 115) _ = _
               simp only [Act.put, List.setIfInBounds_toArray, List.set_cons_zero, List.set_cons_succ, i64_w, i32_w]
               rfl
              refine pA 19 116 ?_
              refine done_ (done_of HT_.out (t23)) ?_
              try go_wp2
              go_ret
              exact ⟨t4, by repeat (first | (with_reducible first | exact HB.out | apply below_alloc | apply pw_below_drewN | apply below_drew1 | refine below_set ?_ GE113.out) | exact HB.out)⟩
             ·replace c90 := Bool.eq_false_iff.mpr c90
              subst c90
              have H1 : (spec_BoxOK.l1 k3 (wrap64 (x5_3 + 1)) a0_0 a0_1 a0_2 l0_3 l0_4) = some r := by rw [if_neg (show ¬ (false = true) by decide)] at H; exact H
              clear H
              have H := H1
              clear H1
              have H' := Aside0.mk H
              clear H
              have hcz94_0 : wr.cell? ⟨gb113, 0, none⟩ = some (.string a0_0) := (blk_cell BK113.out 0).trans rfl
              have hcz94_1 : wr.cell? ⟨gb113, 1, none⟩ = some (.int .i64 a0_1) := (blk_cell BK113.out 1).trans rfl
              have hcz94_2 : wr.cell? ⟨gb113, 2, none⟩ = some (.int .i64 a0_2) := (blk_cell BK113.out 2).trans rfl
              have hcz94_3 : wr.cell? ⟨gb113, 3, none⟩ = some (.slice A0_3 l0_3.length c0_3) := (blk_cell BK113.out 3).trans rfl
              have hcz94_4 : wr.cell? ⟨gb113, 4, none⟩ = some (.slice A0_4 l0_4.length c0_4) := (blk_cell BK113.out 4).trans rfl
              have hfz94_0 := blk_frozen BK113.out 0
              have hfz94_1 := blk_frozen BK113.out 1
              have hfz94_2 := blk_frozen BK113.out 2
              have hfz94_3 := blk_frozen BK113.out 3
              have hfz94_4 := blk_frozen BK113.out 4
              try go_wp2
              have n0_ := Aside0.mk (blk_drew BK113.out)
              have n1_ := Aside0.mk (below_drew1 HB.out)
              clear BK113
              clear HB
              have BK113 := n0_
              have HB := n1_
              clear n0_ n1_
              have p123 : 0 ≤ (x5_3 : Int) := of_decide_eq_true (t3)
              have q123 : x5_3 < (l0_4.length : Int) := of_decide_eq_true (t3)
              obtain ⟨ad123, e123, hx123_0⟩ := Kd.at_string HR0_4.out x5_3 p123 q123
              have hw123_0 := hx123_0
              cases e123
              replace hx123_0 := (HB.out.cell (World.block_lt_of_cell? w _ hx123_0)).trans hx123_0
              replace p123 := eq_true p123
              replace q123 := eq_true q123
              have p126 : 0 ≤ (x5_3 : Int) := of_decide_eq_true (t3)
              have q126 : x5_3 < (l0_4.length : Int) := of_decide_eq_true (t3)
              obtain ⟨ad126, e126, hx126_0⟩ := Kd.at_string HR0_4.out x5_3 p126 q126
              have hw126_0 := hx126_0
              obtain rfl : ad123 = ad126 := (by injection e126)
              replace hx126_0 := (HB.out.cell (World.block_lt_of_cell? w _ hx126_0)).trans hx126_0
              replace p126 := eq_true p126
              replace q126 := eq_true q126
              refine start_ (n := 20) (S := fun w' => w'.cell? ⟨gb113, 0, none⟩ = some (.string a0_0) ∧ w'.cell? ⟨gb113, 1, none⟩ = some (.int .i64 a0_1) ∧ w'.cell? ⟨gb113, 2, none⟩ = some (.int .i64 a0_2) ∧ w'.cell? ⟨gb113, 3, none⟩ = some (.slice A0_3 l0_3.length c0_3) ∧ w'.cell? ⟨gb113, 4, none⟩ = some (.slice (some ad123) l0_4.length c0_4) ∧ w'.cell? (ad123.add (x5_3).toNat) = some (.string (rdOf ByteArray.empty l0_4 x5_3)) ∧ w'.cell? (ad123.add (x5_3).toNat) = some (.string (rdOf ByteArray.empty l0_4 x5_3))) (ds := []) #[false, false, false, false, false, false, false, false, false, false, false, false, false, false, false, false, false, false, false, false] (t23) rfl rfl ⟨(blk_cell BK113.out 0).trans rfl, (blk_cell BK113.out 1).trans rfl, (blk_cell BK113.out 2).trans rfl, (blk_cell BK113.out 3).trans rfl, (blk_cell BK113.out 4).trans rfl, ((HB.out.cell (World.block_lt_of_cell? w _ hw123_0)).trans hw123_0), ((HB.out.cell (World.block_lt_of_cell? w _ hw126_0)).trans hw126_0)⟩ (fun hHeld => ?_); refine with_tabW spec_BoxOK.tab12 spec_BoxOK.bits12 (fun HT_ HW_ => ?_)
              generalize wr.drew = w95 at BK113 HB hx123_0 hx126_0 hHeld ⊢
              refine pA 0 97 ?_
              refine pA 2 99 ?_
              refine tA 1 98 ?_
              refine pA 3 100 ?_
              refine tA 4 101 ?_
              refine pA 5 102 ?_
              refine oA 6 103 (fun K hK => ?_)
              refine goes_ Tryd.func78 (t23) rfl #[.int .i64 ((rdOf ByteArray.empty l0_4 x5_3).size : Int), .int .i64 1, .int .i64 200] (by rfl) rfl rfl (t2) ?_
              with_reducible refine (spec_l01In.calls ((rdOf ByteArray.empty l0_4 x5_3).size : Int) 1 200 true _ A85.out).mono ?_
              rintro e w' ⟨rfl, ⟨nd, rfl⟩⟩
              refine ⟨_, rfl, ?_⟩
              obtain ⟨i096, hi096, _, hsz96, _⟩ := info_parts info9
              obtain ⟨hcut96, hA96, hC96⟩ := print_take_of (P := Tryd.prog) Value.string (⟨#[]⟩ : ByteArray) 23 9 .i64 Tryd.underlying23 hi096 hsz96 (some ad123) c0_4 l0_4 x5_3 (of_decide_eq_true (t3)) (of_decide_eq_true (t3)) HC0_4.out
              have HR125 := Aside0.mk (Kd.C_of_reads (h1 := fun _ => rfl) (hA96 _ (Kd.reads_of_C HR0_4.out)))
              have HC125 := Aside0.mk hC96
              clear hA96 hC96 hi096 hsz96
              refine hK.out _ _ ⟨(blk_cell BK113.out 0).trans rfl, (blk_cell BK113.out 1).trans rfl, (blk_cell BK113.out 2).trans rfl, (blk_cell BK113.out 3).trans rfl, (blk_cell BK113.out 4).trans rfl, ((HB.out.cell (World.block_lt_of_cell? w _ hw123_0)).trans hw123_0), ((HB.out.cell (World.block_lt_of_cell? w _ hw126_0)).trans hw126_0)⟩ (fun hHeld => ?_)
              clear hK K
              refine norm_ (a' := ?_) ?_ ?_
              rotate_left
              ·show Act.put _ (some 103) _ = _
               simp only [Act.put, List.setIfInBounds_toArray, List.set_cons_zero, List.set_cons_succ, i64_w, i32_w]
               rfl
              refine pA 7 104 ?_
              refine pA 8 105 ?_
              refine pA 9 106 ?_
              refine pA 11 108 ?_
              refine pA 13 110 ?_
              refine pA 15 112 ?_
              refine tA 10 107 ?_
              refine pA 12 109 ?_
              refine tA 14 111 ?_
              refine pA 16 113 ?_
              refine tA 17 114 ?_
              refine oA 18 115 (fun K hK => ?_)
              refine goes_ Tryd.func84 (t23) rfl #[.slice (some ad123) (l0_4.take (x5_3 : Int).toNat).length c0_4, .string (rdOf ByteArray.empty l0_4 x5_3)] (by rfl) rfl rfl (by (try simp only [List.map_toArray, List.map_cons, List.map_nil]); first | done | (rw [show (l0_4.take (x5_3 : Int).toNat).length = x5_3.toNat from (by rw [List.length_take]; have h_ : (x5_3 : Int) ≤ (l0_4.length : Int) := of_decide_eq_true (t3); omega)] <;> rfl) | rfl | (simp only [List.length_drop, List.length_take]; rfl)) ?_
              with_reducible refine (spec_l06Has.calls k3 _ _ (l0_4.take (x5_3 : Int).toNat) (rdOf ByteArray.empty l0_4 x5_3) false _ ?side1 ?side2 A89.out).mono ?_
              (case side1 => repeat (first | exact (Kd.C_below HR125.out (t7)) | (with_reducible refine Kd.C_alloc ?_ _) | (with_reducible refine Kd.C_drewN ?_ _) | (with_reducible refine Kd.C_drew ?_)))
              (case side2 => exact HC125.out)
              rintro e w' ⟨rfl, ⟨nd, rfl⟩⟩
              refine ⟨_, rfl, ?_⟩
              refine hK.out _ _ ⟨(blk_cell BK113.out 0).trans rfl, (blk_cell BK113.out 1).trans rfl, (blk_cell BK113.out 2).trans rfl, (blk_cell BK113.out 3).trans rfl, (blk_cell BK113.out 4).trans rfl, ((HB.out.cell (World.block_lt_of_cell? w _ hw123_0)).trans hw123_0), ((HB.out.cell (World.block_lt_of_cell? w _ hw126_0)).trans hw126_0)⟩ (fun hHeld => ?_)
              clear hK K
              refine norm_ (a' := ?_) ?_ ?_
              rotate_left
              ·show Act.put _ (some 115) _ = _
               simp only [Act.put, List.setIfInBounds_toArray, List.set_cons_zero, List.set_cons_succ, i64_w, i32_w]
               rfl
              refine pA 19 116 ?_
              refine done_ (done_of HT_.out (t23)) ?_
              try go_wp2
              go_roundg k3
              case measure => have := HJ1.out; have := HK2.out; have := HK3.out; omega
              case rel => exact ⟨(wrap64 (x5_3 + 1)), (t0), H', ⟨by have := HJ1.out; have := HK2.out; have := HK3.out; omega⟩, ⟨t10⟩, ⟨t7⟩⟩
            ·rw [if_neg c88] at H
             exact absurd H (t50)
           ·replace c86 := Bool.eq_false_iff.mpr c86
            subst c86
            have H1 : (some false) = some r := by rw [if_neg (show ¬ (false = true) by decide)] at H; exact H
            clear H
            have H := H1
            clear H1
            obtain rfl := Option.some.inj H
            have hcz97_0 : wr.cell? ⟨gb113, 0, none⟩ = some (.string a0_0) := (blk_cell BK113.out 0).trans rfl
            have hcz97_1 : wr.cell? ⟨gb113, 1, none⟩ = some (.int .i64 a0_1) := (blk_cell BK113.out 1).trans rfl
            have hcz97_2 : wr.cell? ⟨gb113, 2, none⟩ = some (.int .i64 a0_2) := (blk_cell BK113.out 2).trans rfl
            have hcz97_3 : wr.cell? ⟨gb113, 3, none⟩ = some (.slice A0_3 l0_3.length c0_3) := (blk_cell BK113.out 3).trans rfl
            have hcz97_4 : wr.cell? ⟨gb113, 4, none⟩ = some (.slice A0_4 l0_4.length c0_4) := (blk_cell BK113.out 4).trans rfl
            have hfz97_0 := blk_frozen BK113.out 0
            have hfz97_1 := blk_frozen BK113.out 1
            have hfz97_2 := blk_frozen BK113.out 2
            have hfz97_3 := blk_frozen BK113.out 3
            have hfz97_4 := blk_frozen BK113.out 4
            try go_wp2
            have n0_ := Aside0.mk (blk_drew BK113.out)
            have n1_ := Aside0.mk (below_drew1 HB.out)
            clear BK113
            clear HB
            have BK113 := n0_
            have HB := n1_
            clear n0_ n1_
            have p123 : 0 ≤ (x5_3 : Int) := of_decide_eq_true (t3)
            have q123 : x5_3 < (l0_4.length : Int) := of_decide_eq_true (t3)
            obtain ⟨ad123, e123, hx123_0⟩ := Kd.at_string HR0_4.out x5_3 p123 q123
            have hw123_0 := hx123_0
            cases e123
            replace hx123_0 := (HB.out.cell (World.block_lt_of_cell? w _ hx123_0)).trans hx123_0
            replace p123 := eq_true p123
            replace q123 := eq_true q123
            refine start_ (n := 20) (S := fun w' => w'.cell? ⟨gb113, 0, none⟩ = some (.string a0_0) ∧ w'.cell? ⟨gb113, 1, none⟩ = some (.int .i64 a0_1) ∧ w'.cell? ⟨gb113, 2, none⟩ = some (.int .i64 a0_2) ∧ w'.cell? ⟨gb113, 3, none⟩ = some (.slice A0_3 l0_3.length c0_3) ∧ w'.cell? ⟨gb113, 4, none⟩ = some (.slice (some ad123) l0_4.length c0_4) ∧ w'.cell? (ad123.add (x5_3).toNat) = some (.string (rdOf ByteArray.empty l0_4 x5_3))) (ds := []) #[false, false, false, false, false, false, false, false, false, false, false, false, false, false, false, false, false, false, false, false] (t23) rfl rfl ⟨(blk_cell BK113.out 0).trans rfl, (blk_cell BK113.out 1).trans rfl, (blk_cell BK113.out 2).trans rfl, (blk_cell BK113.out 3).trans rfl, (blk_cell BK113.out 4).trans rfl, ((HB.out.cell (World.block_lt_of_cell? w _ hw123_0)).trans hw123_0)⟩ (fun hHeld => ?_); refine with_tabW spec_BoxOK.tab12 spec_BoxOK.bits12 (fun HT_ HW_ => ?_)
            generalize wr.drew = w98 at BK113 HB hx123_0 hHeld ⊢
            refine pA 0 97 ?_
            refine pA 2 99 ?_
            refine tA 1 98 ?_
            refine pA 3 100 ?_
            refine tA 4 101 ?_
            refine pA 5 102 ?_
            refine oA 6 103 (fun K hK => ?_)
            refine goes_ Tryd.func78 (t23) rfl #[.int .i64 ((rdOf ByteArray.empty l0_4 x5_3).size : Int), .int .i64 1, .int .i64 200] (by rfl) rfl rfl (t2) ?_
            with_reducible refine (spec_l01In.calls ((rdOf ByteArray.empty l0_4 x5_3).size : Int) 1 200 false _ A85.out).mono ?_
            rintro e w' ⟨rfl, ⟨nd, rfl⟩⟩
            refine ⟨_, rfl, ?_⟩
            refine hK.out _ _ ⟨(blk_cell BK113.out 0).trans rfl, (blk_cell BK113.out 1).trans rfl, (blk_cell BK113.out 2).trans rfl, (blk_cell BK113.out 3).trans rfl, (blk_cell BK113.out 4).trans rfl, ((HB.out.cell (World.block_lt_of_cell? w _ hw123_0)).trans hw123_0)⟩ (fun hHeld => ?_)
            clear hK K
            refine norm_ (a' := ?_) ?_ ?_
            rotate_left
            ·show Act.put _ (some 103) _ = _
             simp only [Act.put, List.setIfInBounds_toArray, List.set_cons_zero, List.set_cons_succ, i64_w, i32_w]
             rfl
            refine pA 7 104 ?_
            refine pA 8 105 ?_
            refine pU 9 106 ?_
            refine pU 10 107 ?_
            refine pU 11 108 ?_
            refine pU 12 109 ?_
            refine pU 13 110 ?_
            refine pU 14 111 ?_
            refine pU 15 112 ?_
            refine pU 16 113 ?_
            refine pU 17 114 ?_
            refine pU 18 115 ?_
            refine pA 19 116 ?_
            refine done_ (done_of HT_.out (t23)) ?_
            try go_wp2
            go_ret
            exact ⟨t4, by repeat (first | (with_reducible first | exact HB.out | apply below_alloc | apply pw_below_drewN | apply below_drew1 | refine below_set ?_ GE113.out) | exact HB.out)⟩
          ·rw [if_neg c84] at H
           exact absurd H (t50)
         ·rw [if_neg c83] at H
          have c83b0 : decide (x5_3 < (l0_4.length : Int)) = false := decide_eq_false c83
          clear c83
          obtain rfl := Option.some.inj H
          have hcz99_0 : wr.cell? ⟨gb113, 0, none⟩ = some (.string a0_0) := (blk_cell BK113.out 0).trans rfl
          have hcz99_1 : wr.cell? ⟨gb113, 1, none⟩ = some (.int .i64 a0_1) := (blk_cell BK113.out 1).trans rfl
          have hcz99_2 : wr.cell? ⟨gb113, 2, none⟩ = some (.int .i64 a0_2) := (blk_cell BK113.out 2).trans rfl
          have hcz99_3 : wr.cell? ⟨gb113, 3, none⟩ = some (.slice A0_3 l0_3.length c0_3) := (blk_cell BK113.out 3).trans rfl
          have hcz99_4 : wr.cell? ⟨gb113, 4, none⟩ = some (.slice A0_4 l0_4.length c0_4) := (blk_cell BK113.out 4).trans rfl
          have hfz99_0 := blk_frozen BK113.out 0
          have hfz99_1 := blk_frozen BK113.out 1
          have hfz99_2 := blk_frozen BK113.out 2
          have hfz99_3 := blk_frozen BK113.out 3
          have hfz99_4 := blk_frozen BK113.out 4
          go_wp2
          go_ret
          exact ⟨t4, by repeat (first | (with_reducible first | exact HB.out | apply below_alloc | apply pw_below_drewN | apply below_drew1 | refine below_set ?_ GE113.out) | exact HB.out)⟩

end Go.Proofs.YtnphhnhnmohfiaaDoor.PFnExactViewUpdates
