/- Contracts of the functions that a statement reaches: written for this seat by wip/x/xprint.py over the kit's print, with own contracts for what the print lacks. -/
import Derived.Test.YtnphhnhnmohfiaaDoorPFnExactViewUpdatesx0
import Derived.Test.YtnphhnhnmohfiaaDoorPFnExactViewUpdatesx1
import Derived.Test.YtnphhnhnmohfiaaDoorPFnExactViewUpdatesx5
import Derived.Test.YtnphhnhnmohfiaaDoorPFnExactViewUpdatesx6
import Derived.Test.YtnphhnhnmohfiaaDoorPFnExactViewUpdatesx10
import Derived.Test.YtnphhnhnmohfiaaDoorPFnExactViewUpdatesx11
namespace Go.Proofs.YtnphhnhnmohfiaaDoor.PFnExactViewUpdates
open Go.RowKit Go.Proofs.YtnphhnhnmohfiaaDoorW.PrintWords Go.Proofs.YtnphhnhnmohfiaaDoorW.PrintLast Go.Proofs.YtnphhnhnmohfiaaDoorW.PrintMore Go.Proofs.YtnphhnhnmohfiaaDoor.Mac
attribute [local go_sem] max2_int min2_int max_two min_two max_three min_three max_four min_four   -- for this text's walks alone
set_option linter.unusedVariables false
set_option linter.unusedSimpArgs false

/-! ### laws_FnExactViewUpdates: function 3 -/
mutual
def laws_FnExactViewUpdates.j0 : Nat → List Int → ByteArray → List Int → Int → List Int → ByteArray → List Int → Int → Bool → ByteArray → Int → Int → List (S64) → List ByteArray → ByteArray → Int → Int → List (S67) → List ByteArray → Option (Bool)
 | 0, _, _, _, _, _, _, _, _, _, _, _, _, _, _, _, _, _, _, _ => none
 | k + 1, x1, x6, x7, x8, x10, x11, x12, x13, x61, x297000, x297001, x297002, x297003, x297004, x325000, x325001, x325002, x325003, x325004 => if x61 = true then (some false) else ((laws_toBox.f k x297000 x297001 x297002 x297003 x297004).bind fun bt334 => ((laws_eqBox.f k x325000 x325001 x325002 x325003 x325004 bt334.1 bt334.2.1 bt334.2.2.1 bt334.2.2.2.1 bt334.2.2.2.2).bind fun t343 => (if t343 = true then ((laws_toIntS.f k x1).bind fun t344 => ((laws_eqIntS.f k x10 t344).bind fun t347 => (if t347 = true then ((laws_markBox.f k x325000 x325001 x325002 x325003 x325004 1).bind fun bt348 => ((laws_markIntS.f k x10 bt348.1).bind fun bt351 => (if bt351.1 < 0 then (laws_FnExactViewUpdates.j1 k x1 x6 x7 x8 x12 true x297000 x297001 x297002 x297003 x297004) else (if x11.toList = x6.toList then ((laws_eqIntS.f k x12 x7).bind fun t353 => (if t353 = true then (laws_FnExactViewUpdates.j1 k x1 x6 x7 x8 x12 (x13 != x8) x297000 x297001 x297002 x297003 x297004) else (laws_FnExactViewUpdates.j1 k x1 x6 x7 x8 x12 true x297000 x297001 x297002 x297003 x297004))) else (laws_FnExactViewUpdates.j1 k x1 x6 x7 x8 x12 true x297000 x297001 x297002 x297003 x297004))))) else (some false)))) else (some false))))
def laws_FnExactViewUpdates.j1 : Nat → List Int → ByteArray → List Int → Int → List Int → Bool → ByteArray → Int → Int → List (S64) → List ByteArray → Option (Bool)
 | 0, _, _, _, _, _, _, _, _, _, _, _ => none
 | k + 1, x1, x6, x7, x8, x12, x95, x297000, x297001, x297002, x297003, x297004 => if x95 = true then (some false) else ((laws_markIntS.f k x12 1).bind fun bt354 => ((laws_heldIntS.f k bt354.2 1).bind fun t356 => (if t356 < 0 then (some false) else (if t356 = bt354.1 then ((laws_toBox.f k x297000 x297001 x297002 x297003 x297004).bind fun bt357 => ((laws_toIntS.f k x1).bind fun t366 => ((impl_ViewUpdates.f k bt357.1 bt357.2.1 bt357.2.2.1 bt357.2.2.2.1 bt357.2.2.2.2 t366).bind fun bt369 => (if bt369.1.toList = x6.toList then ((laws_eqIntS.f k bt369.2.1 x7).bind fun t374 => (if t374 = true then (laws_FnExactViewUpdates.j2 k bt354.2 bt354.1 (bt369.2.2 != x8)) else (laws_FnExactViewUpdates.j2 k bt354.2 bt354.1 true))) else (laws_FnExactViewUpdates.j2 k bt354.2 bt354.1 true))))) else (some false)))))
def laws_FnExactViewUpdates.j2 : Nat → List Int → Int → Bool → Option (Bool)
 | 0, _, _, _ => none
 | k + 1, x12, x15, x129 => if x129 = true then (some false) else ((laws_heldIntS.f k x12 1).bind fun t375 => (if t375 < 0 then (some false) else (if t375 = x15 then (some true) else (some false))))
end
def laws_FnExactViewUpdates.f (k : Nat) (a0_0 : ByteArray) (a0_1 : Int) (a0_2 : Int) (l0_3 : List (S64)) (l0_4 : List ByteArray) (l1 : List Int) : Option (Bool) := if (l1.length : Int) > 1048576 then (some true) else ((laws_szBox.f k a0_0 a0_1 a0_2 l0_3 l0_4 1048576).bind fun t297 => (if t297 < 0 then (some true) else ((laws_toBox.f k a0_0 a0_1 a0_2 l0_3 l0_4).bind fun bt298 => ((laws_toIntS.f k l1).bind fun t307 => ((spec_ViewUpdates.f k bt298.1 bt298.2.1 bt298.2.2.1 bt298.2.2.2.1 bt298.2.2.2.2 t307).bind fun bt310 => ((laws_toBox.f k a0_0 a0_1 a0_2 l0_3 l0_4).bind fun bt315 => ((laws_toIntS.f k l1).bind fun t325 => ((impl_ViewUpdates.f k bt315.1 bt315.2.1 bt315.2.2.1 bt315.2.2.2.1 bt315.2.2.2.2 t325).bind fun bt328 => (if bt328.1.toList = bt310.1.toList then ((laws_eqIntS.f k bt328.2.1 bt310.2.1).bind fun t333 => (if t333 = true then (laws_FnExactViewUpdates.j0 k l1 bt310.1 bt310.2.1 bt310.2.2 t325 bt328.1 bt328.2.1 bt328.2.2 (bt328.2.2 != bt310.2.2) a0_0 a0_1 a0_2 l0_3 l0_4 bt315.1 bt315.2.1 bt315.2.2.1 bt315.2.2.2.1 bt315.2.2.2.2) else (laws_FnExactViewUpdates.j0 k l1 bt310.1 bt310.2.1 bt310.2.2 t325 bt328.1 bt328.2.1 bt328.2.2 true a0_0 a0_1 a0_2 l0_3 l0_4 bt315.1 bt315.2.1 bt315.2.2.1 bt315.2.2.2.1 bt315.2.2.2.2))) else (laws_FnExactViewUpdates.j0 k l1 bt310.1 bt310.2.1 bt310.2.2 t325 bt328.1 bt328.2.1 bt328.2.2 true a0_0 a0_1 a0_2 l0_3 l0_4 bt315.1 bt315.2.1 bt315.2.2.1 bt315.2.2.2.1 bt315.2.2.2.2))))))))))
theorem laws_FnExactViewUpdates.mono_l : ∀ k, (∀ y0 y1 y2 y3 y4 y5 y6 y7 y8 y9 y10 y11 y12 y13 y14 y15 y16 y17 y18, LeO (laws_FnExactViewUpdates.j0 k y0 y1 y2 y3 y4 y5 y6 y7 y8 y9 y10 y11 y12 y13 y14 y15 y16 y17 y18) (laws_FnExactViewUpdates.j0 (k + 1) y0 y1 y2 y3 y4 y5 y6 y7 y8 y9 y10 y11 y12 y13 y14 y15 y16 y17 y18)) ∧ (∀ y0 y1 y2 y3 y4 y5 y6 y7 y8 y9 y10, LeO (laws_FnExactViewUpdates.j1 k y0 y1 y2 y3 y4 y5 y6 y7 y8 y9 y10) (laws_FnExactViewUpdates.j1 (k + 1) y0 y1 y2 y3 y4 y5 y6 y7 y8 y9 y10)) ∧ (∀ y0 y1 y2, LeO (laws_FnExactViewUpdates.j2 k y0 y1 y2) (laws_FnExactViewUpdates.j2 (k + 1) y0 y1 y2))
 | 0 => ⟨fun _ _ _ _ _ _ _ _ _ _ _ _ _ _ _ _ _ _ _ r h => by simp [laws_FnExactViewUpdates.j0] at h, fun _ _ _ _ _ _ _ _ _ _ _ r h => by simp [laws_FnExactViewUpdates.j1] at h, fun _ _ _ r h => by simp [laws_FnExactViewUpdates.j2] at h⟩
 | k + 1 => by
  obtain ⟨ih0, ih1, ih2⟩ := laws_FnExactViewUpdates.mono_l k
  refine ⟨?_, ?_, ?_⟩
  ·intro y0 y1 y2 y3 y4 y5 y6 y7 y8 y9 y10 y11 y12 y13 y14 y15 y16 y17 y18
   unfold laws_FnExactViewUpdates.j0
   repeat' first
   | (with_reducible exact ih0 _ _ _ _ _ _ _ _ _ _ _ _ _ _ _ _ _ _ _)
   | (with_reducible exact ih1 _ _ _ _ _ _ _ _ _ _ _)
   | (with_reducible exact ih2 _ _ _)
   | (with_reducible exact impl_ViewUpdates.mono _ _ _ _ _ _ _)
   | (with_reducible exact laws_eqBox.mono _ _ _ _ _ _ _ _ _ _ _)
   | (with_reducible exact laws_eqIntS.mono _ _ _)
   | (with_reducible exact laws_heldIntS.mono _ _ _)
   | (with_reducible exact laws_markBox.mono _ _ _ _ _ _ _)
   | (with_reducible exact laws_markIntS.mono _ _ _)
   | (with_reducible exact laws_szBox.mono _ _ _ _ _ _ _)
   | (with_reducible exact laws_toBox.mono _ _ _ _ _ _)
   | (with_reducible exact laws_toIntS.mono _ _)
   | (with_reducible exact spec_ViewUpdates.mono _ _ _ _ _ _ _)
   | (with_reducible exact LeO.refl _)
   | (with_reducible exact LeO.none _)
   | (with_reducible refine LeO.ite ?_ ?_)
   | (with_reducible refine LeO.bind ?_ (fun _ => ?_))
   | exact ih0 _ _ _ _ _ _ _ _ _ _ _ _ _ _ _ _ _ _ _
   | exact ih1 _ _ _ _ _ _ _ _ _ _ _
   | exact ih2 _ _ _
   | exact impl_ViewUpdates.mono _ _ _ _ _ _ _
   | exact laws_eqBox.mono _ _ _ _ _ _ _ _ _ _ _
   | exact laws_eqIntS.mono _ _ _
   | exact laws_heldIntS.mono _ _ _
   | exact laws_markBox.mono _ _ _ _ _ _ _
   | exact laws_markIntS.mono _ _ _
   | exact laws_szBox.mono _ _ _ _ _ _ _
   | exact laws_toBox.mono _ _ _ _ _ _
   | exact laws_toIntS.mono _ _
   | exact spec_ViewUpdates.mono _ _ _ _ _ _ _
   | exact LeO.none _
   | refine LeO.ite ?_ ?_
   | refine LeO.bind ?_ (fun _ => ?_)
  ·intro y0 y1 y2 y3 y4 y5 y6 y7 y8 y9 y10
   unfold laws_FnExactViewUpdates.j1
   repeat' first
   | (with_reducible exact ih0 _ _ _ _ _ _ _ _ _ _ _ _ _ _ _ _ _ _ _)
   | (with_reducible exact ih1 _ _ _ _ _ _ _ _ _ _ _)
   | (with_reducible exact ih2 _ _ _)
   | (with_reducible exact impl_ViewUpdates.mono _ _ _ _ _ _ _)
   | (with_reducible exact laws_eqBox.mono _ _ _ _ _ _ _ _ _ _ _)
   | (with_reducible exact laws_eqIntS.mono _ _ _)
   | (with_reducible exact laws_heldIntS.mono _ _ _)
   | (with_reducible exact laws_markBox.mono _ _ _ _ _ _ _)
   | (with_reducible exact laws_markIntS.mono _ _ _)
   | (with_reducible exact laws_szBox.mono _ _ _ _ _ _ _)
   | (with_reducible exact laws_toBox.mono _ _ _ _ _ _)
   | (with_reducible exact laws_toIntS.mono _ _)
   | (with_reducible exact spec_ViewUpdates.mono _ _ _ _ _ _ _)
   | (with_reducible exact LeO.refl _)
   | (with_reducible exact LeO.none _)
   | (with_reducible refine LeO.ite ?_ ?_)
   | (with_reducible refine LeO.bind ?_ (fun _ => ?_))
   | exact ih0 _ _ _ _ _ _ _ _ _ _ _ _ _ _ _ _ _ _ _
   | exact ih1 _ _ _ _ _ _ _ _ _ _ _
   | exact ih2 _ _ _
   | exact impl_ViewUpdates.mono _ _ _ _ _ _ _
   | exact laws_eqBox.mono _ _ _ _ _ _ _ _ _ _ _
   | exact laws_eqIntS.mono _ _ _
   | exact laws_heldIntS.mono _ _ _
   | exact laws_markBox.mono _ _ _ _ _ _ _
   | exact laws_markIntS.mono _ _ _
   | exact laws_szBox.mono _ _ _ _ _ _ _
   | exact laws_toBox.mono _ _ _ _ _ _
   | exact laws_toIntS.mono _ _
   | exact spec_ViewUpdates.mono _ _ _ _ _ _ _
   | exact LeO.none _
   | refine LeO.ite ?_ ?_
   | refine LeO.bind ?_ (fun _ => ?_)
  ·intro y0 y1 y2
   unfold laws_FnExactViewUpdates.j2
   repeat' first
   | (with_reducible exact ih0 _ _ _ _ _ _ _ _ _ _ _ _ _ _ _ _ _ _ _)
   | (with_reducible exact ih1 _ _ _ _ _ _ _ _ _ _ _)
   | (with_reducible exact ih2 _ _ _)
   | (with_reducible exact impl_ViewUpdates.mono _ _ _ _ _ _ _)
   | (with_reducible exact laws_eqBox.mono _ _ _ _ _ _ _ _ _ _ _)
   | (with_reducible exact laws_eqIntS.mono _ _ _)
   | (with_reducible exact laws_heldIntS.mono _ _ _)
   | (with_reducible exact laws_markBox.mono _ _ _ _ _ _ _)
   | (with_reducible exact laws_markIntS.mono _ _ _)
   | (with_reducible exact laws_szBox.mono _ _ _ _ _ _ _)
   | (with_reducible exact laws_toBox.mono _ _ _ _ _ _)
   | (with_reducible exact laws_toIntS.mono _ _)
   | (with_reducible exact spec_ViewUpdates.mono _ _ _ _ _ _ _)
   | (with_reducible exact LeO.refl _)
   | (with_reducible exact LeO.none _)
   | (with_reducible refine LeO.ite ?_ ?_)
   | (with_reducible refine LeO.bind ?_ (fun _ => ?_))
   | exact ih0 _ _ _ _ _ _ _ _ _ _ _ _ _ _ _ _ _ _ _
   | exact ih1 _ _ _ _ _ _ _ _ _ _ _
   | exact ih2 _ _ _
   | exact impl_ViewUpdates.mono _ _ _ _ _ _ _
   | exact laws_eqBox.mono _ _ _ _ _ _ _ _ _ _ _
   | exact laws_eqIntS.mono _ _ _
   | exact laws_heldIntS.mono _ _ _
   | exact laws_markBox.mono _ _ _ _ _ _ _
   | exact laws_markIntS.mono _ _ _
   | exact laws_szBox.mono _ _ _ _ _ _ _
   | exact laws_toBox.mono _ _ _ _ _ _
   | exact laws_toIntS.mono _ _
   | exact spec_ViewUpdates.mono _ _ _ _ _ _ _
   | exact LeO.none _
   | refine LeO.ite ?_ ?_
   | refine LeO.bind ?_ (fun _ => ?_)
theorem laws_FnExactViewUpdates.mono : ∀ a0 a1 a2 a3 a4 a5 k, LeO (laws_FnExactViewUpdates.f k a0 a1 a2 a3 a4 a5) (laws_FnExactViewUpdates.f (k + 1) a0 a1 a2 a3 a4 a5) := by
 intro a0 a1 a2 a3 a4 a5 k
 obtain ⟨ih0, ih1, ih2⟩ := laws_FnExactViewUpdates.mono_l k
 unfold laws_FnExactViewUpdates.f
 repeat' first
   | (with_reducible exact ih0 _ _ _ _ _ _ _ _ _ _ _ _ _ _ _ _ _ _ _)
   | (with_reducible exact ih1 _ _ _ _ _ _ _ _ _ _ _)
   | (with_reducible exact ih2 _ _ _)
   | (with_reducible exact impl_ViewUpdates.mono _ _ _ _ _ _ _)
   | (with_reducible exact laws_eqBox.mono _ _ _ _ _ _ _ _ _ _ _)
   | (with_reducible exact laws_eqIntS.mono _ _ _)
   | (with_reducible exact laws_heldIntS.mono _ _ _)
   | (with_reducible exact laws_markBox.mono _ _ _ _ _ _ _)
   | (with_reducible exact laws_markIntS.mono _ _ _)
   | (with_reducible exact laws_szBox.mono _ _ _ _ _ _ _)
   | (with_reducible exact laws_toBox.mono _ _ _ _ _ _)
   | (with_reducible exact laws_toIntS.mono _ _)
   | (with_reducible exact spec_ViewUpdates.mono _ _ _ _ _ _ _)
   | (with_reducible exact LeO.refl _)
   | (with_reducible exact LeO.none _)
   | (with_reducible refine LeO.ite ?_ ?_)
   | (with_reducible refine LeO.bind ?_ (fun _ => ?_))
   | exact ih0 _ _ _ _ _ _ _ _ _ _ _ _ _ _ _ _ _ _ _
   | exact ih1 _ _ _ _ _ _ _ _ _ _ _
   | exact ih2 _ _ _
   | exact impl_ViewUpdates.mono _ _ _ _ _ _ _
   | exact laws_eqBox.mono _ _ _ _ _ _ _ _ _ _ _
   | exact laws_eqIntS.mono _ _ _
   | exact laws_heldIntS.mono _ _ _
   | exact laws_markBox.mono _ _ _ _ _ _ _
   | exact laws_markIntS.mono _ _ _
   | exact laws_szBox.mono _ _ _ _ _ _ _
   | exact laws_toBox.mono _ _ _ _ _ _
   | exact laws_toIntS.mono _ _
   | exact spec_ViewUpdates.mono _ _ _ _ _ _ _
   | exact LeO.none _
   | refine LeO.ite ?_ ?_
   | refine LeO.bind ?_ (fun _ => ?_)
set_option maxHeartbeats 40000000 in
set_option maxRecDepth 100000 in
theorem laws_FnExactViewUpdates.calls (k : Nat) (a0_0 : ByteArray) (a0_1 : Int) (a0_2 : Int) (A0_3 : Option Addr) (c0_3 : Nat) (l0_3 : List (S64)) (A0_4 : Option Addr) (c0_4 : Nat) (l0_4 : List ByteArray) (A1 : Option Addr) (c1 : Nat) (l1 : List Int) (r : Bool) (w : World) (hr0_3 : Kd.C k64 w A0_3 l0_3.length l0_3) (hc0_3 : l0_3.length ≤ c0_3) (hr0_4 : Kd.C Kd.string w A0_4 l0_4.length l0_4) (hc0_4 : l0_4.length ≤ c0_4) (hr1 : Kd.C (Kd.int .i64) w A1 l1.length l1) (hc1 : l1.length ≤ c1) (HG : Aside0 (Glob w)) (h : laws_FnExactViewUpdates.f k a0_0 a0_1 a0_2 l0_3 l0_4 l1 = some r) :
  Calls Tryd.prog 3 #[.agg #[.string a0_0, .int .i64 a0_1, .int .i64 a0_2, .slice A0_3 l0_3.length c0_3, .slice A0_4 l0_4.length c0_4], .slice A1 l1.length c1] w fun e w' => e = .returned (.bool r) ∧ Below w.heap.size w w' := by
 have hu25 := Tryd.underlying25
 have hu32 := Tryd.underlying32
 have HR0_3 := Aside0.mk hr0_3
 have HC0_3 := Aside0.mk hc0_3
 clear hr0_3 hc0_3
 have HR0_4 := Aside0.mk hr0_4
 have HC0_4 := Aside0.mk hc0_4
 clear hr0_4 hc0_4
 have HR1 := Aside0.mk hr1
 have HC1 := Aside0.mk hc1
 clear hr1 hc1
 have HB := Aside0.mk (Below.refl w.heap.size w)
 have H : (if (l1.length : Int) > 1048576 then (some true) else ((laws_szBox.f k a0_0 a0_1 a0_2 l0_3 l0_4 1048576).bind fun t297 => (if t297 < 0 then (some true) else ((laws_toBox.f k a0_0 a0_1 a0_2 l0_3 l0_4).bind fun bt298 => ((laws_toIntS.f k l1).bind fun t307 => ((spec_ViewUpdates.f k bt298.1 bt298.2.1 bt298.2.2.1 bt298.2.2.2.1 bt298.2.2.2.2 t307).bind fun bt310 => ((laws_toBox.f k a0_0 a0_1 a0_2 l0_3 l0_4).bind fun bt315 => ((laws_toIntS.f k l1).bind fun t325 => ((impl_ViewUpdates.f k bt315.1 bt315.2.1 bt315.2.2.1 bt315.2.2.2.1 bt315.2.2.2.2 t325).bind fun bt328 => (if bt328.1.toList = bt310.1.toList then ((laws_eqIntS.f k bt328.2.1 bt310.2.1).bind fun t333 => (if t333 = true then (laws_FnExactViewUpdates.j0 k l1 bt310.1 bt310.2.1 bt310.2.2 t325 bt328.1 bt328.2.1 bt328.2.2 (bt328.2.2 != bt310.2.2) a0_0 a0_1 a0_2 l0_3 l0_4 bt315.1 bt315.2.1 bt315.2.2.1 bt315.2.2.2.1 bt315.2.2.2.2) else (laws_FnExactViewUpdates.j0 k l1 bt310.1 bt310.2.1 bt310.2.2 t325 bt328.1 bt328.2.1 bt328.2.2 true a0_0 a0_1 a0_2 l0_3 l0_4 bt315.1 bt315.2.1 bt315.2.2.1 bt315.2.2.2.1 bt315.2.2.2.2))) else (laws_FnExactViewUpdates.j0 k l1 bt310.1 bt310.2.1 bt310.2.2 t325 bt328.1 bt328.2.1 bt328.2.2 true a0_0 a0_1 a0_2 l0_3 l0_4 bt315.1 bt315.2.1 bt315.2.2.1 bt315.2.2.2.1 bt315.2.2.2.2))))))))))) = some r := h
 clear h
 by_cases c3 : (l1.length : Int) > 1048576
 ·rw [if_pos c3] at H
  have c3b0 : decide (1048576 < (l1.length : Int)) = true := decide_eq_true c3
  have c3b1 : decide (1048576 < l1.length) = true := decide_eq_true (t70)
  clear c3
  obtain rfl := Option.some.inj H
  go_enter Tryd.func3, Tryd.ntmps3
  go_wp2_with (first | ((with_reducible refine gate_dst (N := 2) rfl ?_); refine box_event ?hg (N := 2) ?hd (cs := #[.string a0_0, .int .i64 a0_1, .int .i64 a0_2, .slice A0_3 l0_3.length c0_3, .slice A0_4 l0_4.length c0_4]) (t := 25) ?hr ?_; (case hd => rfl); (case hg => rfl); (case hr => first | (go_simp; done) | (go_simp; rfl)); intro gb296 hg w4 hbox hb; have n0_ := Aside0.mk (below_step (t1) hb); have n1_ := Aside0.mk (hbox); have n2_ := Aside0.mk ((by rw [hg]; exact (below_size (t1)) : w.heap.size ≤ gb296)); have n3_ := Aside0.mk ((by rw [hg]; exact (below_size (t1)) : w.heap.size ≤ gb296)); clear HB; have HB := n0_; have BK296 := n1_; have GW296 := n2_; have GE296 := n3_; clear n0_ n1_ n2_ n3_; clear hb hbox hg))
  go_ret
  exact ⟨t4, by repeat (first | (with_reducible first | exact HB.out | apply below_alloc | apply pw_below_drewN | apply below_drew1 | refine below_set ?_ GE296.out) | exact HB.out)⟩
 ·rw [if_neg c3] at H
  have c3b0 : decide (1048576 < (l1.length : Int)) = false := decide_eq_false c3
  have c3b1 : decide (1048576 < l1.length) = false := decide_eq_false (t70)
  clear c3
  replace H := Option.bind_eq_some_iff.mp H
  obtain ⟨t297, A50, H⟩ := H
  replace H : (if t297 < 0 then (some true) else ((laws_toBox.f k a0_0 a0_1 a0_2 l0_3 l0_4).bind fun bt298 => ((laws_toIntS.f k l1).bind fun t307 => ((spec_ViewUpdates.f k bt298.1 bt298.2.1 bt298.2.2.1 bt298.2.2.2.1 bt298.2.2.2.2 t307).bind fun bt310 => ((laws_toBox.f k a0_0 a0_1 a0_2 l0_3 l0_4).bind fun bt315 => ((laws_toIntS.f k l1).bind fun t325 => ((impl_ViewUpdates.f k bt315.1 bt315.2.1 bt315.2.2.1 bt315.2.2.2.1 bt315.2.2.2.2 t325).bind fun bt328 => (if bt328.1.toList = bt310.1.toList then ((laws_eqIntS.f k bt328.2.1 bt310.2.1).bind fun t333 => (if t333 = true then (laws_FnExactViewUpdates.j0 k l1 bt310.1 bt310.2.1 bt310.2.2 t325 bt328.1 bt328.2.1 bt328.2.2 (bt328.2.2 != bt310.2.2) a0_0 a0_1 a0_2 l0_3 l0_4 bt315.1 bt315.2.1 bt315.2.2.1 bt315.2.2.2.1 bt315.2.2.2.2) else (laws_FnExactViewUpdates.j0 k l1 bt310.1 bt310.2.1 bt310.2.2 t325 bt328.1 bt328.2.1 bt328.2.2 true a0_0 a0_1 a0_2 l0_3 l0_4 bt315.1 bt315.2.1 bt315.2.2.1 bt315.2.2.2.1 bt315.2.2.2.2))) else (laws_FnExactViewUpdates.j0 k l1 bt310.1 bt310.2.1 bt310.2.2 t325 bt328.1 bt328.2.1 bt328.2.2 true a0_0 a0_1 a0_2 l0_3 l0_4 bt315.1 bt315.2.1 bt315.2.2.1 bt315.2.2.2.1 bt315.2.2.2.2))))))))) = some r := H
  have A5 := Aside0.mk A50
  clear A50
  by_cases c6 : t297 < 0
  ·rw [if_pos c6] at H
   have c6b0 : decide (t297 < 0) = true := decide_eq_true c6
   clear c6
   obtain rfl := Option.some.inj H
   go_enter Tryd.func3, Tryd.ntmps3
   go_wp2_with (first | ((with_reducible refine gate_dst (N := 2) rfl ?_); refine box_event ?hg (N := 2) ?hd (cs := #[.string a0_0, .int .i64 a0_1, .int .i64 a0_2, .slice A0_3 l0_3.length c0_3, .slice A0_4 l0_4.length c0_4]) (t := 25) ?hr ?_; (case hd => rfl); (case hg => rfl); (case hr => first | (go_simp; done) | (go_simp; rfl)); intro gb296 hg w7 hbox hb; have n0_ := Aside0.mk (below_step (t1) hb); have n1_ := Aside0.mk (hbox); have n2_ := Aside0.mk ((by rw [hg]; exact (below_size (t1)) : w.heap.size ≤ gb296)); have n3_ := Aside0.mk ((by rw [hg]; exact (below_size (t1)) : w.heap.size ≤ gb296)); clear HB; have HB := n0_; have BK296 := n1_; have GW296 := n2_; have GE296 := n3_; clear n0_ n1_ n2_ n3_; clear hb hbox hg; have hcz8_0 : w7.cell? ⟨gb296, 0, none⟩ = some (.string a0_0) := (blk_cell BK296.out 0).trans rfl; have hcz8_1 : w7.cell? ⟨gb296, 1, none⟩ = some (.int .i64 a0_1) := (blk_cell BK296.out 1).trans rfl; have hcz8_2 : w7.cell? ⟨gb296, 2, none⟩ = some (.int .i64 a0_2) := (blk_cell BK296.out 2).trans rfl; have hcz8_3 : w7.cell? ⟨gb296, 3, none⟩ = some (.slice A0_3 l0_3.length c0_3) := (blk_cell BK296.out 3).trans rfl; have hcz8_4 : w7.cell? ⟨gb296, 4, none⟩ = some (.slice A0_4 l0_4.length c0_4) := (blk_cell BK296.out 4).trans rfl; have hfz8_0 := blk_frozen BK296.out 0; have hfz8_1 := blk_frozen BK296.out 1; have hfz8_2 := blk_frozen BK296.out 2; have hfz8_3 := blk_frozen BK296.out 3; have hfz8_4 := blk_frozen BK296.out 4) | ((with_reducible refine gate_callee (f := 9) rfl ?_); refine goesL_ (some 25) rfl rfl Tryd.func9 (t23) rfl #[.agg #[.string a0_0, .int .i64 a0_1, .int .i64 a0_2, .slice A0_3 l0_3.length c0_3, .slice A0_4 l0_4.length c0_4], .int .i64 1048576] rfl (t2) ?_; (with_reducible refine (laws_szBox.calls k a0_0 a0_1 a0_2 _ _ l0_3 _ _ l0_4 1048576 t297 _ ?side1 ?side2 ?side3 ?side4 A5.out).mono ?_); (case side1 => repeat (first | exact (Kd.C_below HR0_3.out HB.out) | (with_reducible refine Kd.C_alloc ?_ _) | (with_reducible refine Kd.C_drewN ?_ _) | (with_reducible refine Kd.C_drew ?_))); (case side2 => exact HC0_3.out); (case side3 => repeat (first | exact (Kd.C_below HR0_4.out HB.out) | (with_reducible refine Kd.C_alloc ?_ _) | (with_reducible refine Kd.C_drewN ?_ _) | (with_reducible refine Kd.C_drew ?_))); (case side4 => exact HC0_4.out); rintro e w9 ⟨rfl, hb⟩; refine ⟨_, rfl, ?_⟩; have n0_ := Aside0.mk (blk_below (g := gb296) (o := .cells #[.string a0_0, .int .i64 a0_1, .int .i64 a0_2, .slice A0_3 l0_3.length c0_3, .slice A0_4 l0_4.length c0_4] 25 (0, 0)) (t11) hb); have n1_ := Aside0.mk (below_step (t21) hb); clear BK296; clear HB; have BK296 := n0_; have HB := n1_; clear n0_ n1_; (try clear hb); (try clear hb2); (try clear hk); (try clear hi)))
   go_ret
   exact ⟨t4, by repeat (first | (with_reducible first | exact HB.out | apply below_alloc | apply pw_below_drewN | apply below_drew1 | refine below_set ?_ GE296.out) | exact HB.out)⟩
  ·rw [if_neg c6] at H
   have c6b0 : decide (t297 < 0) = false := decide_eq_false c6
   clear c6
   replace H := Option.bind_eq_some_iff.mp H
   obtain ⟨⟨t298, t299, t300, t301, t304⟩, A100, H⟩ := H
   replace H : ((laws_toIntS.f k l1).bind fun t307 => ((spec_ViewUpdates.f k t298 t299 t300 t301 t304 t307).bind fun bt310 => ((laws_toBox.f k a0_0 a0_1 a0_2 l0_3 l0_4).bind fun bt315 => ((laws_toIntS.f k l1).bind fun t325 => ((impl_ViewUpdates.f k bt315.1 bt315.2.1 bt315.2.2.1 bt315.2.2.2.1 bt315.2.2.2.2 t325).bind fun bt328 => (if bt328.1.toList = bt310.1.toList then ((laws_eqIntS.f k bt328.2.1 bt310.2.1).bind fun t333 => (if t333 = true then (laws_FnExactViewUpdates.j0 k l1 bt310.1 bt310.2.1 bt310.2.2 t325 bt328.1 bt328.2.1 bt328.2.2 (bt328.2.2 != bt310.2.2) a0_0 a0_1 a0_2 l0_3 l0_4 bt315.1 bt315.2.1 bt315.2.2.1 bt315.2.2.2.1 bt315.2.2.2.2) else (laws_FnExactViewUpdates.j0 k l1 bt310.1 bt310.2.1 bt310.2.2 t325 bt328.1 bt328.2.1 bt328.2.2 true a0_0 a0_1 a0_2 l0_3 l0_4 bt315.1 bt315.2.1 bt315.2.2.1 bt315.2.2.2.1 bt315.2.2.2.2))) else (laws_FnExactViewUpdates.j0 k l1 bt310.1 bt310.2.1 bt310.2.2 t325 bt328.1 bt328.2.1 bt328.2.2 true a0_0 a0_1 a0_2 l0_3 l0_4 bt315.1 bt315.2.1 bt315.2.2.1 bt315.2.2.2.1 bt315.2.2.2.2))))))) = some r := H
   have A10 := Aside0.mk A100
   clear A100
   replace H := Option.bind_eq_some_iff.mp H
   obtain ⟨t307, A110, H⟩ := H
   replace H : ((spec_ViewUpdates.f k t298 t299 t300 t301 t304 t307).bind fun bt310 => ((laws_toBox.f k a0_0 a0_1 a0_2 l0_3 l0_4).bind fun bt315 => ((laws_toIntS.f k l1).bind fun t325 => ((impl_ViewUpdates.f k bt315.1 bt315.2.1 bt315.2.2.1 bt315.2.2.2.1 bt315.2.2.2.2 t325).bind fun bt328 => (if bt328.1.toList = bt310.1.toList then ((laws_eqIntS.f k bt328.2.1 bt310.2.1).bind fun t333 => (if t333 = true then (laws_FnExactViewUpdates.j0 k l1 bt310.1 bt310.2.1 bt310.2.2 t325 bt328.1 bt328.2.1 bt328.2.2 (bt328.2.2 != bt310.2.2) a0_0 a0_1 a0_2 l0_3 l0_4 bt315.1 bt315.2.1 bt315.2.2.1 bt315.2.2.2.1 bt315.2.2.2.2) else (laws_FnExactViewUpdates.j0 k l1 bt310.1 bt310.2.1 bt310.2.2 t325 bt328.1 bt328.2.1 bt328.2.2 true a0_0 a0_1 a0_2 l0_3 l0_4 bt315.1 bt315.2.1 bt315.2.2.1 bt315.2.2.2.1 bt315.2.2.2.2))) else (laws_FnExactViewUpdates.j0 k l1 bt310.1 bt310.2.1 bt310.2.2 t325 bt328.1 bt328.2.1 bt328.2.2 true a0_0 a0_1 a0_2 l0_3 l0_4 bt315.1 bt315.2.1 bt315.2.2.1 bt315.2.2.2.1 bt315.2.2.2.2)))))) = some r := H
   have A11 := Aside0.mk A110
   clear A110
   replace H := Option.bind_eq_some_iff.mp H
   obtain ⟨⟨t310, t311, t314⟩, A120, H⟩ := H
   replace H : ((laws_toBox.f k a0_0 a0_1 a0_2 l0_3 l0_4).bind fun bt315 => ((laws_toIntS.f k l1).bind fun t325 => ((impl_ViewUpdates.f k bt315.1 bt315.2.1 bt315.2.2.1 bt315.2.2.2.1 bt315.2.2.2.2 t325).bind fun bt328 => (if bt328.1.toList = t310.toList then ((laws_eqIntS.f k bt328.2.1 t311).bind fun t333 => (if t333 = true then (laws_FnExactViewUpdates.j0 k l1 t310 t311 t314 t325 bt328.1 bt328.2.1 bt328.2.2 (bt328.2.2 != t314) a0_0 a0_1 a0_2 l0_3 l0_4 bt315.1 bt315.2.1 bt315.2.2.1 bt315.2.2.2.1 bt315.2.2.2.2) else (laws_FnExactViewUpdates.j0 k l1 t310 t311 t314 t325 bt328.1 bt328.2.1 bt328.2.2 true a0_0 a0_1 a0_2 l0_3 l0_4 bt315.1 bt315.2.1 bt315.2.2.1 bt315.2.2.2.1 bt315.2.2.2.2))) else (laws_FnExactViewUpdates.j0 k l1 t310 t311 t314 t325 bt328.1 bt328.2.1 bt328.2.2 true a0_0 a0_1 a0_2 l0_3 l0_4 bt315.1 bt315.2.1 bt315.2.2.1 bt315.2.2.2.1 bt315.2.2.2.2))))) = some r := H
   have A12 := Aside0.mk A120
   clear A120
   replace H := Option.bind_eq_some_iff.mp H
   obtain ⟨⟨t315, t316, t317, t318, t321⟩, A130, H⟩ := H
   replace H : ((laws_toIntS.f k l1).bind fun t325 => ((impl_ViewUpdates.f k t315 t316 t317 t318 t321 t325).bind fun bt328 => (if bt328.1.toList = t310.toList then ((laws_eqIntS.f k bt328.2.1 t311).bind fun t333 => (if t333 = true then (laws_FnExactViewUpdates.j0 k l1 t310 t311 t314 t325 bt328.1 bt328.2.1 bt328.2.2 (bt328.2.2 != t314) a0_0 a0_1 a0_2 l0_3 l0_4 t315 t316 t317 t318 t321) else (laws_FnExactViewUpdates.j0 k l1 t310 t311 t314 t325 bt328.1 bt328.2.1 bt328.2.2 true a0_0 a0_1 a0_2 l0_3 l0_4 t315 t316 t317 t318 t321))) else (laws_FnExactViewUpdates.j0 k l1 t310 t311 t314 t325 bt328.1 bt328.2.1 bt328.2.2 true a0_0 a0_1 a0_2 l0_3 l0_4 t315 t316 t317 t318 t321)))) = some r := H
   have A13 := Aside0.mk A130
   clear A130
   replace H := Option.bind_eq_some_iff.mp H
   obtain ⟨t325, A140, H⟩ := H
   replace H : ((impl_ViewUpdates.f k t315 t316 t317 t318 t321 t325).bind fun bt328 => (if bt328.1.toList = t310.toList then ((laws_eqIntS.f k bt328.2.1 t311).bind fun t333 => (if t333 = true then (laws_FnExactViewUpdates.j0 k l1 t310 t311 t314 t325 bt328.1 bt328.2.1 bt328.2.2 (bt328.2.2 != t314) a0_0 a0_1 a0_2 l0_3 l0_4 t315 t316 t317 t318 t321) else (laws_FnExactViewUpdates.j0 k l1 t310 t311 t314 t325 bt328.1 bt328.2.1 bt328.2.2 true a0_0 a0_1 a0_2 l0_3 l0_4 t315 t316 t317 t318 t321))) else (laws_FnExactViewUpdates.j0 k l1 t310 t311 t314 t325 bt328.1 bt328.2.1 bt328.2.2 true a0_0 a0_1 a0_2 l0_3 l0_4 t315 t316 t317 t318 t321))) = some r := H
   have A14 := Aside0.mk A140
   clear A140
   replace H := Option.bind_eq_some_iff.mp H
   obtain ⟨⟨t328, t329, t332⟩, A150, H⟩ := H
   replace H : (if t328.toList = t310.toList then ((laws_eqIntS.f k t329 t311).bind fun t333 => (if t333 = true then (laws_FnExactViewUpdates.j0 k l1 t310 t311 t314 t325 t328 t329 t332 (t332 != t314) a0_0 a0_1 a0_2 l0_3 l0_4 t315 t316 t317 t318 t321) else (laws_FnExactViewUpdates.j0 k l1 t310 t311 t314 t325 t328 t329 t332 true a0_0 a0_1 a0_2 l0_3 l0_4 t315 t316 t317 t318 t321))) else (laws_FnExactViewUpdates.j0 k l1 t310 t311 t314 t325 t328 t329 t332 true a0_0 a0_1 a0_2 l0_3 l0_4 t315 t316 t317 t318 t321)) = some r := H
   have A15 := Aside0.mk A150
   clear A150
   have HC16 := Aside0.mk H
   clear H
   go_enter Tryd.func3, Tryd.ntmps3
   go_upto_region 11 with (first | ((with_reducible refine gate_dst (N := 2) rfl ?_); refine box_event ?hg (N := 2) ?hd (cs := #[.string a0_0, .int .i64 a0_1, .int .i64 a0_2, .slice A0_3 l0_3.length c0_3, .slice A0_4 l0_4.length c0_4]) (t := 25) ?hr ?_; (case hd => rfl); (case hg => rfl); (case hr => first | (go_simp; done) | (go_simp; rfl)); intro gb296 hg w17 hbox hb; have n0_ := Aside0.mk (below_step (t1) hb); have n1_ := Aside0.mk (hbox); have n2_ := Aside0.mk ((by rw [hg]; exact (below_size (t1)) : w.heap.size ≤ gb296)); have n3_ := Aside0.mk ((by rw [hg]; exact (below_size (t1)) : w.heap.size ≤ gb296)); clear HB; have HB := n0_; have BK296 := n1_; have GW296 := n2_; have GE296 := n3_; clear n0_ n1_ n2_ n3_; clear hb hbox hg; have hcz18_0 : w17.cell? ⟨gb296, 0, none⟩ = some (.string a0_0) := (blk_cell BK296.out 0).trans rfl; have hcz18_1 : w17.cell? ⟨gb296, 1, none⟩ = some (.int .i64 a0_1) := (blk_cell BK296.out 1).trans rfl; have hcz18_2 : w17.cell? ⟨gb296, 2, none⟩ = some (.int .i64 a0_2) := (blk_cell BK296.out 2).trans rfl; have hcz18_3 : w17.cell? ⟨gb296, 3, none⟩ = some (.slice A0_3 l0_3.length c0_3) := (blk_cell BK296.out 3).trans rfl; have hcz18_4 : w17.cell? ⟨gb296, 4, none⟩ = some (.slice A0_4 l0_4.length c0_4) := (blk_cell BK296.out 4).trans rfl; have hfz18_0 := blk_frozen BK296.out 0; have hfz18_1 := blk_frozen BK296.out 1; have hfz18_2 := blk_frozen BK296.out 2; have hfz18_3 := blk_frozen BK296.out 3; have hfz18_4 := blk_frozen BK296.out 4) | ((with_reducible refine gate_callee (f := 9) rfl ?_); refine goesL_ (some 25) rfl rfl Tryd.func9 (t23) rfl #[.agg #[.string a0_0, .int .i64 a0_1, .int .i64 a0_2, .slice A0_3 l0_3.length c0_3, .slice A0_4 l0_4.length c0_4], .int .i64 1048576] rfl (t2) ?_; (with_reducible refine (laws_szBox.calls k a0_0 a0_1 a0_2 _ _ l0_3 _ _ l0_4 1048576 t297 _ ?side1 ?side2 ?side3 ?side4 A5.out).mono ?_); (case side1 => repeat (first | exact (Kd.C_below HR0_3.out HB.out) | (with_reducible refine Kd.C_alloc ?_ _) | (with_reducible refine Kd.C_drewN ?_ _) | (with_reducible refine Kd.C_drew ?_))); (case side2 => exact HC0_3.out); (case side3 => repeat (first | exact (Kd.C_below HR0_4.out HB.out) | (with_reducible refine Kd.C_alloc ?_ _) | (with_reducible refine Kd.C_drewN ?_ _) | (with_reducible refine Kd.C_drew ?_))); (case side4 => exact HC0_4.out); rintro e w19 ⟨rfl, hb⟩; refine ⟨_, rfl, ?_⟩; have n0_ := Aside0.mk (blk_below (g := gb296) (o := .cells #[.string a0_0, .int .i64 a0_1, .int .i64 a0_2, .slice A0_3 l0_3.length c0_3, .slice A0_4 l0_4.length c0_4] 25 (0, 0)) (t11) hb); have n1_ := Aside0.mk (below_step (t21) hb); clear BK296; clear HB; have BK296 := n0_; have HB := n1_; clear n0_ n1_; (try clear hb); (try clear hb2); (try clear hk); (try clear hi); have hcz20_0 : w19.cell? ⟨gb296, 0, none⟩ = some (.string a0_0) := (blk_cell BK296.out 0).trans rfl; have hcz20_1 : w19.cell? ⟨gb296, 1, none⟩ = some (.int .i64 a0_1) := (blk_cell BK296.out 1).trans rfl; have hcz20_2 : w19.cell? ⟨gb296, 2, none⟩ = some (.int .i64 a0_2) := (blk_cell BK296.out 2).trans rfl; have hcz20_3 : w19.cell? ⟨gb296, 3, none⟩ = some (.slice A0_3 l0_3.length c0_3) := (blk_cell BK296.out 3).trans rfl; have hcz20_4 : w19.cell? ⟨gb296, 4, none⟩ = some (.slice A0_4 l0_4.length c0_4) := (blk_cell BK296.out 4).trans rfl; have hfz20_0 := blk_frozen BK296.out 0; have hfz20_1 := blk_frozen BK296.out 1; have hfz20_2 := blk_frozen BK296.out 2; have hfz20_3 := blk_frozen BK296.out 3; have hfz20_4 := blk_frozen BK296.out 4) | ((with_reducible refine gate_callee (f := 11) rfl ?_); refine goesL_ (some 30) rfl rfl Tryd.func11 (t23) rfl #[.agg #[.string a0_0, .int .i64 a0_1, .int .i64 a0_2, .slice A0_3 l0_3.length c0_3, .slice A0_4 l0_4.length c0_4]] rfl (t2) ?_; (with_reducible refine (laws_toBox.calls k a0_0 a0_1 a0_2 _ _ l0_3 _ _ l0_4 t298 t299 t300 t301 t304 _ ?side1 ?side2 ?side3 ?side4 A10.out).mono ?_); (case side1 => repeat (first | exact (Kd.C_below HR0_3.out HB.out) | (with_reducible refine Kd.C_alloc ?_ _) | (with_reducible refine Kd.C_drewN ?_ _) | (with_reducible refine Kd.C_drew ?_))); (case side2 => exact HC0_3.out); (case side3 => repeat (first | exact (Kd.C_below HR0_4.out HB.out) | (with_reducible refine Kd.C_alloc ?_ _) | (with_reducible refine Kd.C_drewN ?_ _) | (with_reducible refine Kd.C_drew ?_))); (case side4 => exact HC0_4.out); rintro e w21 ⟨v302, v305, rfl, ho0, ho1, hb⟩; refine ⟨_, rfl, ?_⟩; have n0_ := Aside0.mk (Kd.R_lower ho0 (below_size (t21))); have n1_ := Aside0.mk (Kd.R_lower ho1 (below_size (t21))); have n2_ := Aside0.mk (blk_below (g := gb296) (o := .cells #[.string a0_0, .int .i64 a0_1, .int .i64 a0_2, .slice A0_3 l0_3.length c0_3, .slice A0_4 l0_4.length c0_4] 25 (0, 0)) (t11) hb); have n3_ := Aside0.mk (below_step (t21) hb); clear BK296; clear HB; have HO303 := n0_; have HO306 := n1_; have BK296 := n2_; have HB := n3_; clear n0_ n1_ n2_ n3_; (try clear hb); (try clear hb2); (try clear hk); (try clear hi); (try clear ho0); (try clear ho1)) | ((with_reducible refine gate_callee (f := 12) rfl ?_); refine goesL_ (some 32) rfl rfl Tryd.func12 (t23) rfl #[.slice A1 l1.length c1] rfl (t2) ?_; (with_reducible refine (laws_toIntS.calls k _ _ l1 t307 _ ?side1 ?side2 A11.out).mono ?_); (case side1 => repeat (first | exact (Kd.C_below HR1.out HB.out) | (with_reducible refine Kd.C_alloc ?_ _) | (with_reducible refine Kd.C_drewN ?_ _) | (with_reducible refine Kd.C_drew ?_))); (case side2 => exact HC1.out); rintro e w22 ⟨v308, rfl, ho0, hb⟩; refine ⟨_, rfl, ?_⟩; have n0_ := Aside0.mk (Kd.R_below (t46) hb); have n1_ := Aside0.mk (Kd.R_below (t47) hb); have n2_ := Aside0.mk (Kd.R_lower ho0 (below_size (t21))); have n3_ := Aside0.mk (blk_below (g := gb296) (o := .cells #[.string a0_0, .int .i64 a0_1, .int .i64 a0_2, .slice A0_3 l0_3.length c0_3, .slice A0_4 l0_4.length c0_4] 25 (0, 0)) (t11) hb); have n4_ := Aside0.mk (below_step (t21) hb); clear HO303; clear HO306; clear BK296; clear HB; have HO303 := n0_; have HO306 := n1_; have HO309 := n2_; have BK296 := n3_; have HB := n4_; clear n0_ n1_ n2_ n3_ n4_; (try clear hb); (try clear hb2); (try clear hk); (try clear hi); (try clear ho0); obtain ⟨Ao23, co23, eo23⟩ := Kd.R_slice HO303.out; subst eo23; obtain ⟨Ao24, co24, eo24⟩ := Kd.R_slice HO306.out; subst eo24; obtain ⟨Ao25, co25, eo25⟩ := Kd.R_slice HO309.out; subst eo25) | ((with_reducible refine gate_callee (f := 10) rfl ?_); refine goesL_ (some 33) rfl rfl Tryd.func10 (t23) rfl #[.agg #[.string t298, .int .i64 t299, .int .i64 t300, .slice Ao23 t301.length co23, .slice Ao24 t304.length co24], .slice Ao25 t307.length co25] rfl (t2) ?_; (with_reducible refine (spec_ViewUpdates.calls k t298 t299 t300 _ _ t301 _ _ t304 _ _ t307 t310 t311 t314 _ ?side1 ?side2 ?side3 ?side4 ?side5 ?side6 A12.out).mono ?_); (case side1 => repeat (first | exact (Kd.R_reads' HO303.out).2.2 | (with_reducible refine Kd.C_alloc ?_ _) | (with_reducible refine Kd.C_drewN ?_ _) | (with_reducible refine Kd.C_drew ?_))); (case side2 => exact (Kd.R_reads' HO303.out).2.1); (case side3 => repeat (first | exact (Kd.R_reads' HO306.out).2.2 | (with_reducible refine Kd.C_alloc ?_ _) | (with_reducible refine Kd.C_drewN ?_ _) | (with_reducible refine Kd.C_drew ?_))); (case side4 => exact (Kd.R_reads' HO306.out).2.1); (case side5 => repeat (first | exact (Kd.R_reads' HO309.out).2.2 | (with_reducible refine Kd.C_alloc ?_ _) | (with_reducible refine Kd.C_drewN ?_ _) | (with_reducible refine Kd.C_drew ?_))); (case side6 => exact (Kd.R_reads' HO309.out).2.1); rintro e w26 ⟨v312, rfl, ho0, hb⟩; refine ⟨_, rfl, ?_⟩; have n0_ := Aside0.mk (Kd.R_below (t46) hb); have n1_ := Aside0.mk (Kd.R_below (t47) hb); have n2_ := Aside0.mk (Kd.R_elder' (t48) (Kd.R_base ho0) hb); have n3_ := Aside0.mk (Kd.R_lower (Kd.R_new' ho0 (Kd.R_lt (t48))) (below_size (t21))); have n4_ := Aside0.mk (blk_below (g := gb296) (o := .cells #[.string a0_0, .int .i64 a0_1, .int .i64 a0_2, .slice A0_3 l0_3.length c0_3, .slice A0_4 l0_4.length c0_4] 25 (0, 0)) (t11) hb); have n5_ := Aside0.mk (below_step (t21) hb); clear HO303; clear HO306; clear HO309; clear BK296; clear HB; have HO303 := n0_; have HO306 := n1_; have HO309 := n2_; have HO313 := n3_; have BK296 := n4_; have HB := n5_; clear n0_ n1_ n2_ n3_ n4_ n5_; (try clear hb); (try clear hb2); (try clear hk); (try clear hi); (try clear ho0); have hcz27_0 : w26.cell? ⟨gb296, 0, none⟩ = some (.string a0_0) := (blk_cell BK296.out 0).trans rfl; have hcz27_1 : w26.cell? ⟨gb296, 1, none⟩ = some (.int .i64 a0_1) := (blk_cell BK296.out 1).trans rfl; have hcz27_2 : w26.cell? ⟨gb296, 2, none⟩ = some (.int .i64 a0_2) := (blk_cell BK296.out 2).trans rfl; have hcz27_3 : w26.cell? ⟨gb296, 3, none⟩ = some (.slice A0_3 l0_3.length c0_3) := (blk_cell BK296.out 3).trans rfl; have hcz27_4 : w26.cell? ⟨gb296, 4, none⟩ = some (.slice A0_4 l0_4.length c0_4) := (blk_cell BK296.out 4).trans rfl; have hfz27_0 := blk_frozen BK296.out 0; have hfz27_1 := blk_frozen BK296.out 1; have hfz27_2 := blk_frozen BK296.out 2; have hfz27_3 := blk_frozen BK296.out 3; have hfz27_4 := blk_frozen BK296.out 4) | ((with_reducible refine gate_callee (f := 11) rfl ?_); refine goesL_ (some 38) rfl rfl Tryd.func11 (t23) rfl #[.agg #[.string a0_0, .int .i64 a0_1, .int .i64 a0_2, .slice A0_3 l0_3.length c0_3, .slice A0_4 l0_4.length c0_4]] rfl (t2) ?_; (with_reducible refine (laws_toBox.calls k a0_0 a0_1 a0_2 _ _ l0_3 _ _ l0_4 t315 t316 t317 t318 t321 _ ?side1 ?side2 ?side3 ?side4 A13.out).mono ?_); (case side1 => repeat (first | exact (Kd.C_below HR0_3.out HB.out) | (with_reducible refine Kd.C_alloc ?_ _) | (with_reducible refine Kd.C_drewN ?_ _) | (with_reducible refine Kd.C_drew ?_))); (case side2 => exact HC0_3.out); (case side3 => repeat (first | exact (Kd.C_below HR0_4.out HB.out) | (with_reducible refine Kd.C_alloc ?_ _) | (with_reducible refine Kd.C_drewN ?_ _) | (with_reducible refine Kd.C_drew ?_))); (case side4 => exact HC0_4.out); rintro e w28 ⟨v319, v322, rfl, ho0, ho1, hb⟩; refine ⟨_, rfl, ?_⟩; have n0_ := Aside0.mk (Kd.R_elder' (t46) (Kd.R_base ho0) hb); have n1_ := Aside0.mk (Kd.R_elder' (t47) (Kd.R_base ho1) hb); have n2_ := Aside0.mk (Kd.R_below (t48) hb); have n3_ := Aside0.mk (Kd.R_below (t78) hb); have n4_ := Aside0.mk (Kd.R_lower (Kd.R_new' ho0 (Kd.R_lt (t46))) (below_size (t21))); have n5_ := Aside0.mk (Kd.R_lower (Kd.R_new' ho1 (Kd.R_lt (t47))) (below_size (t21))); have n6_ := Aside0.mk (blk_below (g := gb296) (o := .cells #[.string a0_0, .int .i64 a0_1, .int .i64 a0_2, .slice A0_3 l0_3.length c0_3, .slice A0_4 l0_4.length c0_4] 25 (0, 0)) (t11) hb); have n7_ := Aside0.mk (below_step (t21) hb); clear HO303; clear HO306; clear HO309; clear HO313; clear BK296; clear HB; have HO303 := n0_; have HO306 := n1_; have HO309 := n2_; have HO313 := n3_; have HO320 := n4_; have HO323 := n5_; have BK296 := n6_; have HB := n7_; clear n0_ n1_ n2_ n3_ n4_ n5_ n6_ n7_; (try clear hb); (try clear hb2); (try clear hk); (try clear hi); (try clear ho0); (try clear ho1)) | ((with_reducible refine gate_dst (N := 9) rfl ?_); refine box_event ?hg (N := 9) ?hd (cs := #[.string (⟨#[]⟩ : ByteArray), .int .i64 0, .int .i64 0, .slice none 0 0, .slice none 0 0]) (t := 32) ?hr ?_; (case hd => rfl); (case hg => rfl); (case hr => first | (go_simp; done) | (go_simp; rfl)); intro gb324 hg w29 hbox hb; have n0_ := Aside0.mk (Kd.R_below (t46) hb); have n1_ := Aside0.mk (Kd.R_below (t47) hb); have n2_ := Aside0.mk (Kd.R_below (t48) hb); have n3_ := Aside0.mk (Kd.R_below (t78) hb); have n4_ := Aside0.mk (Kd.R_below (by (with_reducible repeat (first | apply Kd.R_alloc | apply Kd.R_drewN | apply Kd.R_drew)); exact HO320.out) hb); have n5_ := Aside0.mk (Kd.R_below (by (with_reducible repeat (first | apply Kd.R_alloc | apply Kd.R_drewN | apply Kd.R_drew)); exact HO323.out) hb); have n6_ := Aside0.mk (blk_below (g := gb296) (o := .cells #[.string a0_0, .int .i64 a0_1, .int .i64 a0_2, .slice A0_3 l0_3.length c0_3, .slice A0_4 l0_4.length c0_4] 25 (0, 0)) (t11) hb); have n7_ := Aside0.mk (below_step (t21) hb); have n8_ := Aside0.mk (hbox); have n9_ := Aside0.mk ((by rw [hg]; exact (below_size (t21)) : w.heap.size ≤ gb324)); have n10_ := Aside0.mk ((by rw [hg]; exact (below_size (t21)) : w.heap.size ≤ gb324)); have n11_ := Aside0.mk ((by rw [hg]; exact Nat.ne_of_lt (blk_lt (g := gb296) (o := .cells #[.string a0_0, .int .i64 a0_1, .int .i64 a0_2, .slice A0_3 l0_3.length c0_3, .slice A0_4 l0_4.length c0_4] 25 (0, 0)) (t11)) : gb296 ≠ gb324)); have n12_ := Aside0.mk ((by rw [hg]; exact Nat.ne_of_gt (blk_lt (g := gb296) (o := .cells #[.string a0_0, .int .i64 a0_1, .int .i64 a0_2, .slice A0_3 l0_3.length c0_3, .slice A0_4 l0_4.length c0_4] 25 (0, 0)) (t11)) : gb324 ≠ gb296)); clear HO303; clear HO306; clear HO309; clear HO313; clear HO320; clear HO323; clear BK296; clear HB; have HO303 := n0_; have HO306 := n1_; have HO309 := n2_; have HO313 := n3_; have HO320 := n4_; have HO323 := n5_; have BK296 := n6_; have HB := n7_; have BK324 := n8_; have GW324 := n9_; have GE324 := n10_; have NB296_324 := n11_; have NB324_296 := n12_; clear n0_ n1_ n2_ n3_ n4_ n5_ n6_ n7_ n8_ n9_ n10_ n11_ n12_; clear hb hbox hg; have hnb30 := NB324_296.out; have hnc30 := NB296_324.out; have hcz31_0 : w29.cell? ⟨gb324, 0, none⟩ = some (.string (⟨#[]⟩ : ByteArray)) := (blk_cell BK324.out 0).trans rfl; have hcz31_1 : w29.cell? ⟨gb324, 1, none⟩ = some (.int .i64 0) := (blk_cell BK324.out 1).trans rfl; have hcz31_2 : w29.cell? ⟨gb324, 2, none⟩ = some (.int .i64 0) := (blk_cell BK324.out 2).trans rfl; have hcz31_3 : w29.cell? ⟨gb324, 3, none⟩ = some (.slice none 0 0) := (blk_cell BK324.out 3).trans rfl; have hcz31_4 : w29.cell? ⟨gb324, 4, none⟩ = some (.slice none 0 0) := (blk_cell BK324.out 4).trans rfl; have hfz31_0 := blk_frozen BK324.out 0; have hfz31_1 := blk_frozen BK324.out 1; have hfz31_2 := blk_frozen BK324.out 2; have hfz31_3 := blk_frozen BK324.out 3; have hfz31_4 := blk_frozen BK324.out 4; obtain ⟨Ao32, co32, eo32⟩ := Kd.R_slice HO320.out; subst eo32; obtain ⟨Ao33, co33, eo33⟩ := Kd.R_slice HO323.out; subst eo33) | ((with_reducible refine gate_callee (f := 12) rfl ?_); refine goesL_ (some 40) rfl rfl Tryd.func12 (t23) rfl #[.slice A1 l1.length c1] rfl (t2) ?_; (with_reducible refine (laws_toIntS.calls k _ _ l1 t325 _ ?side1 ?side2 A14.out).mono ?_); (case side1 => exact Kd.C_below HR1.out (t5)); (case side2 => exact HC1.out); rintro e w34 ⟨v326, rfl, ho0, hb⟩; refine ⟨_, rfl, ?_⟩; have n0_ := Aside0.mk (Kd.R_below (by (with_reducible repeat (first | apply Kd.R_alloc | apply Kd.R_drewN | apply Kd.R_drew)); exact (Kd.R_mono (Kd.R_far (p := ⟨gb324, 4, none⟩) (Kd.R_far (p := ⟨gb324, 3, none⟩) (Kd.R_far (p := ⟨gb324, 2, none⟩) (Kd.R_far (p := ⟨gb324, 1, none⟩) (Kd.R_far (p := ⟨gb324, 0, none⟩) (Kd.R_types HO303.out BK324.out (t49)) (fun _ hk => hk.2) (.string t315)) (fun _ hk => hk.2) (.int .i64 t316)) (fun _ hk => hk.2) (.int .i64 t317)) (fun _ hk => hk.2) (.slice Ao32 t318.length co32)) (fun _ hk => hk.2) (.slice Ao33 t321.length co33)) (fun _ h_ => h_.1))) hb); have n1_ := Aside0.mk (Kd.R_below (by (with_reducible repeat (first | apply Kd.R_alloc | apply Kd.R_drewN | apply Kd.R_drew)); exact (Kd.R_mono (Kd.R_far (p := ⟨gb324, 4, none⟩) (Kd.R_far (p := ⟨gb324, 3, none⟩) (Kd.R_far (p := ⟨gb324, 2, none⟩) (Kd.R_far (p := ⟨gb324, 1, none⟩) (Kd.R_far (p := ⟨gb324, 0, none⟩) (Kd.R_types HO306.out BK324.out (t49)) (fun _ hk => hk.2) (.string t315)) (fun _ hk => hk.2) (.int .i64 t316)) (fun _ hk => hk.2) (.int .i64 t317)) (fun _ hk => hk.2) (.slice Ao32 t318.length co32)) (fun _ hk => hk.2) (.slice Ao33 t321.length co33)) (fun _ h_ => h_.1))) hb); have n2_ := Aside0.mk (Kd.R_elder' (t33) (Kd.R_base ho0) hb); have n3_ := Aside0.mk (Kd.R_elder' (t34) (Kd.R_base ho0) hb); have n4_ := Aside0.mk (Kd.R_below (by (with_reducible repeat (first | apply Kd.R_alloc | apply Kd.R_drewN | apply Kd.R_drew)); exact (Kd.R_mono (Kd.R_far (p := ⟨gb324, 4, none⟩) (Kd.R_far (p := ⟨gb324, 3, none⟩) (Kd.R_far (p := ⟨gb324, 2, none⟩) (Kd.R_far (p := ⟨gb324, 1, none⟩) (Kd.R_far (p := ⟨gb324, 0, none⟩) (Kd.R_types HO320.out BK324.out (t49)) (fun _ hk => hk.2) (.string t315)) (fun _ hk => hk.2) (.int .i64 t316)) (fun _ hk => hk.2) (.int .i64 t317)) (fun _ hk => hk.2) (.slice Ao32 t318.length co32)) (fun _ hk => hk.2) (.slice Ao33 t321.length co33)) (fun _ h_ => h_.1))) hb); have n5_ := Aside0.mk (Kd.R_below (by (with_reducible repeat (first | apply Kd.R_alloc | apply Kd.R_drewN | apply Kd.R_drew)); exact (Kd.R_mono (Kd.R_far (p := ⟨gb324, 4, none⟩) (Kd.R_far (p := ⟨gb324, 3, none⟩) (Kd.R_far (p := ⟨gb324, 2, none⟩) (Kd.R_far (p := ⟨gb324, 1, none⟩) (Kd.R_far (p := ⟨gb324, 0, none⟩) (Kd.R_types HO323.out BK324.out (t49)) (fun _ hk => hk.2) (.string t315)) (fun _ hk => hk.2) (.int .i64 t316)) (fun _ hk => hk.2) (.int .i64 t317)) (fun _ hk => hk.2) (.slice Ao32 t318.length co32)) (fun _ hk => hk.2) (.slice Ao33 t321.length co33)) (fun _ h_ => h_.1))) hb); have n6_ := Aside0.mk (Kd.R_lower (Kd.R_new' (Kd.R_new' ho0 (Kd.R_lt (t33))) (Kd.R_lt (t34))) (below_size (t5))); have n7_ := Aside0.mk (blk_below (g := gb296) (o := .cells #[.string a0_0, .int .i64 a0_1, .int .i64 a0_2, .slice A0_3 l0_3.length c0_3, .slice A0_4 l0_4.length c0_4] 25 (0, 0)) (by (with_reducible repeat (first | refine blk_drewN ?_ _ | refine blk_drew ?_ | refine blk_alloc ?_ _)); refine blk_far ?_ NB296_324.out _; (with_reducible repeat (first | refine blk_drewN ?_ _ | refine blk_drew ?_ | refine blk_alloc ?_ _)); refine blk_far ?_ NB296_324.out _; (with_reducible repeat (first | refine blk_drewN ?_ _ | refine blk_drew ?_ | refine blk_alloc ?_ _)); refine blk_far ?_ NB296_324.out _; (with_reducible repeat (first | refine blk_drewN ?_ _ | refine blk_drew ?_ | refine blk_alloc ?_ _)); refine blk_far ?_ NB296_324.out _; (with_reducible repeat (first | refine blk_drewN ?_ _ | refine blk_drew ?_ | refine blk_alloc ?_ _)); refine blk_far ?_ NB296_324.out _; (with_reducible repeat (first | refine blk_drewN ?_ _ | refine blk_drew ?_ | refine blk_alloc ?_ _)); exact BK296.out) hb); have n8_ := Aside0.mk (blk_below (g := gb324) (o := .cells #[.string t315, .int .i64 t316, .int .i64 t317, .slice Ao32 t318.length co32, .slice Ao33 t321.length co33] 32 (0, 0)) (by (with_reducible repeat (first | refine blk_drewN ?_ _ | refine blk_drew ?_ | refine blk_alloc ?_ _)); refine blk_put (cs := #[.string t315, .int .i64 t316, .int .i64 t317, .slice Ao32 t318.length co32, .slice none 0 0]) ?_ 4 _ rfl; (with_reducible repeat (first | refine blk_drewN ?_ _ | refine blk_drew ?_ | refine blk_alloc ?_ _)); refine blk_put (cs := #[.string t315, .int .i64 t316, .int .i64 t317, .slice none 0 0, .slice none 0 0]) ?_ 3 _ rfl; (with_reducible repeat (first | refine blk_drewN ?_ _ | refine blk_drew ?_ | refine blk_alloc ?_ _)); refine blk_put (cs := #[.string t315, .int .i64 t316, .int .i64 0, .slice none 0 0, .slice none 0 0]) ?_ 2 _ rfl; (with_reducible repeat (first | refine blk_drewN ?_ _ | refine blk_drew ?_ | refine blk_alloc ?_ _)); refine blk_put (cs := #[.string t315, .int .i64 0, .int .i64 0, .slice none 0 0, .slice none 0 0]) ?_ 1 _ rfl; (with_reducible repeat (first | refine blk_drewN ?_ _ | refine blk_drew ?_ | refine blk_alloc ?_ _)); refine blk_put (cs := #[.string (⟨#[]⟩ : ByteArray), .int .i64 0, .int .i64 0, .slice none 0 0, .slice none 0 0]) ?_ 0 _ rfl; (with_reducible repeat (first | refine blk_drewN ?_ _ | refine blk_drew ?_ | refine blk_alloc ?_ _)); exact BK324.out) hb); have n9_ := Aside0.mk (below_step (t5) hb); clear HO303; clear HO306; clear HO309; clear HO313; clear HO320; clear HO323; clear BK296; clear BK324; clear HB; have HO303 := n0_; have HO306 := n1_; have HO309 := n2_; have HO313 := n3_; have HO320 := n4_; have HO323 := n5_; have HO327 := n6_; have BK296 := n7_; have BK324 := n8_; have HB := n9_; clear n0_ n1_ n2_ n3_ n4_ n5_ n6_ n7_ n8_ n9_; (try clear hb); (try clear hb2); (try clear hk); (try clear hi); (try clear ho0); have hcz35_0 : w34.cell? ⟨gb324, 0, none⟩ = some (.string t315) := (blk_cell BK324.out 0).trans rfl; have hcz35_1 : w34.cell? ⟨gb324, 1, none⟩ = some (.int .i64 t316) := (blk_cell BK324.out 1).trans rfl; have hcz35_2 : w34.cell? ⟨gb324, 2, none⟩ = some (.int .i64 t317) := (blk_cell BK324.out 2).trans rfl; have hcz35_3 : w34.cell? ⟨gb324, 3, none⟩ = some (.slice Ao32 t318.length co32) := (blk_cell BK324.out 3).trans rfl; have hcz35_4 : w34.cell? ⟨gb324, 4, none⟩ = some (.slice Ao33 t321.length co33) := (blk_cell BK324.out 4).trans rfl; have hfz35_0 := blk_frozen BK324.out 0; have hfz35_1 := blk_frozen BK324.out 1; have hfz35_2 := blk_frozen BK324.out 2; have hfz35_3 := blk_frozen BK324.out 3; have hfz35_4 := blk_frozen BK324.out 4; obtain ⟨Ao36, co36, eo36⟩ := Kd.R_slice HO327.out; subst eo36) | ((with_reducible refine gate_callee (f := 13) rfl ?_); refine goesL_ (some 44) rfl rfl Tryd.func13 (t23) rfl #[.agg #[.string t315, .int .i64 t316, .int .i64 t317, .slice Ao32 t318.length co32, .slice Ao33 t321.length co33], .slice Ao36 t325.length co36] rfl (t2) ?_; (with_reducible refine (impl_ViewUpdates.calls k t315 t316 t317 _ _ t318 _ _ t321 _ _ t325 t328 t329 t332 _ ?side1 ?side2 ?side3 ?side4 ?side5 ?side6 ?side7 A15.out).mono ?_); (case side1 => repeat (first | exact (Kd.R_reads' HO320.out).2.2 | (with_reducible refine Kd.C_alloc ?_ _) | (with_reducible refine Kd.C_drewN ?_ _) | (with_reducible refine Kd.C_drew ?_))); (case side2 => exact (Kd.R_reads' HO320.out).2.1); (case side3 => repeat (first | exact (Kd.R_reads' HO323.out).2.2 | (with_reducible refine Kd.C_alloc ?_ _) | (with_reducible refine Kd.C_drewN ?_ _) | (with_reducible refine Kd.C_drew ?_))); (case side4 => exact (Kd.R_reads' HO323.out).2.1); (case side5 => repeat (first | exact (Kd.R_reads' HO327.out).2.2 | (with_reducible refine Kd.C_alloc ?_ _) | (with_reducible refine Kd.C_drewN ?_ _) | (with_reducible refine Kd.C_drew ?_))); (case side6 => exact (Kd.R_reads' HO327.out).2.1); (case side7 => first | exact HG | exact ⟨HG.out.of rfl⟩ | (refine ⟨HG.out.on ?_⟩; (repeat (first | (with_reducible first | exact HB.out | apply below_alloc | apply pw_below_drewN | apply below_drew1 | refine below_set ?_ GE296.out | refine below_set ?_ GE324.out) | exact HB.out)); done) | exact ⟨HG.out.on HBW.out⟩); rintro e w37 ⟨v330, rfl, ho0, hb⟩; refine ⟨_, rfl, ?_⟩; have n0_ := Aside0.mk (Kd.R_below (t46) hb); have n1_ := Aside0.mk (Kd.R_below (t47) hb); have n2_ := Aside0.mk (Kd.R_elder' (t48) (Kd.R_base ho0) hb); have n3_ := Aside0.mk (Kd.R_elder' (t78) (Kd.R_base ho0) hb); have n4_ := Aside0.mk (Kd.R_below (by (with_reducible repeat (first | apply Kd.R_alloc | apply Kd.R_drewN | apply Kd.R_drew)); exact HO320.out) hb); have n5_ := Aside0.mk (Kd.R_below (by (with_reducible repeat (first | apply Kd.R_alloc | apply Kd.R_drewN | apply Kd.R_drew)); exact HO323.out) hb); have n6_ := Aside0.mk (Kd.R_elder' (by (with_reducible repeat (first | apply Kd.R_alloc | apply Kd.R_drewN | apply Kd.R_drew)); exact HO327.out) (Kd.R_base ho0) hb); have n7_ := Aside0.mk (Kd.R_lower (Kd.R_new' (Kd.R_new' (Kd.R_new' ho0 (Kd.R_lt (t48))) (Kd.R_lt (t78))) (Kd.R_lt (by (with_reducible repeat (first | apply Kd.R_alloc | apply Kd.R_drewN | apply Kd.R_drew)); exact HO327.out))) (below_size (t5))); have n8_ := Aside0.mk (blk_below (g := gb296) (o := .cells #[.string a0_0, .int .i64 a0_1, .int .i64 a0_2, .slice A0_3 l0_3.length c0_3, .slice A0_4 l0_4.length c0_4] 25 (0, 0)) (t11) hb); have n9_ := Aside0.mk (blk_below (g := gb324) (o := .cells #[.string t315, .int .i64 t316, .int .i64 t317, .slice Ao32 t318.length co32, .slice Ao33 t321.length co33] 32 (0, 0)) (t17) hb); have n10_ := Aside0.mk (below_step (t5) hb); clear HO303; clear HO306; clear HO309; clear HO313; clear HO320; clear HO323; clear HO327; clear BK296; clear BK324; clear HB; have HO303 := n0_; have HO306 := n1_; have HO309 := n2_; have HO313 := n3_; have HO320 := n4_; have HO323 := n5_; have HO327 := n6_; have HO331 := n7_; have BK296 := n8_; have BK324 := n9_; have HB := n10_; clear n0_ n1_ n2_ n3_ n4_ n5_ n6_ n7_ n8_ n9_ n10_; (try clear hb); (try clear hb2); (try clear hk); (try clear hi); (try clear ho0)))
   (try simp only [Act.put, List.setIfInBounds_toArray, List.set_cons_zero, List.set_cons_succ])
   go_cut [61] (fun v61 wc => ∃ (kq : Nat) (x61_15 : Bool), v61 = .bool x61_15 ∧ Aside0 (laws_FnExactViewUpdates.j0 kq l1 t310 t311 t314 t325 t328 t329 t332 x61_15 a0_0 a0_1 a0_2 l0_3 l0_4 t315 t316 t317 t318 t321 = some r) ∧ Aside0 (kq ≤ k) ∧ Aside0 (Kd.R (Kd.int .i64) 3 wc w.heap.size (fun k_ => some k_ ≠ ((.slice Ao36 t325.length co36) : Value).ownBlock ∧ some k_ ≠ (v330 : Value).ownBlock) v312 t311) ∧ Aside0 (Kd.R (Kd.int .i64) 3 wc w.heap.size (fun k_ => some k_ ≠ (v312 : Value).ownBlock ∧ some k_ ≠ (v330 : Value).ownBlock) (.slice Ao36 t325.length co36) t325) ∧ Aside0 (Kd.R (Kd.int .i64) 3 wc w.heap.size (fun k_ => some k_ ≠ (v312 : Value).ownBlock ∧ some k_ ≠ ((.slice Ao36 t325.length co36) : Value).ownBlock) v330 t329) ∧ Aside0 (Kd.R k67 67 wc w.heap.size (fun _ => True) (.slice Ao32 t318.length co32) t318) ∧ Aside0 (Kd.R Kd.string 9 wc w.heap.size (fun _ => True) (.slice Ao33 t321.length co33) t321) ∧ Aside0 (wc.heap[gb296]? = some (.cells #[.string a0_0, .int .i64 a0_1, .int .i64 a0_2, (.slice A0_3 l0_3.length c0_3), (.slice A0_4 l0_4.length c0_4)] 25 (0, 0))) ∧ Aside0 (wc.heap[gb324]? = some (.cells #[.string t315, .int .i64 t316, .int .i64 t317, (.slice Ao32 t318.length co32), (.slice Ao33 t321.length co33)] 32 (0, 0))) ∧ Aside0 (Below w.heap.size w wc))
   case first =>
    have H := HC16.out
    clear HC16
    by_cases c38 : t328.toList = t310.toList
    ·rw [if_pos c38] at H
     have c38b0 : (t328.toList == t310.toList) = true := beq_iff_eq.mpr c38
     have c38b1 : (t328.toList != t310.toList) = false := bne_eq_false_iff_eq.mpr c38
     clear c38
     (first | rw [c38b0] | rw [c38b1] | (simp only [i64_w, i32_w]; rw [c38b0]) | skip)
     replace H := Option.bind_eq_some_iff.mp H
     obtain ⟨t333, A390, H⟩ := H
     replace H : (if t333 = true then (laws_FnExactViewUpdates.j0 k l1 t310 t311 t314 t325 t328 t329 t332 (t332 != t314) a0_0 a0_1 a0_2 l0_3 l0_4 t315 t316 t317 t318 t321) else (laws_FnExactViewUpdates.j0 k l1 t310 t311 t314 t325 t328 t329 t332 true a0_0 a0_1 a0_2 l0_3 l0_4 t315 t316 t317 t318 t321)) = some r := H
     have A39 := Aside0.mk A390
     clear A390
     by_cases c40 : t333 = true
     ·subst c40
      have H1 : (laws_FnExactViewUpdates.j0 k l1 t310 t311 t314 t325 t328 t329 t332 (t332 != t314) a0_0 a0_1 a0_2 l0_3 l0_4 t315 t316 t317 t318 t321) = some r := by rw [if_pos rfl] at H; exact H
      clear H
      have H := H1
      clear H1
      have H' := Aside0.mk H
      clear H
      obtain ⟨Ao41, co41, eo41⟩ := Kd.R_slice HO331.out
      subst eo41
      obtain ⟨Ao42, co42, eo42⟩ := Kd.R_slice HO313.out
      subst eo42
      go_wp2_with (first | (go_at_call 14; (with_reducible refine (laws_eqIntS.calls k _ _ t329 _ _ t311 true _ ?side1 ?side2 ?side3 ?side4 A39.out).mono ?_); (case side1 => repeat (first | exact (Kd.R_reads' HO331.out).2.2 | (with_reducible refine Kd.C_alloc ?_ _) | (with_reducible refine Kd.C_drewN ?_ _) | (with_reducible refine Kd.C_drew ?_))); (case side2 => exact (Kd.R_reads' HO331.out).2.1); (case side3 => repeat (first | exact (Kd.R_reads' HO313.out).2.2 | (with_reducible refine Kd.C_alloc ?_ _) | (with_reducible refine Kd.C_drewN ?_ _) | (with_reducible refine Kd.C_drew ?_))); (case side4 => exact (Kd.R_reads' HO313.out).2.1); rintro e w' ⟨rfl, ⟨nd, rfl⟩⟩))
      go_meet
      case rel => exact ⟨_, ((t332 != t314)), (t0), H', ⟨t45⟩, ⟨t75⟩, ⟨t76⟩, ⟨t77⟩, ⟨t79⟩, ⟨t80⟩, ⟨t11⟩, ⟨t17⟩, ⟨t5⟩⟩
     ·replace c40 := Bool.eq_false_iff.mpr c40
      subst c40
      have H1 : (laws_FnExactViewUpdates.j0 k l1 t310 t311 t314 t325 t328 t329 t332 true a0_0 a0_1 a0_2 l0_3 l0_4 t315 t316 t317 t318 t321) = some r := by rw [if_neg (show ¬ (false = true) by decide)] at H; exact H
      clear H
      have H := H1
      clear H1
      have H' := Aside0.mk H
      clear H
      obtain ⟨Ao43, co43, eo43⟩ := Kd.R_slice HO331.out
      subst eo43
      obtain ⟨Ao44, co44, eo44⟩ := Kd.R_slice HO313.out
      subst eo44
      go_wp2_with (first | (go_at_call 14; (with_reducible refine (laws_eqIntS.calls k _ _ t329 _ _ t311 false _ ?side1 ?side2 ?side3 ?side4 A39.out).mono ?_); (case side1 => repeat (first | exact (Kd.R_reads' HO331.out).2.2 | (with_reducible refine Kd.C_alloc ?_ _) | (with_reducible refine Kd.C_drewN ?_ _) | (with_reducible refine Kd.C_drew ?_))); (case side2 => exact (Kd.R_reads' HO331.out).2.1); (case side3 => repeat (first | exact (Kd.R_reads' HO313.out).2.2 | (with_reducible refine Kd.C_alloc ?_ _) | (with_reducible refine Kd.C_drewN ?_ _) | (with_reducible refine Kd.C_drew ?_))); (case side4 => exact (Kd.R_reads' HO313.out).2.1); rintro e w' ⟨rfl, ⟨nd, rfl⟩⟩))
      go_meet
      case rel => exact ⟨_, (true), (t0), H', ⟨t45⟩, ⟨t75⟩, ⟨t76⟩, ⟨t77⟩, ⟨t79⟩, ⟨t80⟩, ⟨t11⟩, ⟨t17⟩, ⟨t5⟩⟩
    ·rw [if_neg c38] at H
     have c38b0 : (t328.toList == t310.toList) = false := beq_eq_false_iff_ne.mpr c38
     have c38b1 : (t328.toList != t310.toList) = true := bne_iff_ne.mpr c38
     (first | rw [c38b0] | rw [c38b1] | (simp only [i64_w, i32_w]; rw [c38b0]) | skip)
     have H' := Aside0.mk H
     clear H
     go_wp2
     go_meet
     case rel => exact ⟨_, (true), (t0), H', ⟨t45⟩, ⟨t75⟩, ⟨t76⟩, ⟨t77⟩, ⟨t79⟩, ⟨t80⟩, ⟨t11⟩, ⟨t17⟩, ⟨t5⟩⟩
   case rest =>
    clear HC16
    try clear c1
    try clear p2
    try clear c3
    try clear c3b0
    try clear c3b1
    try clear c4
    try clear c6
    try clear c6b0
    try clear c9
    try clear c10
    try clear c11
    try clear c12
    try clear c13
    try clear c30
    try clear c38
    try clear c38b0
    try clear c38b1
    try clear c40
    try clear hcz18_0
    try clear hcz18_1
    try clear hcz18_2
    try clear hcz18_3
    try clear hcz18_4
    try clear hcz20_0
    try clear hcz20_1
    try clear hcz20_2
    try clear hcz20_3
    try clear hcz20_4
    try clear hcz27_0
    try clear hcz27_1
    try clear hcz27_2
    try clear hcz27_3
    try clear hcz27_4
    try clear hcz31_0
    try clear hcz31_1
    try clear hcz31_2
    try clear hcz31_3
    try clear hcz31_4
    try clear hcz35_0
    try clear hcz35_1
    try clear hcz35_2
    try clear hcz35_3
    try clear hcz35_4
    try clear hcz8_0
    try clear hcz8_1
    try clear hcz8_2
    try clear hcz8_3
    try clear hcz8_4
    try clear hfz18_0
    try clear hfz18_1
    try clear hfz18_2
    try clear hfz18_3
    try clear hfz18_4
    try clear hfz20_0
    try clear hfz20_1
    try clear hfz20_2
    try clear hfz20_3
    try clear hfz20_4
    try clear hfz27_0
    try clear hfz27_1
    try clear hfz27_2
    try clear hfz27_3
    try clear hfz27_4
    try clear hfz31_0
    try clear hfz31_1
    try clear hfz31_2
    try clear hfz31_3
    try clear hfz31_4
    try clear hfz35_0
    try clear hfz35_1
    try clear hfz35_2
    try clear hfz35_3
    try clear hfz35_4
    try clear hfz8_0
    try clear hfz8_1
    try clear hfz8_2
    try clear hfz8_3
    try clear hfz8_4
    obtain ⟨kq, x61_15, rfl, HA, HJ15, HO_7, HO_10, HO_12, HO_325003, HO_325004, BK296, BK324, HB⟩ := hcut
    cases kq with
    | zero => exact absurd HA.out (by simp [laws_FnExactViewUpdates.j0])
    | succ kj15 =>
     have H := HA.out
     clear HA
     simp only [laws_FnExactViewUpdates.j0] at H
     by_cases c45 : x61_15 = true
     ·subst c45
      have H1 : (some false) = some r := by rw [if_pos rfl] at H; exact H
      clear H
      have H := H1
      clear H1
      obtain rfl := Option.some.inj H
      go_wp2
      go_ret
      exact ⟨t4, by repeat (first | (with_reducible first | exact HB.out | apply below_alloc | apply pw_below_drewN | apply below_drew1 | refine below_set ?_ GE296.out | refine below_set ?_ GE324.out) | exact HB.out)⟩
     ·replace c45 := Bool.eq_false_iff.mpr c45
      subst c45
      have H1 : ((laws_toBox.f kj15 a0_0 a0_1 a0_2 l0_3 l0_4).bind fun bt334 => ((laws_eqBox.f kj15 t315 t316 t317 t318 t321 bt334.1 bt334.2.1 bt334.2.2.1 bt334.2.2.2.1 bt334.2.2.2.2).bind fun t343 => (if t343 = true then ((laws_toIntS.f kj15 l1).bind fun t344 => ((laws_eqIntS.f kj15 t325 t344).bind fun t347 => (if t347 = true then ((laws_markBox.f kj15 t315 t316 t317 t318 t321 1).bind fun bt348 => ((laws_markIntS.f kj15 t325 bt348.1).bind fun bt351 => (if bt351.1 < 0 then (laws_FnExactViewUpdates.j1 kj15 l1 t310 t311 t314 t329 true a0_0 a0_1 a0_2 l0_3 l0_4) else (if t328.toList = t310.toList then ((laws_eqIntS.f kj15 t329 t311).bind fun t353 => (if t353 = true then (laws_FnExactViewUpdates.j1 kj15 l1 t310 t311 t314 t329 (t332 != t314) a0_0 a0_1 a0_2 l0_3 l0_4) else (laws_FnExactViewUpdates.j1 kj15 l1 t310 t311 t314 t329 true a0_0 a0_1 a0_2 l0_3 l0_4))) else (laws_FnExactViewUpdates.j1 kj15 l1 t310 t311 t314 t329 true a0_0 a0_1 a0_2 l0_3 l0_4))))) else (some false)))) else (some false)))) = some r := by rw [if_neg (show ¬ (false = true) by decide)] at H; exact H
      clear H
      have H := H1
      clear H1
      replace H := Option.bind_eq_some_iff.mp H
      obtain ⟨⟨t334, t335, t336, t337, t340⟩, A460, H⟩ := H
      replace H : ((laws_eqBox.f kj15 t315 t316 t317 t318 t321 t334 t335 t336 t337 t340).bind fun t343 => (if t343 = true then ((laws_toIntS.f kj15 l1).bind fun t344 => ((laws_eqIntS.f kj15 t325 t344).bind fun t347 => (if t347 = true then ((laws_markBox.f kj15 t315 t316 t317 t318 t321 1).bind fun bt348 => ((laws_markIntS.f kj15 t325 bt348.1).bind fun bt351 => (if bt351.1 < 0 then (laws_FnExactViewUpdates.j1 kj15 l1 t310 t311 t314 t329 true a0_0 a0_1 a0_2 l0_3 l0_4) else (if t328.toList = t310.toList then ((laws_eqIntS.f kj15 t329 t311).bind fun t353 => (if t353 = true then (laws_FnExactViewUpdates.j1 kj15 l1 t310 t311 t314 t329 (t332 != t314) a0_0 a0_1 a0_2 l0_3 l0_4) else (laws_FnExactViewUpdates.j1 kj15 l1 t310 t311 t314 t329 true a0_0 a0_1 a0_2 l0_3 l0_4))) else (laws_FnExactViewUpdates.j1 kj15 l1 t310 t311 t314 t329 true a0_0 a0_1 a0_2 l0_3 l0_4))))) else (some false)))) else (some false))) = some r := H
      have A46 := Aside0.mk A460
      clear A460
      replace H := Option.bind_eq_some_iff.mp H
      obtain ⟨t343, A470, H⟩ := H
      replace H : (if t343 = true then ((laws_toIntS.f kj15 l1).bind fun t344 => ((laws_eqIntS.f kj15 t325 t344).bind fun t347 => (if t347 = true then ((laws_markBox.f kj15 t315 t316 t317 t318 t321 1).bind fun bt348 => ((laws_markIntS.f kj15 t325 bt348.1).bind fun bt351 => (if bt351.1 < 0 then (laws_FnExactViewUpdates.j1 kj15 l1 t310 t311 t314 t329 true a0_0 a0_1 a0_2 l0_3 l0_4) else (if t328.toList = t310.toList then ((laws_eqIntS.f kj15 t329 t311).bind fun t353 => (if t353 = true then (laws_FnExactViewUpdates.j1 kj15 l1 t310 t311 t314 t329 (t332 != t314) a0_0 a0_1 a0_2 l0_3 l0_4) else (laws_FnExactViewUpdates.j1 kj15 l1 t310 t311 t314 t329 true a0_0 a0_1 a0_2 l0_3 l0_4))) else (laws_FnExactViewUpdates.j1 kj15 l1 t310 t311 t314 t329 true a0_0 a0_1 a0_2 l0_3 l0_4))))) else (some false)))) else (some false)) = some r := H
      have A47 := Aside0.mk A470
      clear A470
      by_cases c48 : t343 = true
      ·subst c48
       have H1 : ((laws_toIntS.f kj15 l1).bind fun t344 => ((laws_eqIntS.f kj15 t325 t344).bind fun t347 => (if t347 = true then ((laws_markBox.f kj15 t315 t316 t317 t318 t321 1).bind fun bt348 => ((laws_markIntS.f kj15 t325 bt348.1).bind fun bt351 => (if bt351.1 < 0 then (laws_FnExactViewUpdates.j1 kj15 l1 t310 t311 t314 t329 true a0_0 a0_1 a0_2 l0_3 l0_4) else (if t328.toList = t310.toList then ((laws_eqIntS.f kj15 t329 t311).bind fun t353 => (if t353 = true then (laws_FnExactViewUpdates.j1 kj15 l1 t310 t311 t314 t329 (t332 != t314) a0_0 a0_1 a0_2 l0_3 l0_4) else (laws_FnExactViewUpdates.j1 kj15 l1 t310 t311 t314 t329 true a0_0 a0_1 a0_2 l0_3 l0_4))) else (laws_FnExactViewUpdates.j1 kj15 l1 t310 t311 t314 t329 true a0_0 a0_1 a0_2 l0_3 l0_4))))) else (some false)))) = some r := by rw [if_pos rfl] at H; exact H
       clear H
       have H := H1
       clear H1
       replace H := Option.bind_eq_some_iff.mp H
       obtain ⟨t344, A490, H⟩ := H
       replace H : ((laws_eqIntS.f kj15 t325 t344).bind fun t347 => (if t347 = true then ((laws_markBox.f kj15 t315 t316 t317 t318 t321 1).bind fun bt348 => ((laws_markIntS.f kj15 t325 bt348.1).bind fun bt351 => (if bt351.1 < 0 then (laws_FnExactViewUpdates.j1 kj15 l1 t310 t311 t314 t329 true a0_0 a0_1 a0_2 l0_3 l0_4) else (if t328.toList = t310.toList then ((laws_eqIntS.f kj15 t329 t311).bind fun t353 => (if t353 = true then (laws_FnExactViewUpdates.j1 kj15 l1 t310 t311 t314 t329 (t332 != t314) a0_0 a0_1 a0_2 l0_3 l0_4) else (laws_FnExactViewUpdates.j1 kj15 l1 t310 t311 t314 t329 true a0_0 a0_1 a0_2 l0_3 l0_4))) else (laws_FnExactViewUpdates.j1 kj15 l1 t310 t311 t314 t329 true a0_0 a0_1 a0_2 l0_3 l0_4))))) else (some false))) = some r := H
       have A49 := Aside0.mk A490
       clear A490
       replace H := Option.bind_eq_some_iff.mp H
       obtain ⟨t347, A500, H⟩ := H
       replace H : (if t347 = true then ((laws_markBox.f kj15 t315 t316 t317 t318 t321 1).bind fun bt348 => ((laws_markIntS.f kj15 t325 bt348.1).bind fun bt351 => (if bt351.1 < 0 then (laws_FnExactViewUpdates.j1 kj15 l1 t310 t311 t314 t329 true a0_0 a0_1 a0_2 l0_3 l0_4) else (if t328.toList = t310.toList then ((laws_eqIntS.f kj15 t329 t311).bind fun t353 => (if t353 = true then (laws_FnExactViewUpdates.j1 kj15 l1 t310 t311 t314 t329 (t332 != t314) a0_0 a0_1 a0_2 l0_3 l0_4) else (laws_FnExactViewUpdates.j1 kj15 l1 t310 t311 t314 t329 true a0_0 a0_1 a0_2 l0_3 l0_4))) else (laws_FnExactViewUpdates.j1 kj15 l1 t310 t311 t314 t329 true a0_0 a0_1 a0_2 l0_3 l0_4))))) else (some false)) = some r := H
       have A50 := Aside0.mk A500
       clear A500
       by_cases c51 : t347 = true
       ·subst c51
        have H1 : ((laws_markBox.f kj15 t315 t316 t317 t318 t321 1).bind fun bt348 => ((laws_markIntS.f kj15 t325 bt348.1).bind fun bt351 => (if bt351.1 < 0 then (laws_FnExactViewUpdates.j1 kj15 l1 t310 t311 t314 t329 true a0_0 a0_1 a0_2 l0_3 l0_4) else (if t328.toList = t310.toList then ((laws_eqIntS.f kj15 t329 t311).bind fun t353 => (if t353 = true then (laws_FnExactViewUpdates.j1 kj15 l1 t310 t311 t314 t329 (t332 != t314) a0_0 a0_1 a0_2 l0_3 l0_4) else (laws_FnExactViewUpdates.j1 kj15 l1 t310 t311 t314 t329 true a0_0 a0_1 a0_2 l0_3 l0_4))) else (laws_FnExactViewUpdates.j1 kj15 l1 t310 t311 t314 t329 true a0_0 a0_1 a0_2 l0_3 l0_4))))) = some r := by rw [if_pos rfl] at H; exact H
        clear H
        have H := H1
        clear H1
        replace H := Option.bind_eq_some_iff.mp H
        obtain ⟨⟨t348, t349, t350⟩, A520, H⟩ := H
        replace H : ((laws_markIntS.f kj15 t325 t348).bind fun bt351 => (if bt351.1 < 0 then (laws_FnExactViewUpdates.j1 kj15 l1 t310 t311 t314 t329 true a0_0 a0_1 a0_2 l0_3 l0_4) else (if t328.toList = t310.toList then ((laws_eqIntS.f kj15 t329 t311).bind fun t353 => (if t353 = true then (laws_FnExactViewUpdates.j1 kj15 l1 t310 t311 t314 t329 (t332 != t314) a0_0 a0_1 a0_2 l0_3 l0_4) else (laws_FnExactViewUpdates.j1 kj15 l1 t310 t311 t314 t329 true a0_0 a0_1 a0_2 l0_3 l0_4))) else (laws_FnExactViewUpdates.j1 kj15 l1 t310 t311 t314 t329 true a0_0 a0_1 a0_2 l0_3 l0_4)))) = some r := H
        have A52 := Aside0.mk A520
        clear A520
        replace H := Option.bind_eq_some_iff.mp H
        obtain ⟨⟨t351, t352⟩, A530, H⟩ := H
        replace H : (if t351 < 0 then (laws_FnExactViewUpdates.j1 kj15 l1 t310 t311 t314 t329 true a0_0 a0_1 a0_2 l0_3 l0_4) else (if t328.toList = t310.toList then ((laws_eqIntS.f kj15 t329 t311).bind fun t353 => (if t353 = true then (laws_FnExactViewUpdates.j1 kj15 l1 t310 t311 t314 t329 (t332 != t314) a0_0 a0_1 a0_2 l0_3 l0_4) else (laws_FnExactViewUpdates.j1 kj15 l1 t310 t311 t314 t329 true a0_0 a0_1 a0_2 l0_3 l0_4))) else (laws_FnExactViewUpdates.j1 kj15 l1 t310 t311 t314 t329 true a0_0 a0_1 a0_2 l0_3 l0_4))) = some r := H
        have A53 := Aside0.mk A530
        clear A530
        have HC54 := Aside0.mk H
        clear H
        try go_wp2
        have n0_ := Aside0.mk (Kd.R_drew HO_7.out)
        have n1_ := Aside0.mk (Kd.R_drew HO_10.out)
        have n2_ := Aside0.mk (Kd.R_drew HO_12.out)
        have n3_ := Aside0.mk (Kd.R_drew HO_325003.out)
        have n4_ := Aside0.mk (Kd.R_drew HO_325004.out)
        have n5_ := Aside0.mk (blk_drew BK296.out)
        have n6_ := Aside0.mk (blk_drew BK324.out)
        have n7_ := Aside0.mk (below_drew1 HB.out)
        clear HO_7
        clear HO_10
        clear HO_12
        clear HO_325003
        clear HO_325004
        clear BK296
        clear BK324
        clear HB
        have HO_7 := n0_
        have HO_10 := n1_
        have HO_12 := n2_
        have HO_325003 := n3_
        have HO_325004 := n4_
        have BK296 := n5_
        have BK324 := n6_
        have HB := n7_
        clear n0_ n1_ n2_ n3_ n4_ n5_ n6_ n7_
        refine start_ (n := 5) (S := fun w' => w'.cell? ⟨gb324, 0, none⟩ = some (.string t315) ∧ w'.cell? ⟨gb324, 1, none⟩ = some (.int .i64 t316) ∧ w'.cell? ⟨gb324, 2, none⟩ = some (.int .i64 t317) ∧ w'.cell? ⟨gb324, 3, none⟩ = some (.slice Ao32 t318.length co32) ∧ w'.cell? ⟨gb324, 4, none⟩ = some (.slice Ao33 t321.length co33) ∧ w'.cell? ⟨gb296, 0, none⟩ = some (.string a0_0) ∧ w'.cell? ⟨gb296, 1, none⟩ = some (.int .i64 a0_1) ∧ w'.cell? ⟨gb296, 2, none⟩ = some (.int .i64 a0_2) ∧ w'.cell? ⟨gb296, 3, none⟩ = some (.slice A0_3 l0_3.length c0_3) ∧ w'.cell? ⟨gb296, 4, none⟩ = some (.slice A0_4 l0_4.length c0_4)) (ds := []) #[false, false, false, false, false] (t23) rfl rfl ⟨(blk_cell BK324.out 0).trans rfl, (blk_cell BK324.out 1).trans rfl, (blk_cell BK324.out 2).trans rfl, (blk_cell BK324.out 3).trans rfl, (blk_cell BK324.out 4).trans rfl, (blk_cell BK296.out 0).trans rfl, (blk_cell BK296.out 1).trans rfl, (blk_cell BK296.out 2).trans rfl, (blk_cell BK296.out 3).trans rfl, (blk_cell BK296.out 4).trans rfl⟩ (fun hHeld => ?_)
        generalize wc.drew = w55 at HO_7 HO_10 HO_12 HO_325003 HO_325004 BK296 BK324 HB hHeld ⊢
        refine tA 0 62 ?_
        refine tA 1 63 ?_
        refine oA 2 64 (fun K hK => ?_)
        refine goes_ Tryd.func11 (t23) rfl #[.agg #[.string a0_0, .int .i64 a0_1, .int .i64 a0_2, .slice A0_3 l0_3.length c0_3, .slice A0_4 l0_4.length c0_4]] (by rfl) rfl rfl (t2) ?_
        with_reducible refine (laws_toBox.calls kj15 a0_0 a0_1 a0_2 _ _ l0_3 _ _ l0_4 t334 t335 t336 t337 t340 _ ?side1 ?side2 ?side3 ?side4 A46.out).mono ?_
        (case side1 => repeat (first | exact (Kd.C_below HR0_3.out HB.out) | (with_reducible refine Kd.C_alloc ?_ _) | (with_reducible refine Kd.C_drewN ?_ _) | (with_reducible refine Kd.C_drew ?_)))
        (case side2 => exact HC0_3.out)
        (case side3 => repeat (first | exact (Kd.C_below HR0_4.out HB.out) | (with_reducible refine Kd.C_alloc ?_ _) | (with_reducible refine Kd.C_drewN ?_ _) | (with_reducible refine Kd.C_drew ?_)))
        (case side4 => exact HC0_4.out)
        rintro e w56 ⟨v338, v341, rfl, ho0, ho1, hb⟩
        refine ⟨_, rfl, ?_⟩
        have n0_ := Aside0.mk (Kd.R_below (t9) hb)
        have n1_ := Aside0.mk (Kd.R_below (t35) hb)
        have n2_ := Aside0.mk (Kd.R_below (t30) hb)
        have n3_ := Aside0.mk (Kd.R_elder' (t28) (Kd.R_base ho0) hb)
        have n4_ := Aside0.mk (Kd.R_elder' (t29) (Kd.R_base ho1) hb)
        have n5_ := Aside0.mk (Kd.R_lower (Kd.R_new' ho0 (Kd.R_lt (t28))) (below_size (t5)))
        have n6_ := Aside0.mk (Kd.R_lower (Kd.R_new' ho1 (Kd.R_lt (t29))) (below_size (t5)))
        have n7_ := Aside0.mk (blk_below (g := gb296) (o := .cells #[.string a0_0, .int .i64 a0_1, .int .i64 a0_2, .slice A0_3 l0_3.length c0_3, .slice A0_4 l0_4.length c0_4] 25 (0, 0)) (t11) hb)
        have n8_ := Aside0.mk (blk_below (g := gb324) (o := .cells #[.string t315, .int .i64 t316, .int .i64 t317, .slice Ao32 t318.length co32, .slice Ao33 t321.length co33] 32 (0, 0)) (t17) hb)
        have n9_ := Aside0.mk (below_step (t5) hb)
        clear HO_7
        clear HO_10
        clear HO_12
        clear HO_325003
        clear HO_325004
        clear BK296
        clear BK324
        clear HB
        have HO_7 := n0_
        have HO_10 := n1_
        have HO_12 := n2_
        have HO_325003 := n3_
        have HO_325004 := n4_
        have HO339 := n5_
        have HO342 := n6_
        have BK296 := n7_
        have BK324 := n8_
        have HB := n9_
        clear n0_ n1_ n2_ n3_ n4_ n5_ n6_ n7_ n8_ n9_
        (try clear hb)
        (try clear hb2)
        (try clear hk)
        (try clear hi)
        (try clear ho0)
        (try clear ho1)
        obtain ⟨Ao57, co57, eo57⟩ := Kd.R_slice HO339.out
        (first | subst eo57 | (injection eo57 with f1_ f2_ f3_; have f4_ := f1_.symm; have f5_ := f3_.symm; clear f1_ f2_ f3_; subst f4_; subst f5_))
        obtain ⟨Ao58, co58, eo58⟩ := Kd.R_slice HO342.out
        (first | subst eo58 | (injection eo58 with f1_ f2_ f3_; have f4_ := f1_.symm; have f5_ := f3_.symm; clear f1_ f2_ f3_; subst f4_; subst f5_))
        refine hK.out _ _ ⟨(blk_cell BK324.out 0).trans rfl, (blk_cell BK324.out 1).trans rfl, (blk_cell BK324.out 2).trans rfl, (blk_cell BK324.out 3).trans rfl, (blk_cell BK324.out 4).trans rfl, (blk_cell BK296.out 0).trans rfl, (blk_cell BK296.out 1).trans rfl, (blk_cell BK296.out 2).trans rfl, (blk_cell BK296.out 3).trans rfl, (blk_cell BK296.out 4).trans rfl⟩ (fun hHeld => ?_)
        clear hK K
        refine norm_ (a' := ?_) ?_ ?_
        rotate_left
        ·show Act.put _ (some 64) _ = _
         simp only [Act.put, List.setIfInBounds_toArray, List.set_cons_zero, List.set_cons_succ, i64_w, i32_w]
         rfl
        refine oA 3 65 (fun K hK => ?_)
        refine goes_ Tryd.func15 (t23) rfl #[.agg #[.string t315, .int .i64 t316, .int .i64 t317, .slice Ao32 t318.length co32, .slice Ao33 t321.length co33], .agg #[.string t334, .int .i64 t335, .int .i64 t336, .slice Ao57 t337.length co57, .slice Ao58 t340.length co58]] (by rfl) rfl rfl (t2) ?_
        with_reducible refine (laws_eqBox.calls kj15 t315 t316 t317 _ _ t318 _ _ t321 t334 t335 t336 _ _ t337 _ _ t340 true _ ?side1 ?side2 ?side3 ?side4 ?side5 ?side6 ?side7 ?side8 A47.out).mono ?_
        (case side1 => repeat (first | exact (Kd.R_reads' HO_325003.out).2.2 | (with_reducible refine Kd.C_alloc ?_ _) | (with_reducible refine Kd.C_drewN ?_ _) | (with_reducible refine Kd.C_drew ?_)))
        (case side2 => exact (Kd.R_reads' HO_325003.out).2.1)
        (case side3 => repeat (first | exact (Kd.R_reads' HO_325004.out).2.2 | (with_reducible refine Kd.C_alloc ?_ _) | (with_reducible refine Kd.C_drewN ?_ _) | (with_reducible refine Kd.C_drew ?_)))
        (case side4 => exact (Kd.R_reads' HO_325004.out).2.1)
        (case side5 => repeat (first | exact (Kd.R_reads' HO339.out).2.2 | (with_reducible refine Kd.C_alloc ?_ _) | (with_reducible refine Kd.C_drewN ?_ _) | (with_reducible refine Kd.C_drew ?_)))
        (case side6 => exact (Kd.R_reads' HO339.out).2.1)
        (case side7 => repeat (first | exact (Kd.R_reads' HO342.out).2.2 | (with_reducible refine Kd.C_alloc ?_ _) | (with_reducible refine Kd.C_drewN ?_ _) | (with_reducible refine Kd.C_drew ?_)))
        (case side8 => exact (Kd.R_reads' HO342.out).2.1)
        rintro e w59 ⟨rfl, hb⟩
        refine ⟨_, rfl, ?_⟩
        have n0_ := Aside0.mk (Kd.R_below (t9) hb)
        have n1_ := Aside0.mk (Kd.R_below (t35) hb)
        have n2_ := Aside0.mk (Kd.R_below (t30) hb)
        have n3_ := Aside0.mk (Kd.R_below (t28) hb)
        have n4_ := Aside0.mk (Kd.R_below (t29) hb)
        have n5_ := Aside0.mk (Kd.R_below (t67) hb)
        have n6_ := Aside0.mk (Kd.R_below (t68) hb)
        have n7_ := Aside0.mk (blk_below (g := gb296) (o := .cells #[.string a0_0, .int .i64 a0_1, .int .i64 a0_2, .slice A0_3 l0_3.length c0_3, .slice A0_4 l0_4.length c0_4] 25 (0, 0)) (t11) hb)
        have n8_ := Aside0.mk (blk_below (g := gb324) (o := .cells #[.string t315, .int .i64 t316, .int .i64 t317, .slice Ao32 t318.length co32, .slice Ao33 t321.length co33] 32 (0, 0)) (t17) hb)
        have n9_ := Aside0.mk (below_step (t5) hb)
        clear HO_7
        clear HO_10
        clear HO_12
        clear HO_325003
        clear HO_325004
        clear HO339
        clear HO342
        clear BK296
        clear BK324
        clear HB
        have HO_7 := n0_
        have HO_10 := n1_
        have HO_12 := n2_
        have HO_325003 := n3_
        have HO_325004 := n4_
        have HO339 := n5_
        have HO342 := n6_
        have BK296 := n7_
        have BK324 := n8_
        have HB := n9_
        clear n0_ n1_ n2_ n3_ n4_ n5_ n6_ n7_ n8_ n9_
        (try clear hb)
        (try clear hb2)
        (try clear hk)
        (try clear hi)
        refine hK.out _ _ ⟨(blk_cell BK324.out 0).trans rfl, (blk_cell BK324.out 1).trans rfl, (blk_cell BK324.out 2).trans rfl, (blk_cell BK324.out 3).trans rfl, (blk_cell BK324.out 4).trans rfl, (blk_cell BK296.out 0).trans rfl, (blk_cell BK296.out 1).trans rfl, (blk_cell BK296.out 2).trans rfl, (blk_cell BK296.out 3).trans rfl, (blk_cell BK296.out 4).trans rfl⟩ (fun hHeld => ?_)
        clear hK K
        refine norm_ (a' := ?_) ?_ ?_
        rotate_left
        ·show Act.put _ (some 65) _ = _
         simp only [Act.put, List.setIfInBounds_toArray, List.set_cons_zero, List.set_cons_succ, i64_w, i32_w]
         rfl
        refine pA 4 66 ?_
        refine done_ (t23) ?_
        go_upto_region 20 with (first | ((with_reducible refine gate_callee (f := 12) rfl ?_); refine goesL_ (some 69) rfl rfl Tryd.func12 (t23) rfl #[.slice A1 l1.length c1] rfl (t2) ?_; (with_reducible refine (laws_toIntS.calls kj15 _ _ l1 t344 _ ?side1 ?side2 A49.out).mono ?_); (case side1 => repeat (first | exact (Kd.C_below HR1.out HB.out) | (with_reducible refine Kd.C_alloc ?_ _) | (with_reducible refine Kd.C_drewN ?_ _) | (with_reducible refine Kd.C_drew ?_))); (case side2 => exact HC1.out); rintro e w60 ⟨v345, rfl, ho0, hb⟩; refine ⟨_, rfl, ?_⟩; have n0_ := Aside0.mk (Kd.R_elder' (t9) (Kd.R_base ho0) hb); have n1_ := Aside0.mk (Kd.R_elder' (t35) (Kd.R_base ho0) hb); have n2_ := Aside0.mk (Kd.R_elder' (t30) (Kd.R_base ho0) hb); have n3_ := Aside0.mk (Kd.R_below (t28) hb); have n4_ := Aside0.mk (Kd.R_below (t29) hb); have n5_ := Aside0.mk (Kd.R_below (t67) hb); have n6_ := Aside0.mk (Kd.R_below (t68) hb); have n7_ := Aside0.mk (Kd.R_lower (Kd.R_new' (Kd.R_new' (Kd.R_new' ho0 (Kd.R_lt (t9))) (Kd.R_lt (t35))) (Kd.R_lt (t30))) (below_size (t5))); have n8_ := Aside0.mk (blk_below (g := gb296) (o := .cells #[.string a0_0, .int .i64 a0_1, .int .i64 a0_2, .slice A0_3 l0_3.length c0_3, .slice A0_4 l0_4.length c0_4] 25 (0, 0)) (t11) hb); have n9_ := Aside0.mk (blk_below (g := gb324) (o := .cells #[.string t315, .int .i64 t316, .int .i64 t317, .slice Ao32 t318.length co32, .slice Ao33 t321.length co33] 32 (0, 0)) (t17) hb); have n10_ := Aside0.mk (below_step (t5) hb); clear HO_7; clear HO_10; clear HO_12; clear HO_325003; clear HO_325004; clear HO339; clear HO342; clear BK296; clear BK324; clear HB; have HO_7 := n0_; have HO_10 := n1_; have HO_12 := n2_; have HO_325003 := n3_; have HO_325004 := n4_; have HO339 := n5_; have HO342 := n6_; have HO346 := n7_; have BK296 := n8_; have BK324 := n9_; have HB := n10_; clear n0_ n1_ n2_ n3_ n4_ n5_ n6_ n7_ n8_ n9_ n10_; (try clear hb); (try clear hb2); (try clear hk); (try clear hi); (try clear ho0); obtain ⟨Ao61, co61, eo61⟩ := Kd.R_slice HO346.out; subst eo61) | ((with_reducible refine gate_callee (f := 14) rfl ?_); refine goesL_ (some 70) rfl rfl Tryd.func14 (t23) rfl #[.slice Ao36 t325.length co36, .slice Ao61 t344.length co61] rfl (t2) ?_; (with_reducible refine (laws_eqIntS.calls kj15 _ _ t325 _ _ t344 true _ ?side1 ?side2 ?side3 ?side4 A50.out).mono ?_); (case side1 => repeat (first | exact (Kd.R_reads' HO_10.out).2.2 | (with_reducible refine Kd.C_alloc ?_ _) | (with_reducible refine Kd.C_drewN ?_ _) | (with_reducible refine Kd.C_drew ?_))); (case side2 => exact (Kd.R_reads' HO_10.out).2.1); (case side3 => repeat (first | exact (Kd.R_reads' HO346.out).2.2 | (with_reducible refine Kd.C_alloc ?_ _) | (with_reducible refine Kd.C_drewN ?_ _) | (with_reducible refine Kd.C_drew ?_))); (case side4 => exact (Kd.R_reads' HO346.out).2.1); rintro e w' ⟨rfl, ⟨nd, rfl⟩⟩; refine ⟨_, rfl, ?_⟩; have hnb62 := NB324_296.out; have hnc62 := NB296_324.out; have hcz63_0 : w60.cell? ⟨gb324, 0, none⟩ = some (.string t315) := (blk_cell BK324.out 0).trans rfl; have hcz63_1 : w60.cell? ⟨gb324, 1, none⟩ = some (.int .i64 t316) := (blk_cell BK324.out 1).trans rfl; have hcz63_2 : w60.cell? ⟨gb324, 2, none⟩ = some (.int .i64 t317) := (blk_cell BK324.out 2).trans rfl; have hcz63_3 : w60.cell? ⟨gb324, 3, none⟩ = some (.slice Ao32 t318.length co32) := (blk_cell BK324.out 3).trans rfl; have hcz63_4 : w60.cell? ⟨gb324, 4, none⟩ = some (.slice Ao33 t321.length co33) := (blk_cell BK324.out 4).trans rfl; have hfz63_0 := blk_frozen BK324.out 0; have hfz63_1 := blk_frozen BK324.out 1; have hfz63_2 := blk_frozen BK324.out 2; have hfz63_3 := blk_frozen BK324.out 3; have hfz63_4 := blk_frozen BK324.out 4) | ((with_reducible refine gate_callee (f := 16) rfl ?_); refine goesL_ (some 74) rfl rfl Tryd.func16 (t23) rfl #[.agg #[.string t315, .int .i64 t316, .int .i64 t317, .slice Ao32 t318.length co32, .slice Ao33 t321.length co33], .int .i64 1] rfl (t2) ?_; (with_reducible refine (laws_markBox.calls kj15 t315 t316 t317 (fun k_ => some k_ = (.slice Ao32 t318.length co32 : Value).ownBlock) (.slice Ao32 t318.length co32) t318 (fun k_ => some k_ = (.slice Ao33 t321.length co33 : Value).ownBlock) (.slice Ao33 t321.length co33) t321 1 t348 t349 t350 w _ ?side1 ?side2 ?side3 A52.out).mono ?_); (case side1 => repeat (first | (with_reducible first | exact HB.out | apply below_alloc | apply pw_below_drewN | apply below_drew1 | refine below_set ?_ GE296.out | refine below_set ?_ GE324.out) | exact HB.out)); (case side2 => exact Kd.R_tight rfl HO_325003.out); (case side3 => exact Kd.R_tight rfl HO_325004.out); rintro e w64 ⟨rfl, hy0, hy1, hb, hkp⟩; refine ⟨_, rfl, ?_⟩; have n0_ := Aside0.mk (Kd.R_mono (ok' := fun k_ => some k_ ≠ (.slice Ao36 t325.length co36 : Value).ownBlock ∧ some k_ ≠ (v330 : Value).ownBlock ∧ some k_ ≠ (.slice Ao61 t344.length co61 : Value).ownBlock) (Kd.R_keptB ((Kd.R_apart' (Kd.R_apart' HO_7.out (Kd.R_typed HO_325003.out) (t49)) (Kd.R_typed HO_325004.out) (t49))) hkp (fun k_ hk_ hs_ => Or.elim hs_ (fun e_ => (hk_.1.2) e_) (fun e_ => (hk_.2) e_))) (fun k_ hk_ => ⟨hk_.1.1.1.1.1, hk_.1.1.1.1.2, hk_.1.1.1.2⟩)); have n1_ := Aside0.mk (Kd.R_mono (ok' := fun k_ => some k_ ≠ (v312 : Value).ownBlock ∧ some k_ ≠ (v330 : Value).ownBlock ∧ some k_ ≠ (.slice Ao61 t344.length co61 : Value).ownBlock) (Kd.R_keptB ((Kd.R_apart' (Kd.R_apart' HO_10.out (Kd.R_typed HO_325003.out) (t49)) (Kd.R_typed HO_325004.out) (t49))) hkp (fun k_ hk_ hs_ => Or.elim hs_ (fun e_ => (hk_.1.2) e_) (fun e_ => (hk_.2) e_))) (fun k_ hk_ => ⟨hk_.1.1.1.1.1, hk_.1.1.1.1.2, hk_.1.1.1.2⟩)); have n2_ := Aside0.mk (Kd.R_mono (ok' := fun k_ => some k_ ≠ (v312 : Value).ownBlock ∧ some k_ ≠ (.slice Ao36 t325.length co36 : Value).ownBlock ∧ some k_ ≠ (.slice Ao61 t344.length co61 : Value).ownBlock) (Kd.R_keptB ((Kd.R_apart' (Kd.R_apart' HO_12.out (Kd.R_typed HO_325003.out) (t49)) (Kd.R_typed HO_325004.out) (t49))) hkp (fun k_ hk_ hs_ => Or.elim hs_ (fun e_ => (hk_.1.2) e_) (fun e_ => (hk_.2) e_))) (fun k_ hk_ => ⟨hk_.1.1.1.1.1, hk_.1.1.1.1.2, hk_.1.1.1.2⟩)); have n3_ := Aside0.mk (Kd.R_reok rfl hy0 (fun k_ e_ => HO_325003.out.1 k_ e_)); have n4_ := Aside0.mk (Kd.R_reok rfl hy1 (fun k_ e_ => HO_325004.out.1 k_ e_)); have n5_ := Aside0.mk (blk_kept (t11) hkp (fun hs_ => Or.elim hs_ (fun e_ => (fun e_ => (Kd.R_ne HO_325003.out BK296.out (t49)) e_) e_) (fun e_ => (fun e_ => (Kd.R_ne HO_325004.out BK296.out (t49)) e_) e_))); have n6_ := Aside0.mk (blk_kept (t17) hkp (fun hs_ => Or.elim hs_ (fun e_ => (fun e_ => (Kd.R_ne HO_325003.out BK324.out (t49)) e_) e_) (fun e_ => (fun e_ => (Kd.R_ne HO_325004.out BK324.out (t49)) e_) e_))); have n7_ := Aside0.mk (Kd.R_mono (ok' := fun k_ => some k_ ≠ (.slice Ao32 t318.length co32 : Value).ownBlock) (Kd.R_keptB ((Kd.R_apart' HO339.out (Kd.R_typed HO_325004.out) (t49))) hkp (fun k_ hk_ hs_ => Or.elim hs_ (fun e_ => (hk_.1.2) e_) (fun e_ => (hk_.2) e_))) (fun k_ hk_ => hk_.1.1.2)); have n8_ := Aside0.mk (Kd.R_mono (ok' := fun k_ => some k_ ≠ (.slice Ao33 t321.length co33 : Value).ownBlock) (Kd.R_keptB ((Kd.R_apart' HO342.out (Kd.R_typed HO_325003.out) (t49))) hkp (fun k_ hk_ hs_ => Or.elim hs_ (fun e_ => (hk_.2) e_) (fun e_ => (hk_.1.2) e_))) (fun k_ hk_ => hk_.1.1.2)); have n9_ := Aside0.mk (Kd.R_mono (ok' := fun k_ => some k_ ≠ (v312 : Value).ownBlock ∧ some k_ ≠ (.slice Ao36 t325.length co36 : Value).ownBlock ∧ some k_ ≠ (v330 : Value).ownBlock) (Kd.R_keptB ((Kd.R_apart' (Kd.R_apart' HO346.out (Kd.R_typed HO_325003.out) (t49)) (Kd.R_typed HO_325004.out) (t49))) hkp (fun k_ hk_ hs_ => Or.elim hs_ (fun e_ => (hk_.1.2) e_) (fun e_ => (hk_.2) e_))) (fun k_ hk_ => ⟨hk_.1.1.1.1.1.2, hk_.1.1.1.1.2, hk_.1.1.1.2⟩)); have n10_ := Aside0.mk (hb); clear HO_7; clear HO_10; clear HO_12; clear HO_325003; clear HO_325004; clear BK296; clear BK324; clear HO339; clear HO342; clear HO346; clear HB; have HO_7 := n0_; have HO_10 := n1_; have HO_12 := n2_; have HO_325003 := n3_; have HO_325004 := n4_; have BK296 := n5_; have BK324 := n6_; have HO339 := n7_; have HO342 := n8_; have HO346 := n9_; have HB := n10_; clear n0_ n1_ n2_ n3_ n4_ n5_ n6_ n7_ n8_ n9_ n10_; (try clear hb); (try clear hkp); (try clear hy0); (try clear hy1)) | ((with_reducible refine gate_callee (f := 17) rfl ?_); refine goesL_ (some 77) rfl rfl Tryd.func17 (t23) rfl #[.slice Ao36 t325.length co36, .int .i64 t348] rfl (t2) ?_; (with_reducible refine (laws_markIntS.calls kj15 (fun k_ => some k_ = (.slice Ao36 t325.length co36 : Value).ownBlock) (.slice Ao36 t325.length co36) t325 t348 t351 t352 w _ ?side1 ?side2 A53.out).mono ?_); (case side1 => repeat (first | (with_reducible first | exact HB.out | apply below_alloc | apply pw_below_drewN | apply below_drew1 | refine below_set ?_ GE296.out | refine below_set ?_ GE324.out) | exact HB.out)); (case side2 => exact Kd.R_tight rfl HO_10.out); rintro e w65 ⟨rfl, hy0, hb, hkp⟩; refine ⟨_, rfl, ?_⟩; have n0_ := Aside0.mk (Kd.R_mono (ok' := fun k_ => some k_ ≠ (.slice Ao36 t325.length co36 : Value).ownBlock ∧ some k_ ≠ (v330 : Value).ownBlock ∧ some k_ ≠ (.slice Ao61 t344.length co61 : Value).ownBlock) (Kd.R_keptB (HO_7.out) hkp (fun k_ hk_ hs_ => (hk_.1) hs_)) (fun k_ hk_ => ⟨hk_.1.1, hk_.1.2.1, hk_.1.2.2⟩)); have n1_ := Aside0.mk (Kd.R_reok rfl hy0 (fun k_ e_ => HO_10.out.1 k_ e_)); have n2_ := Aside0.mk (Kd.R_mono (ok' := fun k_ => some k_ ≠ (v312 : Value).ownBlock ∧ some k_ ≠ (.slice Ao36 t325.length co36 : Value).ownBlock ∧ some k_ ≠ (.slice Ao61 t344.length co61 : Value).ownBlock) (Kd.R_keptB (HO_12.out) hkp (fun k_ hk_ hs_ => (hk_.2.1) hs_)) (fun k_ hk_ => ⟨hk_.1.1, hk_.1.2.1, hk_.1.2.2⟩)); have n3_ := Aside0.mk (Kd.R_mono (ok' := fun k_ => some k_ ≠ (.slice Ao57 t337.length co57 : Value).ownBlock) (Kd.R_keptB ((Kd.R_apart' HO_325003.out (Kd.R_typed HO_10.out) (t49))) hkp (fun k_ hk_ hs_ => (hk_.2) hs_)) (fun k_ hk_ => hk_.1.1.2)); have n4_ := Aside0.mk (Kd.R_mono (ok' := fun k_ => some k_ ≠ (.slice Ao58 t340.length co58 : Value).ownBlock) (Kd.R_keptB ((Kd.R_apart' HO_325004.out (Kd.R_typed HO_10.out) (t49))) hkp (fun k_ hk_ hs_ => (hk_.2) hs_)) (fun k_ hk_ => hk_.1.1.2)); have n5_ := Aside0.mk (blk_kept (t11) hkp (fun hs_ => (fun e_ => (Kd.R_ne HO_10.out BK296.out (t49)) e_) hs_)); have n6_ := Aside0.mk (blk_kept (t17) hkp (fun hs_ => (fun e_ => (Kd.R_ne HO_10.out BK324.out (t49)) e_) hs_)); have n7_ := Aside0.mk (Kd.R_mono (ok' := fun k_ => some k_ ≠ (.slice Ao32 t318.length co32 : Value).ownBlock) (Kd.R_keptB ((Kd.R_apart' HO339.out (Kd.R_typed HO_10.out) (t49))) hkp (fun k_ hk_ hs_ => (hk_.2) hs_)) (fun k_ hk_ => hk_.1.1)); have n8_ := Aside0.mk (Kd.R_mono (ok' := fun k_ => some k_ ≠ (.slice Ao33 t321.length co33 : Value).ownBlock) (Kd.R_keptB ((Kd.R_apart' HO342.out (Kd.R_typed HO_10.out) (t49))) hkp (fun k_ hk_ hs_ => (hk_.2) hs_)) (fun k_ hk_ => hk_.1.1)); have n9_ := Aside0.mk (Kd.R_mono (ok' := fun k_ => some k_ ≠ (v312 : Value).ownBlock ∧ some k_ ≠ (.slice Ao36 t325.length co36 : Value).ownBlock ∧ some k_ ≠ (v330 : Value).ownBlock) (Kd.R_keptB (HO346.out) hkp (fun k_ hk_ hs_ => (hk_.2.1) hs_)) (fun k_ hk_ => ⟨hk_.1.1, hk_.1.2.1, hk_.1.2.2⟩)); have n10_ := Aside0.mk (hb); clear HO_7; clear HO_10; clear HO_12; clear HO_325003; clear HO_325004; clear BK296; clear BK324; clear HO339; clear HO342; clear HO346; clear HB; have HO_7 := n0_; have HO_10 := n1_; have HO_12 := n2_; have HO_325003 := n3_; have HO_325004 := n4_; have BK296 := n5_; have BK324 := n6_; have HO339 := n7_; have HO342 := n8_; have HO346 := n9_; have HB := n10_; clear n0_ n1_ n2_ n3_ n4_ n5_ n6_ n7_ n8_ n9_ n10_; (try clear hb); (try clear hkp); (try clear hy0)))
        (try simp only [Act.put, List.setIfInBounds_toArray, List.set_cons_zero, List.set_cons_succ])
        go_cut [95] (fun v95 wc => ∃ (kq : Nat) (x95_53 : Bool), v95 = .bool x95_53 ∧ Aside0 (laws_FnExactViewUpdates.j1 kq l1 t310 t311 t314 t329 x95_53 a0_0 a0_1 a0_2 l0_3 l0_4 = some r) ∧ Aside0 (kq ≤ kj15) ∧ Aside0 (Kd.R (Kd.int .i64) 3 wc w.heap.size (fun k_ => some k_ ≠ (v330 : Value).ownBlock) v312 t311) ∧ Aside0 (Kd.R (Kd.int .i64) 3 wc w.heap.size (fun k_ => some k_ ≠ (v312 : Value).ownBlock) v330 t329) ∧ Aside0 (Kd.R k67 67 wc w.heap.size (fun _ => True) (.slice Ao32 t318.length co32) t349) ∧ Aside0 (Kd.R Kd.string 9 wc w.heap.size (fun _ => True) (.slice Ao33 t321.length co33) t350) ∧ Aside0 (wc.heap[gb296]? = some (.cells #[.string a0_0, .int .i64 a0_1, .int .i64 a0_2, (.slice A0_3 l0_3.length c0_3), (.slice A0_4 l0_4.length c0_4)] 25 (0, 0))) ∧ Aside0 (wc.heap[gb324]? = some (.cells #[.string t315, .int .i64 t316, .int .i64 t317, (.slice Ao32 t318.length co32), (.slice Ao33 t321.length co33)] 32 (0, 0))) ∧ Aside0 (Below w.heap.size w wc))
        case first =>
         have H := HC54.out
         clear HC54
         by_cases c66 : t351 < 0
         ·rw [if_pos c66] at H
          have c66b0 : decide (t351 < 0) = true := decide_eq_true c66
          clear c66
          (first | rw [c66b0] | rw [c66b1] | (simp only [i64_w, i32_w]; rw [c66b0]) | skip)
          have H' := Aside0.mk H
          clear H
          go_wp2
          go_meet
          case rel => exact ⟨_, (true), (t0), H', ⟨t91⟩, ⟨t62⟩, ⟨t65⟩, ⟨t60⟩, ⟨t61⟩, ⟨t11⟩, ⟨t17⟩, ⟨t5⟩⟩
         ·rw [if_neg c66] at H
          have c66b0 : decide (t351 < 0) = false := decide_eq_false c66
          clear c66
          (first | rw [c66b0] | rw [c66b1] | (simp only [i64_w, i32_w]; rw [c66b0]) | skip)
          by_cases c67 : t328.toList = t310.toList
          ·rw [if_pos c67] at H
           have c67b0 : (t328.toList == t310.toList) = true := beq_iff_eq.mpr c67
           have c67b1 : (t328.toList != t310.toList) = false := bne_eq_false_iff_eq.mpr c67
           clear c67
           replace H := Option.bind_eq_some_iff.mp H
           obtain ⟨t353, A680, H⟩ := H
           replace H : (if t353 = true then (laws_FnExactViewUpdates.j1 kj15 l1 t310 t311 t314 t329 (t332 != t314) a0_0 a0_1 a0_2 l0_3 l0_4) else (laws_FnExactViewUpdates.j1 kj15 l1 t310 t311 t314 t329 true a0_0 a0_1 a0_2 l0_3 l0_4)) = some r := H
           have A68 := Aside0.mk A680
           clear A680
           by_cases c69 : t353 = true
           ·subst c69
            have H1 : (laws_FnExactViewUpdates.j1 kj15 l1 t310 t311 t314 t329 (t332 != t314) a0_0 a0_1 a0_2 l0_3 l0_4) = some r := by rw [if_pos rfl] at H; exact H
            clear H
            have H := H1
            clear H1
            have H' := Aside0.mk H
            clear H
            obtain ⟨Ao70, co70, eo70⟩ := Kd.R_slice HO_12.out
            subst eo70
            obtain ⟨Ao71, co71, eo71⟩ := Kd.R_slice HO_7.out
            subst eo71
            go_wp2_with (first | (go_at_call 14; (with_reducible refine (laws_eqIntS.calls kj15 _ _ t329 _ _ t311 true _ ?side1 ?side2 ?side3 ?side4 A68.out).mono ?_); (case side1 => repeat (first | exact (Kd.R_reads' HO_12.out).2.2 | (with_reducible refine Kd.C_alloc ?_ _) | (with_reducible refine Kd.C_drewN ?_ _) | (with_reducible refine Kd.C_drew ?_))); (case side2 => exact (Kd.R_reads' HO_12.out).2.1); (case side3 => repeat (first | exact (Kd.R_reads' HO_7.out).2.2 | (with_reducible refine Kd.C_alloc ?_ _) | (with_reducible refine Kd.C_drewN ?_ _) | (with_reducible refine Kd.C_drew ?_))); (case side4 => exact (Kd.R_reads' HO_7.out).2.1); rintro e w' ⟨rfl, ⟨nd, rfl⟩⟩))
            go_meet
            case rel => exact ⟨_, ((t332 != t314)), (t0), H', ⟨t91⟩, ⟨t62⟩, ⟨t65⟩, ⟨t60⟩, ⟨t61⟩, ⟨t11⟩, ⟨t17⟩, ⟨t5⟩⟩
           ·replace c69 := Bool.eq_false_iff.mpr c69
            subst c69
            have H1 : (laws_FnExactViewUpdates.j1 kj15 l1 t310 t311 t314 t329 true a0_0 a0_1 a0_2 l0_3 l0_4) = some r := by rw [if_neg (show ¬ (false = true) by decide)] at H; exact H
            clear H
            have H := H1
            clear H1
            have H' := Aside0.mk H
            clear H
            obtain ⟨Ao72, co72, eo72⟩ := Kd.R_slice HO_12.out
            subst eo72
            obtain ⟨Ao73, co73, eo73⟩ := Kd.R_slice HO_7.out
            subst eo73
            go_wp2_with (first | (go_at_call 14; (with_reducible refine (laws_eqIntS.calls kj15 _ _ t329 _ _ t311 false _ ?side1 ?side2 ?side3 ?side4 A68.out).mono ?_); (case side1 => repeat (first | exact (Kd.R_reads' HO_12.out).2.2 | (with_reducible refine Kd.C_alloc ?_ _) | (with_reducible refine Kd.C_drewN ?_ _) | (with_reducible refine Kd.C_drew ?_))); (case side2 => exact (Kd.R_reads' HO_12.out).2.1); (case side3 => repeat (first | exact (Kd.R_reads' HO_7.out).2.2 | (with_reducible refine Kd.C_alloc ?_ _) | (with_reducible refine Kd.C_drewN ?_ _) | (with_reducible refine Kd.C_drew ?_))); (case side4 => exact (Kd.R_reads' HO_7.out).2.1); rintro e w' ⟨rfl, ⟨nd, rfl⟩⟩))
            go_meet
            case rel => exact ⟨_, (true), (t0), H', ⟨t91⟩, ⟨t62⟩, ⟨t65⟩, ⟨t60⟩, ⟨t61⟩, ⟨t11⟩, ⟨t17⟩, ⟨t5⟩⟩
          ·rw [if_neg c67] at H
           have c67b0 : (t328.toList == t310.toList) = false := beq_eq_false_iff_ne.mpr c67
           have c67b1 : (t328.toList != t310.toList) = true := bne_iff_ne.mpr c67
           have H' := Aside0.mk H
           clear H
           go_wp2
           go_meet
           case rel => exact ⟨_, (true), (t0), H', ⟨t91⟩, ⟨t62⟩, ⟨t65⟩, ⟨t60⟩, ⟨t61⟩, ⟨t11⟩, ⟨t17⟩, ⟨t5⟩⟩
        case rest =>
         clear HC54
         try clear c1
         try clear p2
         try clear c3
         try clear c3b0
         try clear c3b1
         try clear c4
         try clear c5
         try clear c6
         try clear c6b0
         try clear c9
         try clear c10
         try clear c11
         try clear c12
         try clear c13
         try clear c14
         try clear c15
         try clear c16
         try clear c17
         try clear c30
         try clear c38
         try clear c38b0
         try clear c38b1
         try clear c40
         try clear c45
         try clear c48
         try clear c51
         try clear c62
         try clear c66
         try clear c66b0
         try clear c67
         try clear c67b0
         try clear c67b1
         try clear c69
         try clear hcz18_0
         try clear hcz18_1
         try clear hcz18_2
         try clear hcz18_3
         try clear hcz18_4
         try clear hcz20_0
         try clear hcz20_1
         try clear hcz20_2
         try clear hcz20_3
         try clear hcz20_4
         try clear hcz27_0
         try clear hcz27_1
         try clear hcz27_2
         try clear hcz27_3
         try clear hcz27_4
         try clear hcz31_0
         try clear hcz31_1
         try clear hcz31_2
         try clear hcz31_3
         try clear hcz31_4
         try clear hcz35_0
         try clear hcz35_1
         try clear hcz35_2
         try clear hcz35_3
         try clear hcz35_4
         try clear hcz63_0
         try clear hcz63_1
         try clear hcz63_2
         try clear hcz63_3
         try clear hcz63_4
         try clear hcz8_0
         try clear hcz8_1
         try clear hcz8_2
         try clear hcz8_3
         try clear hcz8_4
         try clear hfz18_0
         try clear hfz18_1
         try clear hfz18_2
         try clear hfz18_3
         try clear hfz18_4
         try clear hfz20_0
         try clear hfz20_1
         try clear hfz20_2
         try clear hfz20_3
         try clear hfz20_4
         try clear hfz27_0
         try clear hfz27_1
         try clear hfz27_2
         try clear hfz27_3
         try clear hfz27_4
         try clear hfz31_0
         try clear hfz31_1
         try clear hfz31_2
         try clear hfz31_3
         try clear hfz31_4
         try clear hfz35_0
         try clear hfz35_1
         try clear hfz35_2
         try clear hfz35_3
         try clear hfz35_4
         try clear hfz63_0
         try clear hfz63_1
         try clear hfz63_2
         try clear hfz63_3
         try clear hfz63_4
         try clear hfz8_0
         try clear hfz8_1
         try clear hfz8_2
         try clear hfz8_3
         try clear hfz8_4
         try clear p2
         obtain ⟨kq, x95_53, rfl, HA, HJ53, HO_7, HO_12, HO_325003, HO_325004, BK296, BK324, HB⟩ := hcut
         have hl325003_53 := (Kd.R_reads' HO_325003.out).1
         rw [hl325003_53] at HO_325003
         (try simp only [hl325003_53])
         (try simp only [hl325003_53] at BK296)
         (try simp only [hl325003_53] at BK324)
         (try simp only [hl325003_53] at HO_7)
         (try simp only [hl325003_53] at HO_12)
         (try simp only [hl325003_53] at HO_325004)
         have hl325004_53 := (Kd.R_reads' HO_325004.out).1
         rw [hl325004_53] at HO_325004
         (try simp only [hl325004_53])
         (try simp only [hl325004_53] at BK296)
         (try simp only [hl325004_53] at BK324)
         (try simp only [hl325004_53] at HO_7)
         (try simp only [hl325004_53] at HO_12)
         (try simp only [hl325004_53] at HO_325003)
         cases kq with
         | zero => exact absurd HA.out (by simp [laws_FnExactViewUpdates.j1])
         | succ kj53 =>
          have H := HA.out
          clear HA
          simp only [laws_FnExactViewUpdates.j1] at H
          by_cases c74 : x95_53 = true
          ·subst c74
           have H1 : (some false) = some r := by rw [if_pos rfl] at H; exact H
           clear H
           have H := H1
           clear H1
           obtain rfl := Option.some.inj H
           go_wp2
           go_ret
           exact ⟨t4, by repeat (first | (with_reducible first | exact HB.out | apply below_alloc | apply pw_below_drewN | apply below_drew1 | refine below_set ?_ GE296.out | refine below_set ?_ GE324.out) | exact HB.out)⟩
          ·replace c74 := Bool.eq_false_iff.mpr c74
           subst c74
           have H1 : ((laws_markIntS.f kj53 t329 1).bind fun bt354 => ((laws_heldIntS.f kj53 bt354.2 1).bind fun t356 => (if t356 < 0 then (some false) else (if t356 = bt354.1 then ((laws_toBox.f kj53 a0_0 a0_1 a0_2 l0_3 l0_4).bind fun bt357 => ((laws_toIntS.f kj53 l1).bind fun t366 => ((impl_ViewUpdates.f kj53 bt357.1 bt357.2.1 bt357.2.2.1 bt357.2.2.2.1 bt357.2.2.2.2 t366).bind fun bt369 => (if bt369.1.toList = t310.toList then ((laws_eqIntS.f kj53 bt369.2.1 t311).bind fun t374 => (if t374 = true then (laws_FnExactViewUpdates.j2 kj53 bt354.2 bt354.1 (bt369.2.2 != t314)) else (laws_FnExactViewUpdates.j2 kj53 bt354.2 bt354.1 true))) else (laws_FnExactViewUpdates.j2 kj53 bt354.2 bt354.1 true))))) else (some false))))) = some r := by rw [if_neg (show ¬ (false = true) by decide)] at H; exact H
           clear H
           have H := H1
           clear H1
           replace H := Option.bind_eq_some_iff.mp H
           obtain ⟨⟨t354, t355⟩, A750, H⟩ := H
           replace H : ((laws_heldIntS.f kj53 t355 1).bind fun t356 => (if t356 < 0 then (some false) else (if t356 = t354 then ((laws_toBox.f kj53 a0_0 a0_1 a0_2 l0_3 l0_4).bind fun bt357 => ((laws_toIntS.f kj53 l1).bind fun t366 => ((impl_ViewUpdates.f kj53 bt357.1 bt357.2.1 bt357.2.2.1 bt357.2.2.2.1 bt357.2.2.2.2 t366).bind fun bt369 => (if bt369.1.toList = t310.toList then ((laws_eqIntS.f kj53 bt369.2.1 t311).bind fun t374 => (if t374 = true then (laws_FnExactViewUpdates.j2 kj53 t355 t354 (bt369.2.2 != t314)) else (laws_FnExactViewUpdates.j2 kj53 t355 t354 true))) else (laws_FnExactViewUpdates.j2 kj53 t355 t354 true))))) else (some false)))) = some r := H
           have A75 := Aside0.mk A750
           clear A750
           replace H := Option.bind_eq_some_iff.mp H
           obtain ⟨t356, A760, H⟩ := H
           replace H : (if t356 < 0 then (some false) else (if t356 = t354 then ((laws_toBox.f kj53 a0_0 a0_1 a0_2 l0_3 l0_4).bind fun bt357 => ((laws_toIntS.f kj53 l1).bind fun t366 => ((impl_ViewUpdates.f kj53 bt357.1 bt357.2.1 bt357.2.2.1 bt357.2.2.2.1 bt357.2.2.2.2 t366).bind fun bt369 => (if bt369.1.toList = t310.toList then ((laws_eqIntS.f kj53 bt369.2.1 t311).bind fun t374 => (if t374 = true then (laws_FnExactViewUpdates.j2 kj53 t355 t354 (bt369.2.2 != t314)) else (laws_FnExactViewUpdates.j2 kj53 t355 t354 true))) else (laws_FnExactViewUpdates.j2 kj53 t355 t354 true))))) else (some false))) = some r := H
           have A76 := Aside0.mk A760
           clear A760
           by_cases c77 : t356 < 0
           ·rw [if_pos c77] at H
            have c77b0 : decide (t356 < 0) = true := decide_eq_true c77
            clear c77
            obtain rfl := Option.some.inj H
            obtain ⟨Ao78, co78, eo78⟩ := Kd.R_slice HO_12.out
            subst eo78
            go_wp2_with (first | ((with_reducible refine gate_callee (f := 17) rfl ?_); refine goesL_ (some 98) rfl rfl Tryd.func17 (t23) rfl #[.slice Ao78 t329.length co78, .int .i64 1] rfl (t2) ?_; (with_reducible refine (laws_markIntS.calls kj53 (fun k_ => some k_ = (.slice Ao78 t329.length co78 : Value).ownBlock) (.slice Ao78 t329.length co78) t329 1 t354 t355 w _ ?side1 ?side2 A75.out).mono ?_); (case side1 => repeat (first | (with_reducible first | exact HB.out | apply below_alloc | apply pw_below_drewN | apply below_drew1 | refine below_set ?_ GE296.out | refine below_set ?_ GE324.out) | exact HB.out)); (case side2 => exact Kd.R_tight rfl HO_12.out); rintro e w79 ⟨rfl, hy0, hb, hkp⟩; refine ⟨_, rfl, ?_⟩; have n0_ := Aside0.mk (Kd.R_mono (ok' := fun k_ => some k_ ≠ (.slice Ao78 t329.length co78 : Value).ownBlock) (Kd.R_keptB (HO_7.out) hkp (fun k_ hk_ hs_ => (hk_) hs_)) (fun k_ hk_ => hk_.1)); have n1_ := Aside0.mk (Kd.R_reok rfl hy0 (fun k_ e_ => HO_12.out.1 k_ e_)); have n2_ := Aside0.mk (Kd.R_mono (ok' := fun k_ => True) (Kd.R_keptB ((Kd.R_apart' HO_325003.out (Kd.R_typed HO_12.out) (t49))) hkp (fun k_ hk_ hs_ => (hk_.2) hs_)) (fun k_ hk_ => trivial)); have n3_ := Aside0.mk (Kd.R_mono (ok' := fun k_ => True) (Kd.R_keptB ((Kd.R_apart' HO_325004.out (Kd.R_typed HO_12.out) (t49))) hkp (fun k_ hk_ hs_ => (hk_.2) hs_)) (fun k_ hk_ => trivial)); have n4_ := Aside0.mk (blk_kept (t11) hkp (fun hs_ => (fun e_ => (Kd.R_ne HO_12.out BK296.out (t49)) e_) hs_)); have n5_ := Aside0.mk (blk_kept (t17) hkp (fun hs_ => (fun e_ => (Kd.R_ne HO_12.out BK324.out (t49)) e_) hs_)); have n6_ := Aside0.mk (hb); clear HO_7; clear HO_12; clear HO_325003; clear HO_325004; clear BK296; clear BK324; clear HB; have HO_7 := n0_; have HO_12 := n1_; have HO_325003 := n2_; have HO_325004 := n3_; have BK296 := n4_; have BK324 := n5_; have HB := n6_; clear n0_ n1_ n2_ n3_ n4_ n5_ n6_; (try clear hb); (try clear hkp); (try clear hy0)) | ((with_reducible refine gate_callee (f := 18) rfl ?_); refine goesL_ (some 101) rfl rfl Tryd.func18 (t23) rfl #[.slice Ao78 t355.length co78, .int .i64 1] rfl (t44) ?_; (with_reducible refine (laws_heldIntS.calls kj53 _ _ t355 1 t356 _ ?side1 ?side2 A76.out).mono ?_); (case side1 => repeat (first | exact (Kd.R_reads' HO_12.out).2.2 | (with_reducible refine Kd.C_alloc ?_ _) | (with_reducible refine Kd.C_drewN ?_ _) | (with_reducible refine Kd.C_drew ?_))); (case side2 => rw [show t355.length = t329.length from (Kd.R_reads' HO_12.out).1.symm]; exact (Kd.R_reads' HO_12.out).2.1); rintro e w' ⟨rfl, ⟨nd, rfl⟩⟩; refine ⟨_, rfl, ?_⟩))
            go_ret
            exact ⟨t4, by repeat (first | (with_reducible first | exact HB.out | apply below_alloc | apply pw_below_drewN | apply below_drew1 | refine below_set ?_ GE296.out | refine below_set ?_ GE324.out) | exact HB.out)⟩
           ·rw [if_neg c77] at H
            have c77b0 : decide (t356 < 0) = false := decide_eq_false c77
            clear c77
            by_cases c80 : t356 = t354
            ·rw [if_pos c80] at H
             have c80b0 : (t356 == t354) = true := beq_iff_eq.mpr c80
             have c80b1 : (t356 != t354) = false := bne_eq_false_iff_eq.mpr c80
             clear c80
             replace H := Option.bind_eq_some_iff.mp H
             obtain ⟨⟨t357, t358, t359, t360, t363⟩, A810, H⟩ := H
             replace H : ((laws_toIntS.f kj53 l1).bind fun t366 => ((impl_ViewUpdates.f kj53 t357 t358 t359 t360 t363 t366).bind fun bt369 => (if bt369.1.toList = t310.toList then ((laws_eqIntS.f kj53 bt369.2.1 t311).bind fun t374 => (if t374 = true then (laws_FnExactViewUpdates.j2 kj53 t355 t354 (bt369.2.2 != t314)) else (laws_FnExactViewUpdates.j2 kj53 t355 t354 true))) else (laws_FnExactViewUpdates.j2 kj53 t355 t354 true)))) = some r := H
             have A81 := Aside0.mk A810
             clear A810
             replace H := Option.bind_eq_some_iff.mp H
             obtain ⟨t366, A820, H⟩ := H
             replace H : ((impl_ViewUpdates.f kj53 t357 t358 t359 t360 t363 t366).bind fun bt369 => (if bt369.1.toList = t310.toList then ((laws_eqIntS.f kj53 bt369.2.1 t311).bind fun t374 => (if t374 = true then (laws_FnExactViewUpdates.j2 kj53 t355 t354 (bt369.2.2 != t314)) else (laws_FnExactViewUpdates.j2 kj53 t355 t354 true))) else (laws_FnExactViewUpdates.j2 kj53 t355 t354 true))) = some r := H
             have A82 := Aside0.mk A820
             clear A820
             replace H := Option.bind_eq_some_iff.mp H
             obtain ⟨⟨t369, t370, t373⟩, A830, H⟩ := H
             replace H : (if t369.toList = t310.toList then ((laws_eqIntS.f kj53 t370 t311).bind fun t374 => (if t374 = true then (laws_FnExactViewUpdates.j2 kj53 t355 t354 (t373 != t314)) else (laws_FnExactViewUpdates.j2 kj53 t355 t354 true))) else (laws_FnExactViewUpdates.j2 kj53 t355 t354 true)) = some r := H
             have A83 := Aside0.mk A830
             clear A830
             have HC84 := Aside0.mk H
             clear H
             obtain ⟨Ao85, co85, eo85⟩ := Kd.R_slice HO_12.out
             subst eo85
             go_upto_region 31 with (first | ((with_reducible refine gate_callee (f := 17) rfl ?_); refine goesL_ (some 98) rfl rfl Tryd.func17 (t23) rfl #[.slice Ao85 t329.length co85, .int .i64 1] rfl (t2) ?_; (with_reducible refine (laws_markIntS.calls kj53 (fun k_ => some k_ = (.slice Ao85 t329.length co85 : Value).ownBlock) (.slice Ao85 t329.length co85) t329 1 t354 t355 w _ ?side1 ?side2 A75.out).mono ?_); (case side1 => repeat (first | (with_reducible first | exact HB.out | apply below_alloc | apply pw_below_drewN | apply below_drew1 | refine below_set ?_ GE296.out | refine below_set ?_ GE324.out) | exact HB.out)); (case side2 => exact Kd.R_tight rfl HO_12.out); rintro e w86 ⟨rfl, hy0, hb, hkp⟩; refine ⟨_, rfl, ?_⟩; have n0_ := Aside0.mk (Kd.R_mono (ok' := fun k_ => some k_ ≠ (.slice Ao85 t329.length co85 : Value).ownBlock) (Kd.R_keptB (HO_7.out) hkp (fun k_ hk_ hs_ => (hk_) hs_)) (fun k_ hk_ => hk_.1)); have n1_ := Aside0.mk (Kd.R_reok rfl hy0 (fun k_ e_ => HO_12.out.1 k_ e_)); have n2_ := Aside0.mk (Kd.R_mono (ok' := fun k_ => True) (Kd.R_keptB ((Kd.R_apart' HO_325003.out (Kd.R_typed HO_12.out) (t49))) hkp (fun k_ hk_ hs_ => (hk_.2) hs_)) (fun k_ hk_ => trivial)); have n3_ := Aside0.mk (Kd.R_mono (ok' := fun k_ => True) (Kd.R_keptB ((Kd.R_apart' HO_325004.out (Kd.R_typed HO_12.out) (t49))) hkp (fun k_ hk_ hs_ => (hk_.2) hs_)) (fun k_ hk_ => trivial)); have n4_ := Aside0.mk (blk_kept (t11) hkp (fun hs_ => (fun e_ => (Kd.R_ne HO_12.out BK296.out (t49)) e_) hs_)); have n5_ := Aside0.mk (blk_kept (t17) hkp (fun hs_ => (fun e_ => (Kd.R_ne HO_12.out BK324.out (t49)) e_) hs_)); have n6_ := Aside0.mk (hb); clear HO_7; clear HO_12; clear HO_325003; clear HO_325004; clear BK296; clear BK324; clear HB; have HO_7 := n0_; have HO_12 := n1_; have HO_325003 := n2_; have HO_325004 := n3_; have BK296 := n4_; have BK324 := n5_; have HB := n6_; clear n0_ n1_ n2_ n3_ n4_ n5_ n6_; (try clear hb); (try clear hkp); (try clear hy0)) | ((with_reducible refine gate_callee (f := 18) rfl ?_); refine goesL_ (some 101) rfl rfl Tryd.func18 (t23) rfl #[.slice Ao85 t355.length co85, .int .i64 1] rfl (t44) ?_; (with_reducible refine (laws_heldIntS.calls kj53 _ _ t355 1 t356 _ ?side1 ?side2 A76.out).mono ?_); (case side1 => repeat (first | exact (Kd.R_reads' HO_12.out).2.2 | (with_reducible refine Kd.C_alloc ?_ _) | (with_reducible refine Kd.C_drewN ?_ _) | (with_reducible refine Kd.C_drew ?_))); (case side2 => rw [show t355.length = t329.length from (Kd.R_reads' HO_12.out).1.symm]; exact (Kd.R_reads' HO_12.out).2.1); rintro e w' ⟨rfl, ⟨nd, rfl⟩⟩; refine ⟨_, rfl, ?_⟩; have hnb87 := NB296_324.out; have hnc87 := NB324_296.out; have hcz88_0 : w86.cell? ⟨gb296, 0, none⟩ = some (.string a0_0) := (blk_cell BK296.out 0).trans rfl; have hcz88_1 : w86.cell? ⟨gb296, 1, none⟩ = some (.int .i64 a0_1) := (blk_cell BK296.out 1).trans rfl; have hcz88_2 : w86.cell? ⟨gb296, 2, none⟩ = some (.int .i64 a0_2) := (blk_cell BK296.out 2).trans rfl; have hcz88_3 : w86.cell? ⟨gb296, 3, none⟩ = some (.slice A0_3 l0_3.length c0_3) := (blk_cell BK296.out 3).trans rfl; have hcz88_4 : w86.cell? ⟨gb296, 4, none⟩ = some (.slice A0_4 l0_4.length c0_4) := (blk_cell BK296.out 4).trans rfl; have hfz88_0 := blk_frozen BK296.out 0; have hfz88_1 := blk_frozen BK296.out 1; have hfz88_2 := blk_frozen BK296.out 2; have hfz88_3 := blk_frozen BK296.out 3; have hfz88_4 := blk_frozen BK296.out 4) | ((with_reducible refine gate_callee (f := 11) rfl ?_); refine goesL_ (some 109) rfl rfl Tryd.func11 (t23) rfl #[.agg #[.string a0_0, .int .i64 a0_1, .int .i64 a0_2, .slice A0_3 l0_3.length c0_3, .slice A0_4 l0_4.length c0_4]] rfl (t2) ?_; (with_reducible refine (laws_toBox.calls kj53 a0_0 a0_1 a0_2 _ _ l0_3 _ _ l0_4 t357 t358 t359 t360 t363 _ ?side1 ?side2 ?side3 ?side4 A81.out).mono ?_); (case side1 => repeat (first | exact (Kd.C_below HR0_3.out (t5)) | (with_reducible refine Kd.C_alloc ?_ _) | (with_reducible refine Kd.C_drewN ?_ _) | (with_reducible refine Kd.C_drew ?_))); (case side2 => exact HC0_3.out); (case side3 => repeat (first | exact (Kd.C_below HR0_4.out (t5)) | (with_reducible refine Kd.C_alloc ?_ _) | (with_reducible refine Kd.C_drewN ?_ _) | (with_reducible refine Kd.C_drew ?_))); (case side4 => exact HC0_4.out); rintro e w89 ⟨v361, v364, rfl, ho0, ho1, hb⟩; refine ⟨_, rfl, ?_⟩; have n0_ := Aside0.mk (Kd.R_below (t9) hb); have n1_ := Aside0.mk (Kd.R_below (t30) hb); have n2_ := Aside0.mk (Kd.R_elder' (t28) (Kd.R_base ho0) hb); have n3_ := Aside0.mk (Kd.R_elder' (t29) (Kd.R_base ho1) hb); have n4_ := Aside0.mk (Kd.R_lower (Kd.R_new' ho0 (Kd.R_lt (t28))) (below_size (t5))); have n5_ := Aside0.mk (Kd.R_lower (Kd.R_new' ho1 (Kd.R_lt (t29))) (below_size (t5))); have n6_ := Aside0.mk (blk_below (g := gb296) (o := .cells #[.string a0_0, .int .i64 a0_1, .int .i64 a0_2, .slice A0_3 l0_3.length c0_3, .slice A0_4 l0_4.length c0_4] 25 (0, 0)) (t11) hb); have n7_ := Aside0.mk (blk_below (g := gb324) (o := .cells #[.string t315, .int .i64 t316, .int .i64 t317, .slice Ao32 t349.length co32, .slice Ao33 t350.length co33] 32 (0, 0)) (t17) hb); have n8_ := Aside0.mk (below_step (t5) hb); clear HO_7; clear HO_12; clear HO_325003; clear HO_325004; clear BK296; clear BK324; clear HB; have HO_7 := n0_; have HO_12 := n1_; have HO_325003 := n2_; have HO_325004 := n3_; have HO362 := n4_; have HO365 := n5_; have BK296 := n6_; have BK324 := n7_; have HB := n8_; clear n0_ n1_ n2_ n3_ n4_ n5_ n6_ n7_ n8_; (try clear hb); (try clear hb2); (try clear hk); (try clear hi); (try clear ho0); (try clear ho1)) | ((with_reducible refine gate_callee (f := 12) rfl ?_); refine goesL_ (some 111) rfl rfl Tryd.func12 (t23) rfl #[.slice A1 l1.length c1] rfl (t2) ?_; (with_reducible refine (laws_toIntS.calls kj53 _ _ l1 t366 _ ?side1 ?side2 A82.out).mono ?_); (case side1 => repeat (first | exact (Kd.C_below HR1.out HB.out) | (with_reducible refine Kd.C_alloc ?_ _) | (with_reducible refine Kd.C_drewN ?_ _) | (with_reducible refine Kd.C_drew ?_))); (case side2 => exact HC1.out); rintro e w90 ⟨v367, rfl, ho0, hb⟩; refine ⟨_, rfl, ?_⟩; have n0_ := Aside0.mk (Kd.R_elder' (t9) (Kd.R_base ho0) hb); have n1_ := Aside0.mk (Kd.R_elder' (t30) (Kd.R_base ho0) hb); have n2_ := Aside0.mk (Kd.R_below (t28) hb); have n3_ := Aside0.mk (Kd.R_below (t29) hb); have n4_ := Aside0.mk (Kd.R_below (by (with_reducible repeat (first | apply Kd.R_alloc | apply Kd.R_drewN | apply Kd.R_drew)); exact HO362.out) hb); have n5_ := Aside0.mk (Kd.R_below (by (with_reducible repeat (first | apply Kd.R_alloc | apply Kd.R_drewN | apply Kd.R_drew)); exact HO365.out) hb); have n6_ := Aside0.mk (Kd.R_lower (Kd.R_new' (Kd.R_new' ho0 (Kd.R_lt (t9))) (Kd.R_lt (t30))) (below_size (t5))); have n7_ := Aside0.mk (blk_below (g := gb296) (o := .cells #[.string a0_0, .int .i64 a0_1, .int .i64 a0_2, .slice A0_3 l0_3.length c0_3, .slice A0_4 l0_4.length c0_4] 25 (0, 0)) (t11) hb); have n8_ := Aside0.mk (blk_below (g := gb324) (o := .cells #[.string t315, .int .i64 t316, .int .i64 t317, .slice Ao32 t349.length co32, .slice Ao33 t350.length co33] 32 (0, 0)) (t17) hb); have n9_ := Aside0.mk (below_step (t5) hb); clear HO_7; clear HO_12; clear HO_325003; clear HO_325004; clear HO362; clear HO365; clear BK296; clear BK324; clear HB; have HO_7 := n0_; have HO_12 := n1_; have HO_325003 := n2_; have HO_325004 := n3_; have HO362 := n4_; have HO365 := n5_; have HO368 := n6_; have BK296 := n7_; have BK324 := n8_; have HB := n9_; clear n0_ n1_ n2_ n3_ n4_ n5_ n6_ n7_ n8_ n9_; (try clear hb); (try clear hb2); (try clear hk); (try clear hi); (try clear ho0); obtain ⟨Ao91, co91, eo91⟩ := Kd.R_slice HO362.out; subst eo91; obtain ⟨Ao92, co92, eo92⟩ := Kd.R_slice HO365.out; subst eo92; obtain ⟨Ao93, co93, eo93⟩ := Kd.R_slice HO368.out; subst eo93) | ((with_reducible refine gate_callee (f := 13) rfl ?_); refine goesL_ (some 112) rfl rfl Tryd.func13 (t23) rfl #[.agg #[.string t357, .int .i64 t358, .int .i64 t359, .slice Ao91 t360.length co91, .slice Ao92 t363.length co92], .slice Ao93 t366.length co93] rfl (t2) ?_; (with_reducible refine (impl_ViewUpdates.calls kj53 t357 t358 t359 _ _ t360 _ _ t363 _ _ t366 t369 t370 t373 _ ?side1 ?side2 ?side3 ?side4 ?side5 ?side6 ?side7 A83.out).mono ?_); (case side1 => repeat (first | exact (Kd.R_reads' HO362.out).2.2 | (with_reducible refine Kd.C_alloc ?_ _) | (with_reducible refine Kd.C_drewN ?_ _) | (with_reducible refine Kd.C_drew ?_))); (case side2 => exact (Kd.R_reads' HO362.out).2.1); (case side3 => repeat (first | exact (Kd.R_reads' HO365.out).2.2 | (with_reducible refine Kd.C_alloc ?_ _) | (with_reducible refine Kd.C_drewN ?_ _) | (with_reducible refine Kd.C_drew ?_))); (case side4 => exact (Kd.R_reads' HO365.out).2.1); (case side5 => repeat (first | exact (Kd.R_reads' HO368.out).2.2 | (with_reducible refine Kd.C_alloc ?_ _) | (with_reducible refine Kd.C_drewN ?_ _) | (with_reducible refine Kd.C_drew ?_))); (case side6 => exact (Kd.R_reads' HO368.out).2.1); (case side7 => first | exact HG | exact ⟨HG.out.of rfl⟩ | (refine ⟨HG.out.on ?_⟩; (repeat (first | (with_reducible first | exact HB.out | apply below_alloc | apply pw_below_drewN | apply below_drew1 | refine below_set ?_ GE296.out | refine below_set ?_ GE324.out) | exact HB.out)); done) | exact ⟨HG.out.on HBW.out⟩); rintro e w94 ⟨v371, rfl, ho0, hb⟩; refine ⟨_, rfl, ?_⟩; have n0_ := Aside0.mk (Kd.R_elder' (t9) (Kd.R_base ho0) hb); have n1_ := Aside0.mk (Kd.R_elder' (t30) (Kd.R_base ho0) hb); have n2_ := Aside0.mk (Kd.R_below (t28) hb); have n3_ := Aside0.mk (Kd.R_below (t29) hb); have n4_ := Aside0.mk (Kd.R_below (by (with_reducible repeat (first | apply Kd.R_alloc | apply Kd.R_drewN | apply Kd.R_drew)); exact HO362.out) hb); have n5_ := Aside0.mk (Kd.R_below (by (with_reducible repeat (first | apply Kd.R_alloc | apply Kd.R_drewN | apply Kd.R_drew)); exact HO365.out) hb); have n6_ := Aside0.mk (Kd.R_elder' (by (with_reducible repeat (first | apply Kd.R_alloc | apply Kd.R_drewN | apply Kd.R_drew)); exact HO368.out) (Kd.R_base ho0) hb); have n7_ := Aside0.mk (Kd.R_lower (Kd.R_new' (Kd.R_new' (Kd.R_new' ho0 (Kd.R_lt (t9))) (Kd.R_lt (t30))) (Kd.R_lt (by (with_reducible repeat (first | apply Kd.R_alloc | apply Kd.R_drewN | apply Kd.R_drew)); exact HO368.out))) (below_size (t5))); have n8_ := Aside0.mk (blk_below (g := gb296) (o := .cells #[.string a0_0, .int .i64 a0_1, .int .i64 a0_2, .slice A0_3 l0_3.length c0_3, .slice A0_4 l0_4.length c0_4] 25 (0, 0)) (t11) hb); have n9_ := Aside0.mk (blk_below (g := gb324) (o := .cells #[.string t315, .int .i64 t316, .int .i64 t317, .slice Ao32 t349.length co32, .slice Ao33 t350.length co33] 32 (0, 0)) (t17) hb); have n10_ := Aside0.mk (below_step (t5) hb); clear HO_7; clear HO_12; clear HO_325003; clear HO_325004; clear HO362; clear HO365; clear HO368; clear BK296; clear BK324; clear HB; have HO_7 := n0_; have HO_12 := n1_; have HO_325003 := n2_; have HO_325004 := n3_; have HO362 := n4_; have HO365 := n5_; have HO368 := n6_; have HO372 := n7_; have BK296 := n8_; have BK324 := n9_; have HB := n10_; clear n0_ n1_ n2_ n3_ n4_ n5_ n6_ n7_ n8_ n9_ n10_; (try clear hb); (try clear hb2); (try clear hk); (try clear hi); (try clear ho0)))
             (try simp only [Act.put, List.setIfInBounds_toArray, List.set_cons_zero, List.set_cons_succ])
             go_cut [129] (fun v129 wc => ∃ (kq : Nat) (x129_83 : Bool), v129 = .bool x129_83 ∧ Aside0 (laws_FnExactViewUpdates.j2 kq t355 t354 x129_83 = some r) ∧ Aside0 (kq ≤ kj53) ∧ Aside0 (Kd.R (Kd.int .i64) 3 wc w.heap.size (fun _ => True) (.slice Ao85 t329.length co85) t355) ∧ Aside0 (Kd.R k67 67 wc w.heap.size (fun _ => True) (.slice Ao32 t349.length co32) t349) ∧ Aside0 (Kd.R Kd.string 9 wc w.heap.size (fun _ => True) (.slice Ao33 t350.length co33) t350) ∧ Aside0 (wc.heap[gb296]? = some (.cells #[.string a0_0, .int .i64 a0_1, .int .i64 a0_2, (.slice A0_3 l0_3.length c0_3), (.slice A0_4 l0_4.length c0_4)] 25 (0, 0))) ∧ Aside0 (wc.heap[gb324]? = some (.cells #[.string t315, .int .i64 t316, .int .i64 t317, (.slice Ao32 t349.length co32), (.slice Ao33 t350.length co33)] 32 (0, 0))) ∧ Aside0 (Below w.heap.size w wc))
             case first =>
              have H := HC84.out
              clear HC84
              by_cases c95 : t369.toList = t310.toList
              ·rw [if_pos c95] at H
               have c95b0 : (t369.toList == t310.toList) = true := beq_iff_eq.mpr c95
               have c95b1 : (t369.toList != t310.toList) = false := bne_eq_false_iff_eq.mpr c95
               clear c95
               (first | rw [c95b0] | rw [c95b1] | (simp only [i64_w, i32_w]; rw [c95b0]) | skip)
               replace H := Option.bind_eq_some_iff.mp H
               obtain ⟨t374, A960, H⟩ := H
               replace H : (if t374 = true then (laws_FnExactViewUpdates.j2 kj53 t355 t354 (t373 != t314)) else (laws_FnExactViewUpdates.j2 kj53 t355 t354 true)) = some r := H
               have A96 := Aside0.mk A960
               clear A960
               by_cases c97 : t374 = true
               ·subst c97
                have H1 : (laws_FnExactViewUpdates.j2 kj53 t355 t354 (t373 != t314)) = some r := by rw [if_pos rfl] at H; exact H
                clear H
                have H := H1
                clear H1
                have H' := Aside0.mk H
                clear H
                obtain ⟨Ao98, co98, eo98⟩ := Kd.R_slice HO372.out
                subst eo98
                obtain ⟨Ao99, co99, eo99⟩ := Kd.R_slice HO_7.out
                subst eo99
                go_wp2_with (first | (go_at_call 14; (with_reducible refine (laws_eqIntS.calls kj53 _ _ t370 _ _ t311 true _ ?side1 ?side2 ?side3 ?side4 A96.out).mono ?_); (case side1 => repeat (first | exact (Kd.R_reads' HO372.out).2.2 | (with_reducible refine Kd.C_alloc ?_ _) | (with_reducible refine Kd.C_drewN ?_ _) | (with_reducible refine Kd.C_drew ?_))); (case side2 => exact (Kd.R_reads' HO372.out).2.1); (case side3 => repeat (first | exact (Kd.R_reads' HO_7.out).2.2 | (with_reducible refine Kd.C_alloc ?_ _) | (with_reducible refine Kd.C_drewN ?_ _) | (with_reducible refine Kd.C_drew ?_))); (case side4 => exact (Kd.R_reads' HO_7.out).2.1); rintro e w' ⟨rfl, ⟨nd, rfl⟩⟩))
                go_meet
                case rel => exact ⟨_, ((t373 != t314)), (t0), H', ⟨t92⟩, ⟨t54⟩, ⟨t52⟩, ⟨t53⟩, ⟨t63⟩, ⟨t64⟩, ⟨t5⟩⟩
               ·replace c97 := Bool.eq_false_iff.mpr c97
                subst c97
                have H1 : (laws_FnExactViewUpdates.j2 kj53 t355 t354 true) = some r := by rw [if_neg (show ¬ (false = true) by decide)] at H; exact H
                clear H
                have H := H1
                clear H1
                have H' := Aside0.mk H
                clear H
                obtain ⟨Ao100, co100, eo100⟩ := Kd.R_slice HO372.out
                subst eo100
                obtain ⟨Ao101, co101, eo101⟩ := Kd.R_slice HO_7.out
                subst eo101
                go_wp2_with (first | (go_at_call 14; (with_reducible refine (laws_eqIntS.calls kj53 _ _ t370 _ _ t311 false _ ?side1 ?side2 ?side3 ?side4 A96.out).mono ?_); (case side1 => repeat (first | exact (Kd.R_reads' HO372.out).2.2 | (with_reducible refine Kd.C_alloc ?_ _) | (with_reducible refine Kd.C_drewN ?_ _) | (with_reducible refine Kd.C_drew ?_))); (case side2 => exact (Kd.R_reads' HO372.out).2.1); (case side3 => repeat (first | exact (Kd.R_reads' HO_7.out).2.2 | (with_reducible refine Kd.C_alloc ?_ _) | (with_reducible refine Kd.C_drewN ?_ _) | (with_reducible refine Kd.C_drew ?_))); (case side4 => exact (Kd.R_reads' HO_7.out).2.1); rintro e w' ⟨rfl, ⟨nd, rfl⟩⟩))
                go_meet
                case rel => exact ⟨_, (true), (t0), H', ⟨t92⟩, ⟨t54⟩, ⟨t52⟩, ⟨t53⟩, ⟨t63⟩, ⟨t64⟩, ⟨t5⟩⟩
              ·rw [if_neg c95] at H
               have c95b0 : (t369.toList == t310.toList) = false := beq_eq_false_iff_ne.mpr c95
               have c95b1 : (t369.toList != t310.toList) = true := bne_iff_ne.mpr c95
               (first | rw [c95b0] | rw [c95b1] | (simp only [i64_w, i32_w]; rw [c95b0]) | skip)
               have H' := Aside0.mk H
               clear H
               go_wp2
               go_meet
               case rel => exact ⟨_, (true), (t0), H', ⟨t92⟩, ⟨t54⟩, ⟨t52⟩, ⟨t53⟩, ⟨t63⟩, ⟨t64⟩, ⟨t5⟩⟩
             case rest =>
              clear HC84
              try clear c1
              try clear p2
              try clear c3
              try clear c3b0
              try clear c3b1
              try clear c4
              try clear c5
              try clear c6
              try clear c6b0
              try clear c7
              try clear c8
              try clear c9
              try clear c10
              try clear c11
              try clear c12
              try clear c13
              try clear c14
              try clear c15
              try clear c16
              try clear c17
              try clear c18
              try clear c30
              try clear c38
              try clear c38b0
              try clear c38b1
              try clear c40
              try clear c45
              try clear c48
              try clear c51
              try clear c62
              try clear c66
              try clear c66b0
              try clear c67
              try clear c67b0
              try clear c67b1
              try clear c69
              try clear c74
              try clear c77
              try clear c77b0
              try clear c80
              try clear c80b0
              try clear c80b1
              try clear c87
              try clear c95
              try clear c95b0
              try clear c95b1
              try clear c97
              try clear hcz18_0
              try clear hcz18_1
              try clear hcz18_2
              try clear hcz18_3
              try clear hcz18_4
              try clear hcz20_0
              try clear hcz20_1
              try clear hcz20_2
              try clear hcz20_3
              try clear hcz20_4
              try clear hcz27_0
              try clear hcz27_1
              try clear hcz27_2
              try clear hcz27_3
              try clear hcz27_4
              try clear hcz31_0
              try clear hcz31_1
              try clear hcz31_2
              try clear hcz31_3
              try clear hcz31_4
              try clear hcz35_0
              try clear hcz35_1
              try clear hcz35_2
              try clear hcz35_3
              try clear hcz35_4
              try clear hcz63_0
              try clear hcz63_1
              try clear hcz63_2
              try clear hcz63_3
              try clear hcz63_4
              try clear hcz88_0
              try clear hcz88_1
              try clear hcz88_2
              try clear hcz88_3
              try clear hcz88_4
              try clear hcz8_0
              try clear hcz8_1
              try clear hcz8_2
              try clear hcz8_3
              try clear hcz8_4
              try clear hfz18_0
              try clear hfz18_1
              try clear hfz18_2
              try clear hfz18_3
              try clear hfz18_4
              try clear hfz20_0
              try clear hfz20_1
              try clear hfz20_2
              try clear hfz20_3
              try clear hfz20_4
              try clear hfz27_0
              try clear hfz27_1
              try clear hfz27_2
              try clear hfz27_3
              try clear hfz27_4
              try clear hfz31_0
              try clear hfz31_1
              try clear hfz31_2
              try clear hfz31_3
              try clear hfz31_4
              try clear hfz35_0
              try clear hfz35_1
              try clear hfz35_2
              try clear hfz35_3
              try clear hfz35_4
              try clear hfz63_0
              try clear hfz63_1
              try clear hfz63_2
              try clear hfz63_3
              try clear hfz63_4
              try clear hfz88_0
              try clear hfz88_1
              try clear hfz88_2
              try clear hfz88_3
              try clear hfz88_4
              try clear hfz8_0
              try clear hfz8_1
              try clear hfz8_2
              try clear hfz8_3
              try clear hfz8_4
              try clear p2
              obtain ⟨kq, x129_83, rfl, HA, HJ83, HO_12, HO_325003, HO_325004, BK296, BK324, HB⟩ := hcut
              have hl12_83 := (Kd.R_reads' HO_12.out).1
              rw [hl12_83] at HO_12
              (try simp only [hl12_83])
              (try simp only [hl12_83] at BK296)
              (try simp only [hl12_83] at BK324)
              (try simp only [hl12_83] at HO_325003)
              (try simp only [hl12_83] at HO_325004)
              cases kq with
              | zero => exact absurd HA.out (by simp [laws_FnExactViewUpdates.j2])
              | succ kj83 =>
               have H := HA.out
               clear HA
               simp only [laws_FnExactViewUpdates.j2] at H
               by_cases c102 : x129_83 = true
               ·subst c102
                have H1 : (some false) = some r := by rw [if_pos rfl] at H; exact H
                clear H
                have H := H1
                clear H1
                obtain rfl := Option.some.inj H
                go_wp2
                go_ret
                exact ⟨t4, by repeat (first | (with_reducible first | exact HB.out | apply below_alloc | apply pw_below_drewN | apply below_drew1 | refine below_set ?_ GE296.out | refine below_set ?_ GE324.out) | exact HB.out)⟩
               ·replace c102 := Bool.eq_false_iff.mpr c102
                subst c102
                have H1 : ((laws_heldIntS.f kj83 t355 1).bind fun t375 => (if t375 < 0 then (some false) else (if t375 = t354 then (some true) else (some false)))) = some r := by rw [if_neg (show ¬ (false = true) by decide)] at H; exact H
                clear H
                have H := H1
                clear H1
                replace H := Option.bind_eq_some_iff.mp H
                obtain ⟨t375, A1030, H⟩ := H
                replace H : (if t375 < 0 then (some false) else (if t375 = t354 then (some true) else (some false))) = some r := H
                have A103 := Aside0.mk A1030
                clear A1030
                by_cases c104 : t375 < 0
                ·rw [if_pos c104] at H
                 have c104b0 : decide (t375 < 0) = true := decide_eq_true c104
                 clear c104
                 obtain rfl := Option.some.inj H
                 go_wp2_with (first | ((with_reducible refine gate_callee (f := 18) rfl ?_); refine goesL_ (some 132) rfl rfl Tryd.func18 (t23) rfl #[.slice Ao85 t355.length co85, .int .i64 1] rfl (t2) ?_; (with_reducible refine (laws_heldIntS.calls kj83 _ _ t355 1 t375 _ ?side1 ?side2 A103.out).mono ?_); (case side1 => repeat (first | exact (Kd.R_reads' HO_12.out).2.2 | (with_reducible refine Kd.C_alloc ?_ _) | (with_reducible refine Kd.C_drewN ?_ _) | (with_reducible refine Kd.C_drew ?_))); (case side2 => exact (Kd.R_reads' HO_12.out).2.1); rintro e w' ⟨rfl, ⟨nd, rfl⟩⟩; refine ⟨_, rfl, ?_⟩))
                 go_ret
                 exact ⟨t4, by repeat (first | (with_reducible first | exact HB.out | apply below_alloc | apply pw_below_drewN | apply below_drew1 | refine below_set ?_ GE296.out | refine below_set ?_ GE324.out) | exact HB.out)⟩
                ·rw [if_neg c104] at H
                 have c104b0 : decide (t375 < 0) = false := decide_eq_false c104
                 clear c104
                 by_cases c105 : t375 = t354
                 ·rw [if_pos c105] at H
                  have c105b0 : (t375 == t354) = true := beq_iff_eq.mpr c105
                  have c105b1 : (t375 != t354) = false := bne_eq_false_iff_eq.mpr c105
                  clear c105
                  obtain rfl := Option.some.inj H
                  go_wp2_with (first | ((with_reducible refine gate_callee (f := 18) rfl ?_); refine goesL_ (some 132) rfl rfl Tryd.func18 (t23) rfl #[.slice Ao85 t355.length co85, .int .i64 1] rfl (t2) ?_; (with_reducible refine (laws_heldIntS.calls kj83 _ _ t355 1 t375 _ ?side1 ?side2 A103.out).mono ?_); (case side1 => repeat (first | exact (Kd.R_reads' HO_12.out).2.2 | (with_reducible refine Kd.C_alloc ?_ _) | (with_reducible refine Kd.C_drewN ?_ _) | (with_reducible refine Kd.C_drew ?_))); (case side2 => exact (Kd.R_reads' HO_12.out).2.1); rintro e w' ⟨rfl, ⟨nd, rfl⟩⟩; refine ⟨_, rfl, ?_⟩))
                  go_ret
                  exact ⟨t4, by repeat (first | (with_reducible first | exact HB.out | apply below_alloc | apply pw_below_drewN | apply below_drew1 | refine below_set ?_ GE296.out | refine below_set ?_ GE324.out) | exact HB.out)⟩
                 ·rw [if_neg c105] at H
                  have c105b0 : (t375 == t354) = false := beq_eq_false_iff_ne.mpr c105
                  have c105b1 : (t375 != t354) = true := bne_iff_ne.mpr c105
                  obtain rfl := Option.some.inj H
                  go_wp2_with (first | ((with_reducible refine gate_callee (f := 18) rfl ?_); refine goesL_ (some 132) rfl rfl Tryd.func18 (t23) rfl #[.slice Ao85 t355.length co85, .int .i64 1] rfl (t2) ?_; (with_reducible refine (laws_heldIntS.calls kj83 _ _ t355 1 t375 _ ?side1 ?side2 A103.out).mono ?_); (case side1 => repeat (first | exact (Kd.R_reads' HO_12.out).2.2 | (with_reducible refine Kd.C_alloc ?_ _) | (with_reducible refine Kd.C_drewN ?_ _) | (with_reducible refine Kd.C_drew ?_))); (case side2 => exact (Kd.R_reads' HO_12.out).2.1); rintro e w' ⟨rfl, ⟨nd, rfl⟩⟩; refine ⟨_, rfl, ?_⟩))
                  go_ret
                  exact ⟨t4, by repeat (first | (with_reducible first | exact HB.out | apply below_alloc | apply pw_below_drewN | apply below_drew1 | refine below_set ?_ GE296.out | refine below_set ?_ GE324.out) | exact HB.out)⟩
            ·rw [if_neg c80] at H
             have c80b0 : (t356 == t354) = false := beq_eq_false_iff_ne.mpr c80
             have c80b1 : (t356 != t354) = true := bne_iff_ne.mpr c80
             obtain rfl := Option.some.inj H
             obtain ⟨Ao106, co106, eo106⟩ := Kd.R_slice HO_12.out
             subst eo106
             go_wp2_with (first | ((with_reducible refine gate_callee (f := 17) rfl ?_); refine goesL_ (some 98) rfl rfl Tryd.func17 (t23) rfl #[.slice Ao106 t329.length co106, .int .i64 1] rfl (t2) ?_; (with_reducible refine (laws_markIntS.calls kj53 (fun k_ => some k_ = (.slice Ao106 t329.length co106 : Value).ownBlock) (.slice Ao106 t329.length co106) t329 1 t354 t355 w _ ?side1 ?side2 A75.out).mono ?_); (case side1 => repeat (first | (with_reducible first | exact HB.out | apply below_alloc | apply pw_below_drewN | apply below_drew1 | refine below_set ?_ GE296.out | refine below_set ?_ GE324.out) | exact HB.out)); (case side2 => exact Kd.R_tight rfl HO_12.out); rintro e w107 ⟨rfl, hy0, hb, hkp⟩; refine ⟨_, rfl, ?_⟩; have n0_ := Aside0.mk (Kd.R_mono (ok' := fun k_ => some k_ ≠ (.slice Ao106 t329.length co106 : Value).ownBlock) (Kd.R_keptB (HO_7.out) hkp (fun k_ hk_ hs_ => (hk_) hs_)) (fun k_ hk_ => hk_.1)); have n1_ := Aside0.mk (Kd.R_reok rfl hy0 (fun k_ e_ => HO_12.out.1 k_ e_)); have n2_ := Aside0.mk (Kd.R_mono (ok' := fun k_ => True) (Kd.R_keptB ((Kd.R_apart' HO_325003.out (Kd.R_typed HO_12.out) (t49))) hkp (fun k_ hk_ hs_ => (hk_.2) hs_)) (fun k_ hk_ => trivial)); have n3_ := Aside0.mk (Kd.R_mono (ok' := fun k_ => True) (Kd.R_keptB ((Kd.R_apart' HO_325004.out (Kd.R_typed HO_12.out) (t49))) hkp (fun k_ hk_ hs_ => (hk_.2) hs_)) (fun k_ hk_ => trivial)); have n4_ := Aside0.mk (blk_kept (t11) hkp (fun hs_ => (fun e_ => (Kd.R_ne HO_12.out BK296.out (t49)) e_) hs_)); have n5_ := Aside0.mk (blk_kept (t17) hkp (fun hs_ => (fun e_ => (Kd.R_ne HO_12.out BK324.out (t49)) e_) hs_)); have n6_ := Aside0.mk (hb); clear HO_7; clear HO_12; clear HO_325003; clear HO_325004; clear BK296; clear BK324; clear HB; have HO_7 := n0_; have HO_12 := n1_; have HO_325003 := n2_; have HO_325004 := n3_; have BK296 := n4_; have BK324 := n5_; have HB := n6_; clear n0_ n1_ n2_ n3_ n4_ n5_ n6_; (try clear hb); (try clear hkp); (try clear hy0)) | ((with_reducible refine gate_callee (f := 18) rfl ?_); refine goesL_ (some 101) rfl rfl Tryd.func18 (t23) rfl #[.slice Ao106 t355.length co106, .int .i64 1] rfl (t44) ?_; (with_reducible refine (laws_heldIntS.calls kj53 _ _ t355 1 t356 _ ?side1 ?side2 A76.out).mono ?_); (case side1 => repeat (first | exact (Kd.R_reads' HO_12.out).2.2 | (with_reducible refine Kd.C_alloc ?_ _) | (with_reducible refine Kd.C_drewN ?_ _) | (with_reducible refine Kd.C_drew ?_))); (case side2 => rw [show t355.length = t329.length from (Kd.R_reads' HO_12.out).1.symm]; exact (Kd.R_reads' HO_12.out).2.1); rintro e w' ⟨rfl, ⟨nd, rfl⟩⟩; refine ⟨_, rfl, ?_⟩))
             go_ret
             exact ⟨t4, by repeat (first | (with_reducible first | exact HB.out | apply below_alloc | apply pw_below_drewN | apply below_drew1 | refine below_set ?_ GE296.out | refine below_set ?_ GE324.out) | exact HB.out)⟩
       ·replace c51 := Bool.eq_false_iff.mpr c51
        subst c51
        have H1 : (some false) = some r := by rw [if_neg (show ¬ (false = true) by decide)] at H; exact H
        clear H
        have H := H1
        clear H1
        obtain rfl := Option.some.inj H
        try go_wp2
        have n0_ := Aside0.mk (Kd.R_drew HO_7.out)
        have n1_ := Aside0.mk (Kd.R_drew HO_10.out)
        have n2_ := Aside0.mk (Kd.R_drew HO_12.out)
        have n3_ := Aside0.mk (Kd.R_drew HO_325003.out)
        have n4_ := Aside0.mk (Kd.R_drew HO_325004.out)
        have n5_ := Aside0.mk (blk_drew BK296.out)
        have n6_ := Aside0.mk (blk_drew BK324.out)
        have n7_ := Aside0.mk (below_drew1 HB.out)
        clear HO_7
        clear HO_10
        clear HO_12
        clear HO_325003
        clear HO_325004
        clear BK296
        clear BK324
        clear HB
        have HO_7 := n0_
        have HO_10 := n1_
        have HO_12 := n2_
        have HO_325003 := n3_
        have HO_325004 := n4_
        have BK296 := n5_
        have BK324 := n6_
        have HB := n7_
        clear n0_ n1_ n2_ n3_ n4_ n5_ n6_ n7_
        refine start_ (n := 5) (S := fun w' => w'.cell? ⟨gb324, 0, none⟩ = some (.string t315) ∧ w'.cell? ⟨gb324, 1, none⟩ = some (.int .i64 t316) ∧ w'.cell? ⟨gb324, 2, none⟩ = some (.int .i64 t317) ∧ w'.cell? ⟨gb324, 3, none⟩ = some (.slice Ao32 t318.length co32) ∧ w'.cell? ⟨gb324, 4, none⟩ = some (.slice Ao33 t321.length co33) ∧ w'.cell? ⟨gb296, 0, none⟩ = some (.string a0_0) ∧ w'.cell? ⟨gb296, 1, none⟩ = some (.int .i64 a0_1) ∧ w'.cell? ⟨gb296, 2, none⟩ = some (.int .i64 a0_2) ∧ w'.cell? ⟨gb296, 3, none⟩ = some (.slice A0_3 l0_3.length c0_3) ∧ w'.cell? ⟨gb296, 4, none⟩ = some (.slice A0_4 l0_4.length c0_4)) (ds := []) #[false, false, false, false, false] (t23) rfl rfl ⟨(blk_cell BK324.out 0).trans rfl, (blk_cell BK324.out 1).trans rfl, (blk_cell BK324.out 2).trans rfl, (blk_cell BK324.out 3).trans rfl, (blk_cell BK324.out 4).trans rfl, (blk_cell BK296.out 0).trans rfl, (blk_cell BK296.out 1).trans rfl, (blk_cell BK296.out 2).trans rfl, (blk_cell BK296.out 3).trans rfl, (blk_cell BK296.out 4).trans rfl⟩ (fun hHeld => ?_)
        generalize wc.drew = w108 at HO_7 HO_10 HO_12 HO_325003 HO_325004 BK296 BK324 HB hHeld ⊢
        refine tA 0 62 ?_
        refine tA 1 63 ?_
        refine oA 2 64 (fun K hK => ?_)
        refine goes_ Tryd.func11 (t23) rfl #[.agg #[.string a0_0, .int .i64 a0_1, .int .i64 a0_2, .slice A0_3 l0_3.length c0_3, .slice A0_4 l0_4.length c0_4]] (by rfl) rfl rfl (t2) ?_
        with_reducible refine (laws_toBox.calls kj15 a0_0 a0_1 a0_2 _ _ l0_3 _ _ l0_4 t334 t335 t336 t337 t340 _ ?side1 ?side2 ?side3 ?side4 A46.out).mono ?_
        (case side1 => repeat (first | exact (Kd.C_below HR0_3.out HB.out) | (with_reducible refine Kd.C_alloc ?_ _) | (with_reducible refine Kd.C_drewN ?_ _) | (with_reducible refine Kd.C_drew ?_)))
        (case side2 => exact HC0_3.out)
        (case side3 => repeat (first | exact (Kd.C_below HR0_4.out HB.out) | (with_reducible refine Kd.C_alloc ?_ _) | (with_reducible refine Kd.C_drewN ?_ _) | (with_reducible refine Kd.C_drew ?_)))
        (case side4 => exact HC0_4.out)
        rintro e w109 ⟨v338, v341, rfl, ho0, ho1, hb⟩
        refine ⟨_, rfl, ?_⟩
        have n0_ := Aside0.mk (Kd.R_below (t9) hb)
        have n1_ := Aside0.mk (Kd.R_below (t35) hb)
        have n2_ := Aside0.mk (Kd.R_below (t30) hb)
        have n3_ := Aside0.mk (Kd.R_elder' (t28) (Kd.R_base ho0) hb)
        have n4_ := Aside0.mk (Kd.R_elder' (t29) (Kd.R_base ho1) hb)
        have n5_ := Aside0.mk (Kd.R_lower (Kd.R_new' ho0 (Kd.R_lt (t28))) (below_size (t5)))
        have n6_ := Aside0.mk (Kd.R_lower (Kd.R_new' ho1 (Kd.R_lt (t29))) (below_size (t5)))
        have n7_ := Aside0.mk (blk_below (g := gb296) (o := .cells #[.string a0_0, .int .i64 a0_1, .int .i64 a0_2, .slice A0_3 l0_3.length c0_3, .slice A0_4 l0_4.length c0_4] 25 (0, 0)) (t11) hb)
        have n8_ := Aside0.mk (blk_below (g := gb324) (o := .cells #[.string t315, .int .i64 t316, .int .i64 t317, .slice Ao32 t318.length co32, .slice Ao33 t321.length co33] 32 (0, 0)) (t17) hb)
        have n9_ := Aside0.mk (below_step (t5) hb)
        clear HO_7
        clear HO_10
        clear HO_12
        clear HO_325003
        clear HO_325004
        clear BK296
        clear BK324
        clear HB
        have HO_7 := n0_
        have HO_10 := n1_
        have HO_12 := n2_
        have HO_325003 := n3_
        have HO_325004 := n4_
        have HO339 := n5_
        have HO342 := n6_
        have BK296 := n7_
        have BK324 := n8_
        have HB := n9_
        clear n0_ n1_ n2_ n3_ n4_ n5_ n6_ n7_ n8_ n9_
        (try clear hb)
        (try clear hb2)
        (try clear hk)
        (try clear hi)
        (try clear ho0)
        (try clear ho1)
        obtain ⟨Ao110, co110, eo110⟩ := Kd.R_slice HO339.out
        (first | subst eo110 | (injection eo110 with f1_ f2_ f3_; have f4_ := f1_.symm; have f5_ := f3_.symm; clear f1_ f2_ f3_; subst f4_; subst f5_))
        obtain ⟨Ao111, co111, eo111⟩ := Kd.R_slice HO342.out
        (first | subst eo111 | (injection eo111 with f1_ f2_ f3_; have f4_ := f1_.symm; have f5_ := f3_.symm; clear f1_ f2_ f3_; subst f4_; subst f5_))
        refine hK.out _ _ ⟨(blk_cell BK324.out 0).trans rfl, (blk_cell BK324.out 1).trans rfl, (blk_cell BK324.out 2).trans rfl, (blk_cell BK324.out 3).trans rfl, (blk_cell BK324.out 4).trans rfl, (blk_cell BK296.out 0).trans rfl, (blk_cell BK296.out 1).trans rfl, (blk_cell BK296.out 2).trans rfl, (blk_cell BK296.out 3).trans rfl, (blk_cell BK296.out 4).trans rfl⟩ (fun hHeld => ?_)
        clear hK K
        refine norm_ (a' := ?_) ?_ ?_
        rotate_left
        ·show Act.put _ (some 64) _ = _
         simp only [Act.put, List.setIfInBounds_toArray, List.set_cons_zero, List.set_cons_succ, i64_w, i32_w]
         rfl
        refine oA 3 65 (fun K hK => ?_)
        refine goes_ Tryd.func15 (t23) rfl #[.agg #[.string t315, .int .i64 t316, .int .i64 t317, .slice Ao32 t318.length co32, .slice Ao33 t321.length co33], .agg #[.string t334, .int .i64 t335, .int .i64 t336, .slice Ao110 t337.length co110, .slice Ao111 t340.length co111]] (by rfl) rfl rfl (t2) ?_
        with_reducible refine (laws_eqBox.calls kj15 t315 t316 t317 _ _ t318 _ _ t321 t334 t335 t336 _ _ t337 _ _ t340 true _ ?side1 ?side2 ?side3 ?side4 ?side5 ?side6 ?side7 ?side8 A47.out).mono ?_
        (case side1 => repeat (first | exact (Kd.R_reads' HO_325003.out).2.2 | (with_reducible refine Kd.C_alloc ?_ _) | (with_reducible refine Kd.C_drewN ?_ _) | (with_reducible refine Kd.C_drew ?_)))
        (case side2 => exact (Kd.R_reads' HO_325003.out).2.1)
        (case side3 => repeat (first | exact (Kd.R_reads' HO_325004.out).2.2 | (with_reducible refine Kd.C_alloc ?_ _) | (with_reducible refine Kd.C_drewN ?_ _) | (with_reducible refine Kd.C_drew ?_)))
        (case side4 => exact (Kd.R_reads' HO_325004.out).2.1)
        (case side5 => repeat (first | exact (Kd.R_reads' HO339.out).2.2 | (with_reducible refine Kd.C_alloc ?_ _) | (with_reducible refine Kd.C_drewN ?_ _) | (with_reducible refine Kd.C_drew ?_)))
        (case side6 => exact (Kd.R_reads' HO339.out).2.1)
        (case side7 => repeat (first | exact (Kd.R_reads' HO342.out).2.2 | (with_reducible refine Kd.C_alloc ?_ _) | (with_reducible refine Kd.C_drewN ?_ _) | (with_reducible refine Kd.C_drew ?_)))
        (case side8 => exact (Kd.R_reads' HO342.out).2.1)
        rintro e w112 ⟨rfl, hb⟩
        refine ⟨_, rfl, ?_⟩
        have n0_ := Aside0.mk (Kd.R_below (t9) hb)
        have n1_ := Aside0.mk (Kd.R_below (t35) hb)
        have n2_ := Aside0.mk (Kd.R_below (t30) hb)
        have n3_ := Aside0.mk (Kd.R_below (t28) hb)
        have n4_ := Aside0.mk (Kd.R_below (t29) hb)
        have n5_ := Aside0.mk (Kd.R_below (t67) hb)
        have n6_ := Aside0.mk (Kd.R_below (t68) hb)
        have n7_ := Aside0.mk (blk_below (g := gb296) (o := .cells #[.string a0_0, .int .i64 a0_1, .int .i64 a0_2, .slice A0_3 l0_3.length c0_3, .slice A0_4 l0_4.length c0_4] 25 (0, 0)) (t11) hb)
        have n8_ := Aside0.mk (blk_below (g := gb324) (o := .cells #[.string t315, .int .i64 t316, .int .i64 t317, .slice Ao32 t318.length co32, .slice Ao33 t321.length co33] 32 (0, 0)) (t17) hb)
        have n9_ := Aside0.mk (below_step (t5) hb)
        clear HO_7
        clear HO_10
        clear HO_12
        clear HO_325003
        clear HO_325004
        clear HO339
        clear HO342
        clear BK296
        clear BK324
        clear HB
        have HO_7 := n0_
        have HO_10 := n1_
        have HO_12 := n2_
        have HO_325003 := n3_
        have HO_325004 := n4_
        have HO339 := n5_
        have HO342 := n6_
        have BK296 := n7_
        have BK324 := n8_
        have HB := n9_
        clear n0_ n1_ n2_ n3_ n4_ n5_ n6_ n7_ n8_ n9_
        (try clear hb)
        (try clear hb2)
        (try clear hk)
        (try clear hi)
        refine hK.out _ _ ⟨(blk_cell BK324.out 0).trans rfl, (blk_cell BK324.out 1).trans rfl, (blk_cell BK324.out 2).trans rfl, (blk_cell BK324.out 3).trans rfl, (blk_cell BK324.out 4).trans rfl, (blk_cell BK296.out 0).trans rfl, (blk_cell BK296.out 1).trans rfl, (blk_cell BK296.out 2).trans rfl, (blk_cell BK296.out 3).trans rfl, (blk_cell BK296.out 4).trans rfl⟩ (fun hHeld => ?_)
        clear hK K
        refine norm_ (a' := ?_) ?_ ?_
        rotate_left
        ·show Act.put _ (some 65) _ = _
         simp only [Act.put, List.setIfInBounds_toArray, List.set_cons_zero, List.set_cons_succ, i64_w, i32_w]
         rfl
        refine pA 4 66 ?_
        refine done_ (t23) ?_
        try go_wp2_with (first | ((with_reducible refine gate_callee (f := 12) rfl ?_); refine goesL_ (some 69) rfl rfl Tryd.func12 (t23) rfl #[.slice A1 l1.length c1] rfl (t2) ?_; (with_reducible refine (laws_toIntS.calls kj15 _ _ l1 t344 _ ?side1 ?side2 A49.out).mono ?_); (case side1 => repeat (first | exact (Kd.C_below HR1.out HB.out) | (with_reducible refine Kd.C_alloc ?_ _) | (with_reducible refine Kd.C_drewN ?_ _) | (with_reducible refine Kd.C_drew ?_))); (case side2 => exact HC1.out); rintro e w113 ⟨v345, rfl, ho0, hb⟩; refine ⟨_, rfl, ?_⟩; have n0_ := Aside0.mk (Kd.R_elder' (t9) (Kd.R_base ho0) hb); have n1_ := Aside0.mk (Kd.R_elder' (t35) (Kd.R_base ho0) hb); have n2_ := Aside0.mk (Kd.R_elder' (t30) (Kd.R_base ho0) hb); have n3_ := Aside0.mk (Kd.R_below (t28) hb); have n4_ := Aside0.mk (Kd.R_below (t29) hb); have n5_ := Aside0.mk (Kd.R_below (t67) hb); have n6_ := Aside0.mk (Kd.R_below (t68) hb); have n7_ := Aside0.mk (Kd.R_lower (Kd.R_new' (Kd.R_new' (Kd.R_new' ho0 (Kd.R_lt (t9))) (Kd.R_lt (t35))) (Kd.R_lt (t30))) (below_size (t5))); have n8_ := Aside0.mk (blk_below (g := gb296) (o := .cells #[.string a0_0, .int .i64 a0_1, .int .i64 a0_2, .slice A0_3 l0_3.length c0_3, .slice A0_4 l0_4.length c0_4] 25 (0, 0)) (t11) hb); have n9_ := Aside0.mk (blk_below (g := gb324) (o := .cells #[.string t315, .int .i64 t316, .int .i64 t317, .slice Ao32 t318.length co32, .slice Ao33 t321.length co33] 32 (0, 0)) (t17) hb); have n10_ := Aside0.mk (below_step (t5) hb); clear HO_7; clear HO_10; clear HO_12; clear HO_325003; clear HO_325004; clear HO339; clear HO342; clear BK296; clear BK324; clear HB; have HO_7 := n0_; have HO_10 := n1_; have HO_12 := n2_; have HO_325003 := n3_; have HO_325004 := n4_; have HO339 := n5_; have HO342 := n6_; have HO346 := n7_; have BK296 := n8_; have BK324 := n9_; have HB := n10_; clear n0_ n1_ n2_ n3_ n4_ n5_ n6_ n7_ n8_ n9_ n10_; (try clear hb); (try clear hb2); (try clear hk); (try clear hi); (try clear ho0); obtain ⟨Ao114, co114, eo114⟩ := Kd.R_slice HO346.out; subst eo114) | ((with_reducible refine gate_callee (f := 14) rfl ?_); refine goesL_ (some 70) rfl rfl Tryd.func14 (t23) rfl #[.slice Ao36 t325.length co36, .slice Ao114 t344.length co114] rfl (t2) ?_; (with_reducible refine (laws_eqIntS.calls kj15 _ _ t325 _ _ t344 false _ ?side1 ?side2 ?side3 ?side4 A50.out).mono ?_); (case side1 => repeat (first | exact (Kd.R_reads' HO_10.out).2.2 | (with_reducible refine Kd.C_alloc ?_ _) | (with_reducible refine Kd.C_drewN ?_ _) | (with_reducible refine Kd.C_drew ?_))); (case side2 => exact (Kd.R_reads' HO_10.out).2.1); (case side3 => repeat (first | exact (Kd.R_reads' HO346.out).2.2 | (with_reducible refine Kd.C_alloc ?_ _) | (with_reducible refine Kd.C_drewN ?_ _) | (with_reducible refine Kd.C_drew ?_))); (case side4 => exact (Kd.R_reads' HO346.out).2.1); rintro e w' ⟨rfl, ⟨nd, rfl⟩⟩; refine ⟨_, rfl, ?_⟩))
        go_ret
        exact ⟨t4, by repeat (first | (with_reducible first | exact HB.out | apply below_alloc | apply pw_below_drewN | apply below_drew1 | refine below_set ?_ GE296.out | refine below_set ?_ GE324.out) | exact HB.out)⟩
      ·replace c48 := Bool.eq_false_iff.mpr c48
       subst c48
       have H1 : (some false) = some r := by rw [if_neg (show ¬ (false = true) by decide)] at H; exact H
       clear H
       have H := H1
       clear H1
       obtain rfl := Option.some.inj H
       try go_wp2
       have n0_ := Aside0.mk (Kd.R_drew HO_7.out)
       have n1_ := Aside0.mk (Kd.R_drew HO_10.out)
       have n2_ := Aside0.mk (Kd.R_drew HO_12.out)
       have n3_ := Aside0.mk (Kd.R_drew HO_325003.out)
       have n4_ := Aside0.mk (Kd.R_drew HO_325004.out)
       have n5_ := Aside0.mk (blk_drew BK296.out)
       have n6_ := Aside0.mk (blk_drew BK324.out)
       have n7_ := Aside0.mk (below_drew1 HB.out)
       clear HO_7
       clear HO_10
       clear HO_12
       clear HO_325003
       clear HO_325004
       clear BK296
       clear BK324
       clear HB
       have HO_7 := n0_
       have HO_10 := n1_
       have HO_12 := n2_
       have HO_325003 := n3_
       have HO_325004 := n4_
       have BK296 := n5_
       have BK324 := n6_
       have HB := n7_
       clear n0_ n1_ n2_ n3_ n4_ n5_ n6_ n7_
       refine start_ (n := 5) (S := fun w' => w'.cell? ⟨gb324, 0, none⟩ = some (.string t315) ∧ w'.cell? ⟨gb324, 1, none⟩ = some (.int .i64 t316) ∧ w'.cell? ⟨gb324, 2, none⟩ = some (.int .i64 t317) ∧ w'.cell? ⟨gb324, 3, none⟩ = some (.slice Ao32 t318.length co32) ∧ w'.cell? ⟨gb324, 4, none⟩ = some (.slice Ao33 t321.length co33) ∧ w'.cell? ⟨gb296, 0, none⟩ = some (.string a0_0) ∧ w'.cell? ⟨gb296, 1, none⟩ = some (.int .i64 a0_1) ∧ w'.cell? ⟨gb296, 2, none⟩ = some (.int .i64 a0_2) ∧ w'.cell? ⟨gb296, 3, none⟩ = some (.slice A0_3 l0_3.length c0_3) ∧ w'.cell? ⟨gb296, 4, none⟩ = some (.slice A0_4 l0_4.length c0_4)) (ds := []) #[false, false, false, false, false] (t23) rfl rfl ⟨(blk_cell BK324.out 0).trans rfl, (blk_cell BK324.out 1).trans rfl, (blk_cell BK324.out 2).trans rfl, (blk_cell BK324.out 3).trans rfl, (blk_cell BK324.out 4).trans rfl, (blk_cell BK296.out 0).trans rfl, (blk_cell BK296.out 1).trans rfl, (blk_cell BK296.out 2).trans rfl, (blk_cell BK296.out 3).trans rfl, (blk_cell BK296.out 4).trans rfl⟩ (fun hHeld => ?_)
       generalize wc.drew = w115 at HO_7 HO_10 HO_12 HO_325003 HO_325004 BK296 BK324 HB hHeld ⊢
       refine tA 0 62 ?_
       refine tA 1 63 ?_
       refine oA 2 64 (fun K hK => ?_)
       refine goes_ Tryd.func11 (t23) rfl #[.agg #[.string a0_0, .int .i64 a0_1, .int .i64 a0_2, .slice A0_3 l0_3.length c0_3, .slice A0_4 l0_4.length c0_4]] (by rfl) rfl rfl (t2) ?_
       with_reducible refine (laws_toBox.calls kj15 a0_0 a0_1 a0_2 _ _ l0_3 _ _ l0_4 t334 t335 t336 t337 t340 _ ?side1 ?side2 ?side3 ?side4 A46.out).mono ?_
       (case side1 => repeat (first | exact (Kd.C_below HR0_3.out HB.out) | (with_reducible refine Kd.C_alloc ?_ _) | (with_reducible refine Kd.C_drewN ?_ _) | (with_reducible refine Kd.C_drew ?_)))
       (case side2 => exact HC0_3.out)
       (case side3 => repeat (first | exact (Kd.C_below HR0_4.out HB.out) | (with_reducible refine Kd.C_alloc ?_ _) | (with_reducible refine Kd.C_drewN ?_ _) | (with_reducible refine Kd.C_drew ?_)))
       (case side4 => exact HC0_4.out)
       rintro e w116 ⟨v338, v341, rfl, ho0, ho1, hb⟩
       refine ⟨_, rfl, ?_⟩
       have n0_ := Aside0.mk (Kd.R_below (t9) hb)
       have n1_ := Aside0.mk (Kd.R_below (t35) hb)
       have n2_ := Aside0.mk (Kd.R_below (t30) hb)
       have n3_ := Aside0.mk (Kd.R_elder' (t28) (Kd.R_base ho0) hb)
       have n4_ := Aside0.mk (Kd.R_elder' (t29) (Kd.R_base ho1) hb)
       have n5_ := Aside0.mk (Kd.R_lower (Kd.R_new' ho0 (Kd.R_lt (t28))) (below_size (t5)))
       have n6_ := Aside0.mk (Kd.R_lower (Kd.R_new' ho1 (Kd.R_lt (t29))) (below_size (t5)))
       have n7_ := Aside0.mk (blk_below (g := gb296) (o := .cells #[.string a0_0, .int .i64 a0_1, .int .i64 a0_2, .slice A0_3 l0_3.length c0_3, .slice A0_4 l0_4.length c0_4] 25 (0, 0)) (t11) hb)
       have n8_ := Aside0.mk (blk_below (g := gb324) (o := .cells #[.string t315, .int .i64 t316, .int .i64 t317, .slice Ao32 t318.length co32, .slice Ao33 t321.length co33] 32 (0, 0)) (t17) hb)
       have n9_ := Aside0.mk (below_step (t5) hb)
       clear HO_7
       clear HO_10
       clear HO_12
       clear HO_325003
       clear HO_325004
       clear BK296
       clear BK324
       clear HB
       have HO_7 := n0_
       have HO_10 := n1_
       have HO_12 := n2_
       have HO_325003 := n3_
       have HO_325004 := n4_
       have HO339 := n5_
       have HO342 := n6_
       have BK296 := n7_
       have BK324 := n8_
       have HB := n9_
       clear n0_ n1_ n2_ n3_ n4_ n5_ n6_ n7_ n8_ n9_
       (try clear hb)
       (try clear hb2)
       (try clear hk)
       (try clear hi)
       (try clear ho0)
       (try clear ho1)
       obtain ⟨Ao117, co117, eo117⟩ := Kd.R_slice HO339.out
       (first | subst eo117 | (injection eo117 with f1_ f2_ f3_; have f4_ := f1_.symm; have f5_ := f3_.symm; clear f1_ f2_ f3_; subst f4_; subst f5_))
       obtain ⟨Ao118, co118, eo118⟩ := Kd.R_slice HO342.out
       (first | subst eo118 | (injection eo118 with f1_ f2_ f3_; have f4_ := f1_.symm; have f5_ := f3_.symm; clear f1_ f2_ f3_; subst f4_; subst f5_))
       refine hK.out _ _ ⟨(blk_cell BK324.out 0).trans rfl, (blk_cell BK324.out 1).trans rfl, (blk_cell BK324.out 2).trans rfl, (blk_cell BK324.out 3).trans rfl, (blk_cell BK324.out 4).trans rfl, (blk_cell BK296.out 0).trans rfl, (blk_cell BK296.out 1).trans rfl, (blk_cell BK296.out 2).trans rfl, (blk_cell BK296.out 3).trans rfl, (blk_cell BK296.out 4).trans rfl⟩ (fun hHeld => ?_)
       clear hK K
       refine norm_ (a' := ?_) ?_ ?_
       rotate_left
       ·show Act.put _ (some 64) _ = _
        simp only [Act.put, List.setIfInBounds_toArray, List.set_cons_zero, List.set_cons_succ, i64_w, i32_w]
        rfl
       refine oA 3 65 (fun K hK => ?_)
       refine goes_ Tryd.func15 (t23) rfl #[.agg #[.string t315, .int .i64 t316, .int .i64 t317, .slice Ao32 t318.length co32, .slice Ao33 t321.length co33], .agg #[.string t334, .int .i64 t335, .int .i64 t336, .slice Ao117 t337.length co117, .slice Ao118 t340.length co118]] (by rfl) rfl rfl (t2) ?_
       with_reducible refine (laws_eqBox.calls kj15 t315 t316 t317 _ _ t318 _ _ t321 t334 t335 t336 _ _ t337 _ _ t340 false _ ?side1 ?side2 ?side3 ?side4 ?side5 ?side6 ?side7 ?side8 A47.out).mono ?_
       (case side1 => repeat (first | exact (Kd.R_reads' HO_325003.out).2.2 | (with_reducible refine Kd.C_alloc ?_ _) | (with_reducible refine Kd.C_drewN ?_ _) | (with_reducible refine Kd.C_drew ?_)))
       (case side2 => exact (Kd.R_reads' HO_325003.out).2.1)
       (case side3 => repeat (first | exact (Kd.R_reads' HO_325004.out).2.2 | (with_reducible refine Kd.C_alloc ?_ _) | (with_reducible refine Kd.C_drewN ?_ _) | (with_reducible refine Kd.C_drew ?_)))
       (case side4 => exact (Kd.R_reads' HO_325004.out).2.1)
       (case side5 => repeat (first | exact (Kd.R_reads' HO339.out).2.2 | (with_reducible refine Kd.C_alloc ?_ _) | (with_reducible refine Kd.C_drewN ?_ _) | (with_reducible refine Kd.C_drew ?_)))
       (case side6 => exact (Kd.R_reads' HO339.out).2.1)
       (case side7 => repeat (first | exact (Kd.R_reads' HO342.out).2.2 | (with_reducible refine Kd.C_alloc ?_ _) | (with_reducible refine Kd.C_drewN ?_ _) | (with_reducible refine Kd.C_drew ?_)))
       (case side8 => exact (Kd.R_reads' HO342.out).2.1)
       rintro e w119 ⟨rfl, hb⟩
       refine ⟨_, rfl, ?_⟩
       have n0_ := Aside0.mk (Kd.R_below (t9) hb)
       have n1_ := Aside0.mk (Kd.R_below (t35) hb)
       have n2_ := Aside0.mk (Kd.R_below (t30) hb)
       have n3_ := Aside0.mk (Kd.R_below (t28) hb)
       have n4_ := Aside0.mk (Kd.R_below (t29) hb)
       have n5_ := Aside0.mk (Kd.R_below (t67) hb)
       have n6_ := Aside0.mk (Kd.R_below (t68) hb)
       have n7_ := Aside0.mk (blk_below (g := gb296) (o := .cells #[.string a0_0, .int .i64 a0_1, .int .i64 a0_2, .slice A0_3 l0_3.length c0_3, .slice A0_4 l0_4.length c0_4] 25 (0, 0)) (t11) hb)
       have n8_ := Aside0.mk (blk_below (g := gb324) (o := .cells #[.string t315, .int .i64 t316, .int .i64 t317, .slice Ao32 t318.length co32, .slice Ao33 t321.length co33] 32 (0, 0)) (t17) hb)
       have n9_ := Aside0.mk (below_step (t5) hb)
       clear HO_7
       clear HO_10
       clear HO_12
       clear HO_325003
       clear HO_325004
       clear HO339
       clear HO342
       clear BK296
       clear BK324
       clear HB
       have HO_7 := n0_
       have HO_10 := n1_
       have HO_12 := n2_
       have HO_325003 := n3_
       have HO_325004 := n4_
       have HO339 := n5_
       have HO342 := n6_
       have BK296 := n7_
       have BK324 := n8_
       have HB := n9_
       clear n0_ n1_ n2_ n3_ n4_ n5_ n6_ n7_ n8_ n9_
       (try clear hb)
       (try clear hb2)
       (try clear hk)
       (try clear hi)
       refine hK.out _ _ ⟨(blk_cell BK324.out 0).trans rfl, (blk_cell BK324.out 1).trans rfl, (blk_cell BK324.out 2).trans rfl, (blk_cell BK324.out 3).trans rfl, (blk_cell BK324.out 4).trans rfl, (blk_cell BK296.out 0).trans rfl, (blk_cell BK296.out 1).trans rfl, (blk_cell BK296.out 2).trans rfl, (blk_cell BK296.out 3).trans rfl, (blk_cell BK296.out 4).trans rfl⟩ (fun hHeld => ?_)
       clear hK K
       refine norm_ (a' := ?_) ?_ ?_
       rotate_left
       ·show Act.put _ (some 65) _ = _
        simp only [Act.put, List.setIfInBounds_toArray, List.set_cons_zero, List.set_cons_succ, i64_w, i32_w]
        rfl
       refine pA 4 66 ?_
       refine done_ (t23) ?_
       try go_wp2
       go_ret
       exact ⟨t4, by repeat (first | (with_reducible first | exact HB.out | apply below_alloc | apply pw_below_drewN | apply below_drew1 | refine below_set ?_ GE296.out | refine below_set ?_ GE324.out) | exact HB.out)⟩

end Go.Proofs.YtnphhnhnmohfiaaDoor.PFnExactViewUpdates
