/- Contracts of the functions that a statement reaches: written for this seat by wip/x/xprint.py over the kit's print, with own contracts for what the print lacks. -/
import Derived.Test.YtifkmkiljpeaaabDoorPFnExactOverLinex0
import Derived.Test.YtifkmkiljpeaaabDoorPFnExactOverLinex2
namespace Go.Proofs.YtifkmkiljpeaaabDoor.PFnExactOverLine
open Go.RowKit Go.Proofs.YtifkmkiljpeaaabDoorW.PrintWords Go.Proofs.YtifkmkiljpeaaabDoorW.PrintLast Go.Proofs.YtifkmkiljpeaaabDoorW.PrintMore
attribute [local go_sem] max2_int min2_int max_two min_two max_three min_three max_four min_four   -- for this text's walks alone
set_option linter.unusedVariables false
set_option linter.unusedSimpArgs false

/-! ### spec_l07Parse: function 13 -/
mutual
def spec_l07Parse.l0 : Nat → ByteArray → Int → List (S50) → ByteArray → Option ((List (S50)) × ByteArray × Bool)
  | 0, _, _, _, _ => none
  | k + 1, x0, x5, x122000, x122001 => if (wrap64 (x5 + 2)) ≤ (x0.size : Int) then (if 0 ≤ x5 then (if x5 ≤ (wrap64 (x5 + 2)) then (spec_l07Parse.j1 k x0 x5 ((x0.extract (x5 : Int).toNat ((wrap64 (x5 + 2)) : Int).toNat).toList == ([13, 10] : List UInt8)) x122000 x122001) else (none)) else (none)) else (spec_l07Parse.j1 k x0 x5 false x122000 x122001)
def spec_l07Parse.j1 : Nat → ByteArray → Int → Bool → List (S50) → ByteArray → Option ((List (S50)) × ByteArray × Bool)
  | 0, _, _, _, _, _ => none
  | k + 1, x0, x5, x24, x122000, x122001 => if x24 = true then (if 0 ≤ (wrap64 (x5 + 2)) then (if (wrap64 (x5 + 2)) ≤ (x0.size : Int) then (some (x122000, x0.extract ((wrap64 (x5 + 2)) : Int).toNat x0.size, true)) else (none)) else (none)) else (spec_l07Parse.l1 k x0 x5 x5 x122000 x122001)
def spec_l07Parse.j3 : Nat → ByteArray → Int → Int → List (S50) → ByteArray → Option ((List (S50)) × ByteArray × Bool)
  | 0, _, _, _, _, _ => none
  | k + 1, x0, x5, x6, x122000, x122001 => if (wrap64 (x6 + 2)) > (x0.size : Int) then (some (x122000, x122001, false)) else (if 0 ≤ x5 then (if x5 ≤ (wrap64 (x6 + 2)) then (if (wrap64 (x6 + 2)) ≤ (x0.size : Int) then ((spec_l03Unfold.f k (x0.extract (x5 : Int).toNat ((wrap64 (x6 + 2)) : Int).toNat)).bind fun bt122 => (if bt122.2.2 = true then (if (x122000.length : Int) = 40 then (some (x122000, x122001, false)) else (if x122000.length < 4398046511104 then (spec_l07Parse.l0 k x0 (wrap64 (x6 + 2)) (x122000 ++ [(⟨bt122.1, bt122.2.1⟩ : S50)]) x122001) else (none))) else (some (x122000, x122001, false)))) else (none)) else (none)) else (none))
def spec_l07Parse.l1 : Nat → ByteArray → Int → Int → List (S50) → ByteArray → Option ((List (S50)) × ByteArray × Bool)
  | 0, _, _, _, _, _ => none
  | k + 1, x0, x5, x6, x122000, x122001 => if (wrap64 (x6 + 1)) < (x0.size : Int) then (if 0 ≤ x6 then (if x6 ≤ (wrap64 (x6 + 2)) then (if (wrap64 (x6 + 2)) ≤ (x0.size : Int) then (if (x0.extract (x6 : Int).toNat ((wrap64 (x6 + 2)) : Int).toNat).toList = ([13, 10] : List UInt8) then (if (wrap64 (x6 + 2)) = (x0.size : Int) then (spec_l07Parse.j3 k x0 x5 x6 x122000 x122001) else (if 0 ≤ (wrap64 (x6 + 2)) then (if (wrap64 (x6 + 2)) < (x0.size : Int) then (if (¬ (bt x0 (wrap64 (x6 + 2))) = 32) then (spec_l07Parse.j3 k x0 x5 x6 x122000 x122001) else (spec_l07Parse.l1 k x0 x5 (wrap64 (x6 + 1)) x122000 x122001)) else (none)) else (none))) else (spec_l07Parse.l1 k x0 x5 (wrap64 (x6 + 1)) x122000 x122001)) else (none)) else (none)) else (none)) else (spec_l07Parse.j3 k x0 x5 x6 x122000 x122001)
end
def spec_l07Parse.f (k : Nat) (a0 : ByteArray) : Option ((List (S50)) × ByteArray × Bool) := spec_l07Parse.l0 k a0 0 (([] : List (S50))) (⟨#[]⟩ : ByteArray)
theorem spec_l07Parse.mono_l : ∀ k, (∀ y0 y1 y2 y3, LeO (spec_l07Parse.l0 k y0 y1 y2 y3) (spec_l07Parse.l0 (k + 1) y0 y1 y2 y3)) ∧ (∀ y0 y1 y2 y3 y4, LeO (spec_l07Parse.j1 k y0 y1 y2 y3 y4) (spec_l07Parse.j1 (k + 1) y0 y1 y2 y3 y4)) ∧ (∀ y0 y1 y2 y3 y4, LeO (spec_l07Parse.j3 k y0 y1 y2 y3 y4) (spec_l07Parse.j3 (k + 1) y0 y1 y2 y3 y4)) ∧ (∀ y0 y1 y2 y3 y4, LeO (spec_l07Parse.l1 k y0 y1 y2 y3 y4) (spec_l07Parse.l1 (k + 1) y0 y1 y2 y3 y4))
  | 0 => ⟨fun _ _ _ _ r h => by simp [spec_l07Parse.l0] at h, fun _ _ _ _ _ r h => by simp [spec_l07Parse.j1] at h, fun _ _ _ _ _ r h => by simp [spec_l07Parse.j3] at h, fun _ _ _ _ _ r h => by simp [spec_l07Parse.l1] at h⟩
  | k + 1 => by
    obtain ⟨ih0, ih1, ih2, ih3⟩ := spec_l07Parse.mono_l k
    refine ⟨?_, ?_, ?_, ?_⟩
    · intro y0 y1 y2 y3
      unfold spec_l07Parse.l0
      repeat' first
      | (with_reducible exact ih0 _ _ _ _)
      | (with_reducible exact ih1 _ _ _ _ _)
      | (with_reducible exact ih2 _ _ _ _ _)
      | (with_reducible exact ih3 _ _ _ _ _)
      | (with_reducible exact spec_l03Unfold.mono _ _)
      | (with_reducible exact LeO.refl _)
      | (with_reducible exact LeO.none _)
      | (with_reducible refine LeO.ite ?_ ?_)
      | (with_reducible refine LeO.bind ?_ (fun _ => ?_))
      | exact ih0 _ _ _ _
      | exact ih1 _ _ _ _ _
      | exact ih2 _ _ _ _ _
      | exact ih3 _ _ _ _ _
      | exact spec_l03Unfold.mono _ _
      | exact LeO.none _
      | refine LeO.ite ?_ ?_
      | refine LeO.bind ?_ (fun _ => ?_)
    · intro y0 y1 y2 y3 y4
      unfold spec_l07Parse.j1
      repeat' first
      | (with_reducible exact ih0 _ _ _ _)
      | (with_reducible exact ih1 _ _ _ _ _)
      | (with_reducible exact ih2 _ _ _ _ _)
      | (with_reducible exact ih3 _ _ _ _ _)
      | (with_reducible exact spec_l03Unfold.mono _ _)
      | (with_reducible exact LeO.refl _)
      | (with_reducible exact LeO.none _)
      | (with_reducible refine LeO.ite ?_ ?_)
      | (with_reducible refine LeO.bind ?_ (fun _ => ?_))
      | exact ih0 _ _ _ _
      | exact ih1 _ _ _ _ _
      | exact ih2 _ _ _ _ _
      | exact ih3 _ _ _ _ _
      | exact spec_l03Unfold.mono _ _
      | exact LeO.none _
      | refine LeO.ite ?_ ?_
      | refine LeO.bind ?_ (fun _ => ?_)
    · intro y0 y1 y2 y3 y4
      unfold spec_l07Parse.j3
      repeat' first
      | (with_reducible exact ih0 _ _ _ _)
      | (with_reducible exact ih1 _ _ _ _ _)
      | (with_reducible exact ih2 _ _ _ _ _)
      | (with_reducible exact ih3 _ _ _ _ _)
      | (with_reducible exact spec_l03Unfold.mono _ _)
      | (with_reducible exact LeO.refl _)
      | (with_reducible exact LeO.none _)
      | (with_reducible refine LeO.ite ?_ ?_)
      | (with_reducible refine LeO.bind ?_ (fun _ => ?_))
      | exact ih0 _ _ _ _
      | exact ih1 _ _ _ _ _
      | exact ih2 _ _ _ _ _
      | exact ih3 _ _ _ _ _
      | exact spec_l03Unfold.mono _ _
      | exact LeO.none _
      | refine LeO.ite ?_ ?_
      | refine LeO.bind ?_ (fun _ => ?_)
    · intro y0 y1 y2 y3 y4
      unfold spec_l07Parse.l1
      repeat' first
      | (with_reducible exact ih0 _ _ _ _)
      | (with_reducible exact ih1 _ _ _ _ _)
      | (with_reducible exact ih2 _ _ _ _ _)
      | (with_reducible exact ih3 _ _ _ _ _)
      | (with_reducible exact spec_l03Unfold.mono _ _)
      | (with_reducible exact LeO.refl _)
      | (with_reducible exact LeO.none _)
      | (with_reducible refine LeO.ite ?_ ?_)
      | (with_reducible refine LeO.bind ?_ (fun _ => ?_))
      | exact ih0 _ _ _ _
      | exact ih1 _ _ _ _ _
      | exact ih2 _ _ _ _ _
      | exact ih3 _ _ _ _ _
      | exact spec_l03Unfold.mono _ _
      | exact LeO.none _
      | refine LeO.ite ?_ ?_
      | refine LeO.bind ?_ (fun _ => ?_)
theorem spec_l07Parse.mono : ∀ a0 k, LeO (spec_l07Parse.f k a0) (spec_l07Parse.f (k + 1) a0) := by
  intro a0 k
  obtain ⟨ih0, ih1, ih2, ih3⟩ := spec_l07Parse.mono_l k
  unfold spec_l07Parse.f
  repeat' first
      | (with_reducible exact ih0 _ _ _ _)
      | (with_reducible exact ih1 _ _ _ _ _)
      | (with_reducible exact ih2 _ _ _ _ _)
      | (with_reducible exact ih3 _ _ _ _ _)
      | (with_reducible exact spec_l03Unfold.mono _ _)
      | (with_reducible exact LeO.refl _)
      | (with_reducible exact LeO.none _)
      | (with_reducible refine LeO.ite ?_ ?_)
      | (with_reducible refine LeO.bind ?_ (fun _ => ?_))
      | exact ih0 _ _ _ _
      | exact ih1 _ _ _ _ _
      | exact ih2 _ _ _ _ _
      | exact ih3 _ _ _ _ _
      | exact spec_l03Unfold.mono _ _
      | exact LeO.none _
      | refine LeO.ite ?_ ?_
      | refine LeO.bind ?_ (fun _ => ?_)
set_option maxHeartbeats 40000000 in
set_option maxRecDepth 100000 in
theorem spec_l07Parse.calls (k : Nat) (a0 : ByteArray) (r1 : List (S50)) (r2 : ByteArray) (r3 : Bool) (w : World) (h : spec_l07Parse.f k a0 = some (r1, r2, r3)) :
    Calls Tryd.prog 13 #[.string a0] w fun e w' => ∃ v0_ : Value, e = .returned (.tuple #[.agg #[v0_, .string r2], .bool r3]) ∧ Kd.R k50 50 w' w.heap.size (fun _ => True) v0_ r1 ∧ Below w.heap.size w w' := by
  have hu33 := Tryd.underlying33
  have hu50 := Tryd.underlying50
  have HB := Aside0.mk (Below.refl w.heap.size w)
  have H : (spec_l07Parse.l0 k a0 0 (([] : List (S50))) (⟨#[]⟩ : ByteArray)) = some (r1, r2, r3) := h
  clear h
  obtain ⟨y118, hy118⟩ : ∃ y_ : List (S50), y_ = (([] : List (S50))) := ⟨_, rfl⟩
  replace H : (spec_l07Parse.l0 k a0 0 y118 (⟨#[]⟩ : ByteArray)) = some (r1, r2, r3) := by first | (rw [hy118]; with_reducible exact H) | (have H2_ := (Option.bind_some _ _).symm.trans H; rw [hy118]; with_reducible exact H2_) | (have H2_ := (Option.bind_some _ _).symm.trans H; with_reducible exact H2_) | with_reducible exact H | (rw [hy118]; exact H) | exact H
  have Ny118 := Aside0.mk hy118
  clear hy118
  have H' := Aside0.mk H
  clear H
  go_enter Tryd.func13, Tryd.ntmps13
  go_wp2_with (first | ((with_reducible refine gate_dst (N := 2) rfl ?_); (try (refine gate_guard (by rfl) ?_; dsimp only)); refine box_event ?hg (N := 2) ?hd (cs := #[.slice none 0 0, .string (⟨#[]⟩ : ByteArray)]) (t := 33) ?hr ?_; (case hd => rfl); (case hg => rfl); (case hr => first | (go_simp; done) | (go_simp; rfl)); intro gb117 hg w2 hbox hb; have n0_ := Aside0.mk (below_step (by repeat (first | (with_reducible first | exact HB.out | apply below_alloc | apply pw_below_drewN | apply below_drew1) | exact HB.out)) hb); have n1_ := Aside0.mk (hbox); have n2_ := Aside0.mk ((by rw [hg]; exact (below_size (by repeat (first | (with_reducible first | exact HB.out | apply below_alloc | apply pw_below_drewN | apply below_drew1) | exact HB.out))) : w.heap.size ≤ gb117)); have n3_ := Aside0.mk ((by rw [hg]; exact (below_size (by repeat (first | (with_reducible first | exact HB.out | apply below_alloc | apply pw_below_drewN | apply below_drew1) | exact HB.out))) : w.heap.size ≤ gb117)); clear HB; have HB := n0_; have BK117 := n1_; have GW117 := n2_; have GE117 := n3_; clear n0_ n1_ n2_ n3_; clear hb hbox hg) | ((with_reducible refine gate_dst (N := 10) rfl ?_); (try (refine gate_guard (by rfl) ?_; dsimp only)); refine Kd.R_lit k50 _ 50 ?hg (N := 10) ?hd (xs := ([] : List (S50))) (inner := []) (ok := fun _ => True) (okp := fun _ => True) ?hr ?hp (fun _ hk => hk) trivial (Below.refl _ _) (Nat.le_refl _) (by simp) ?_; (case hd => rfl); (case hg => rfl); (case hr => first | (go_simp; done) | (go_simp; rfl)); (case hp => exact (Reps.none _ _)); intro v119 w3 ho4 hb hg_ hnew_; clear hg_ hnew_; (first | rw [← Ny118.out] at ho4 | (simp only [Int.reduceToNat] at ho4; rw [← Ny118.out] at ho4)); have n0_ := Aside0.mk (Kd.R_lower ho4 (below_size (by repeat (first | (with_reducible first | exact HB.out | apply below_alloc | apply pw_below_drewN | apply below_drew1 | refine below_set ?_ GE117.out) | exact HB.out)))); have n1_ := Aside0.mk (blk_below (g := gb117) (o := .cells #[.slice none 0 0, .string (⟨#[]⟩ : ByteArray)] 33 (0, 0)) (by (with_reducible repeat (first | refine blk_drewN ?_ _ | refine blk_drew ?_ | refine blk_alloc ?_ _)); exact BK117.out) hb); have n2_ := Aside0.mk (below_step (by repeat (first | (with_reducible first | exact HB.out | apply below_alloc | apply pw_below_drewN | apply below_drew1 | refine below_set ?_ GE117.out) | exact HB.out)) hb); clear BK117; clear HB; have HO120 := n0_; have BK117 := n1_; have HB := n2_; clear n0_ n1_ n2_; clear hb ho4; obtain ⟨Ao5, co5, eo5⟩ := Kd.R_slice HO120.out; subst eo5) | ((with_reducible refine gate_dst (N := 4) rfl ?_); (try (refine gate_guard (by rfl) ?_; dsimp only)); refine box_event ?hg (N := 4) ?hd (cs := #[.slice none 0 0, .string (⟨#[]⟩ : ByteArray)]) (t := 33) ?hr ?_; (case hd => rfl); (case hg => rfl); (case hr => first | (go_simp; done) | (go_simp; rfl)); intro gb121 hg w6 hbox hb; have n0_ := Aside0.mk (Kd.R_below (by (with_reducible repeat (first | apply Kd.R_alloc | apply Kd.R_drewN | apply Kd.R_drew)); exact HO120.out) hb); have n1_ := Aside0.mk (blk_below (g := gb117) (o := .cells #[.slice none 0 0, .string (⟨#[]⟩ : ByteArray)] 33 (0, 0)) (by (with_reducible repeat (first | refine blk_drewN ?_ _ | refine blk_drew ?_ | refine blk_alloc ?_ _)); exact BK117.out) hb); have n2_ := Aside0.mk (below_step (by repeat (first | (with_reducible first | exact HB.out | apply below_alloc | apply pw_below_drewN | apply below_drew1 | refine below_set ?_ GE117.out) | exact HB.out)) hb); have n3_ := Aside0.mk (hbox); have n4_ := Aside0.mk ((by rw [hg]; exact (below_size (by repeat (first | (with_reducible first | exact HB.out | apply below_alloc | apply pw_below_drewN | apply below_drew1 | refine below_set ?_ GE117.out) | exact HB.out))) : w.heap.size ≤ gb121)); have n5_ := Aside0.mk ((by rw [hg]; exact (below_size (by repeat (first | (with_reducible first | exact HB.out | apply below_alloc | apply pw_below_drewN | apply below_drew1 | refine below_set ?_ GE117.out) | exact HB.out))) : w.heap.size ≤ gb121)); have n6_ := Aside0.mk ((by rw [hg]; exact Nat.ne_of_lt (blk_lt (g := gb117) (o := .cells #[.slice none 0 0, .string (⟨#[]⟩ : ByteArray)] 33 (0, 0)) (by (with_reducible repeat (first | refine blk_drewN ?_ _ | refine blk_drew ?_ | refine blk_alloc ?_ _)); exact BK117.out)) : gb117 ≠ gb121)); have n7_ := Aside0.mk ((by rw [hg]; exact Nat.ne_of_gt (blk_lt (g := gb117) (o := .cells #[.slice none 0 0, .string (⟨#[]⟩ : ByteArray)] 33 (0, 0)) (by (with_reducible repeat (first | refine blk_drewN ?_ _ | refine blk_drew ?_ | refine blk_alloc ?_ _)); exact BK117.out)) : gb121 ≠ gb117)); clear HO120; clear BK117; clear HB; have HO120 := n0_; have BK117 := n1_; have HB := n2_; have BK121 := n3_; have GW121 := n4_; have GE121 := n5_; have NB117_121 := n6_; have NB121_117 := n7_; clear n0_ n1_ n2_ n3_ n4_ n5_ n6_ n7_; clear hb hbox hg; have hnb7 := NB121_117.out; have hnc7 := NB117_121.out; have hcz8_0 : w6.cell? ⟨gb121, 0, none⟩ = some (.slice none 0 0) := (blk_cell BK121.out 0).trans rfl; have hcz8_1 : w6.cell? ⟨gb121, 1, none⟩ = some (.string (⟨#[]⟩ : ByteArray)) := (blk_cell BK121.out 1).trans rfl; have hfz8_0 := blk_frozen BK121.out 0; have hfz8_1 := blk_frozen BK121.out 1))
  go_loopg [5] k (fun kq v5 w' => ∃ (x5_1 : Int) (x118001_1 : ByteArray) (x122000_1 : List (S50)) (x122001_1 : ByteArray) (u122000 : Value), v5 = .int .i64 x5_1 ∧ Aside0 (spec_l07Parse.l0 kq a0 x5_1 x122000_1 x122001_1 = some (r1, r2, r3)) ∧ Aside0 (kq ≤ k) ∧ Aside0 (Kd.R k50 50 w' w.heap.size (fun _ => True) u122000 x122000_1) ∧ Aside0 (w'.heap[gb117]? = some (.cells #[(.slice none 0 0), .string x118001_1] 33 (0, 0))) ∧ Aside0 (w'.heap[gb121]? = some (.cells #[u122000, .string x122001_1] 33 (0, 0))) ∧ Aside0 (Below w.heap.size w w'))
  case atStart => exact ⟨(0), ((⟨#[]⟩ : ByteArray)), (y118), ((⟨#[]⟩ : ByteArray)), (.slice Ao5 y118.length co5), (by first | rfl | (simp; done) | (simp [nil_beq, nil_bne]; done) | (simp [*]; done) | (simp [*, nil_beq, nil_bne]; done)), H', ⟨Nat.le_refl _⟩, ⟨by (with_reducible repeat (first | apply Kd.R_alloc | apply Kd.R_drewN | apply Kd.R_drew)); exact Kd.R_mono (Kd.R_far (p := ⟨gb121, 1, none⟩) (Kd.R_far (p := ⟨gb121, 0, none⟩) (Kd.R_types HO120.out BK121.out (by decide)) (fun _ hk => hk.2) (.slice Ao5 y118.length co5)) (fun _ hk => hk.2) (.string (⟨#[]⟩ : ByteArray))) (fun _ hk => trivial)⟩, ⟨by (with_reducible repeat (first | refine blk_drewN ?_ _ | refine blk_drew ?_ | refine blk_alloc ?_ _)); refine blk_far ?_ NB117_121.out _; (with_reducible repeat (first | refine blk_drewN ?_ _ | refine blk_drew ?_ | refine blk_alloc ?_ _)); refine blk_far ?_ NB117_121.out _; (with_reducible repeat (first | refine blk_drewN ?_ _ | refine blk_drew ?_ | refine blk_alloc ?_ _)); exact BK117.out⟩, ⟨by (with_reducible repeat (first | refine blk_drewN ?_ _ | refine blk_drew ?_ | refine blk_alloc ?_ _)); refine blk_put (cs := #[.slice Ao5 y118.length co5, .string (⟨#[]⟩ : ByteArray)]) ?_ 1 _ rfl; (with_reducible repeat (first | refine blk_drewN ?_ _ | refine blk_drew ?_ | refine blk_alloc ?_ _)); refine blk_put (cs := #[.slice none 0 0, .string (⟨#[]⟩ : ByteArray)]) ?_ 0 _ rfl; (with_reducible repeat (first | refine blk_drewN ?_ _ | refine blk_drew ?_ | refine blk_alloc ?_ _)); exact BK121.out⟩, ⟨by repeat (first | (with_reducible first | exact HB.out | apply below_alloc | apply pw_below_drewN | apply below_drew1 | refine below_set ?_ GE117.out | refine below_set ?_ GE121.out) | exact HB.out)⟩⟩
  case round =>
    clear H'
    try clear c1
    try clear p2
    try clear c7
    try clear hcz8_0
    try clear hcz8_1
    try clear hfz8_0
    try clear hfz8_1
    obtain ⟨x5_1, x118001_1, x122000_1, x122001_1, u122000, rfl, HA, HK1, HO_122000, BK117, BK121, HB⟩ := hrel
    cases gk with
    | zero => exact absurd HA.out (by simp [spec_l07Parse.l0])
    | succ k1 =>
      have H := HA.out
      clear HA
      simp only [spec_l07Parse.l0] at H
      have HC9 := Aside0.mk H
      clear H
      go_upto_region 3 with (fail)
      go_cut [24] (fun v24 wc => ∃ (kq : Nat) (x24_8 : Bool), v24 = .bool x24_8 ∧ Aside0 (spec_l07Parse.j1 kq a0 x5_1 x24_8 x122000_1 x122001_1 = some (r1, r2, r3)) ∧ Aside0 (kq ≤ k1) ∧ Aside0 (Kd.R k50 50 wc w.heap.size (fun _ => True) u122000 x122000_1) ∧ Aside0 (wc.heap[gb117]? = some (.cells #[(.slice none 0 0), .string x118001_1] 33 (0, 0))) ∧ Aside0 (wc.heap[gb121]? = some (.cells #[u122000, .string x122001_1] 33 (0, 0))) ∧ Aside0 (Below w.heap.size w wc))
      case first =>
        have H := HC9.out
        clear HC9
        by_cases c10 : (wrap64 (x5_1 + 2)) ≤ (a0.size : Int)
        · rw [if_pos c10] at H
          have c10b0 : decide ((wrap64 (x5_1 + 2)) ≤ (a0.size : Int)) = true := decide_eq_true c10
          clear c10
          (first | rw [c10b0] | rw [c10b1] | (simp only [i64_w, i32_w]; rw [c10b0]) | skip)
          by_cases c11 : 0 ≤ x5_1
          · rw [if_pos c11] at H
            have c11b0 := eq_true c11
            have c11b1 : decide (0 ≤ x5_1) = true := decide_eq_true c11
            clear c11
            by_cases c12 : x5_1 ≤ (wrap64 (x5_1 + 2))
            · rw [if_pos c12] at H
              have c12b0 := eq_true c12
              have c12b1 : decide (x5_1 ≤ (wrap64 (x5_1 + 2))) = true := decide_eq_true c12
              have c13b0 := eq_true (of_decide_eq_true (by first | (with_reducible assumption) | assumption) : (wrap64 (x5_1 + 2)) ≤ (a0.size : Int))
              have H' := Aside0.mk H
              clear H
              go_wp2
              go_meet
              case rel => exact ⟨_, (((a0.extract (x5_1 : Int).toNat ((wrap64 (x5_1 + 2)) : Int).toNat).toList == ([13, 10] : List UInt8))), (by first | rfl | (simp; done) | (simp [nil_beq, nil_bne]; done) | (simp [*]; done) | (simp [*, nil_beq, nil_bne]; done)), H', ⟨by have := HK1.out; first | omega | exact Nat.le_refl _⟩, ⟨by (with_reducible repeat (first | apply Kd.R_alloc | apply Kd.R_drewN | apply Kd.R_drew)); exact HO_122000.out⟩, ⟨by (with_reducible repeat (first | refine blk_drewN ?_ _ | refine blk_drew ?_ | refine blk_alloc ?_ _)); exact BK117.out⟩, ⟨by (with_reducible repeat (first | refine blk_drewN ?_ _ | refine blk_drew ?_ | refine blk_alloc ?_ _)); exact BK121.out⟩, ⟨by repeat (first | (with_reducible first | exact HB.out | apply below_alloc | apply pw_below_drewN | apply below_drew1 | refine below_set ?_ GE117.out | refine below_set ?_ GE121.out) | exact HB.out)⟩⟩
            · rw [if_neg c12] at H
              exact absurd H (by simp)
          · rw [if_neg c11] at H
            exact absurd H (by simp)
        · rw [if_neg c10] at H
          have c10b0 : decide ((wrap64 (x5_1 + 2)) ≤ (a0.size : Int)) = false := decide_eq_false c10
          clear c10
          (first | rw [c10b0] | rw [c10b1] | (simp only [i64_w, i32_w]; rw [c10b0]) | skip)
          have H' := Aside0.mk H
          clear H
          go_wp2
          go_meet
          case rel => exact ⟨_, (false), (by first | rfl | (simp; done) | (simp [nil_beq, nil_bne]; done) | (simp [*]; done) | (simp [*, nil_beq, nil_bne]; done)), H', ⟨by have := HK1.out; first | omega | exact Nat.le_refl _⟩, ⟨by (with_reducible repeat (first | apply Kd.R_alloc | apply Kd.R_drewN | apply Kd.R_drew)); exact HO_122000.out⟩, ⟨by (with_reducible repeat (first | refine blk_drewN ?_ _ | refine blk_drew ?_ | refine blk_alloc ?_ _)); exact BK117.out⟩, ⟨by (with_reducible repeat (first | refine blk_drewN ?_ _ | refine blk_drew ?_ | refine blk_alloc ?_ _)); exact BK121.out⟩, ⟨by repeat (first | (with_reducible first | exact HB.out | apply below_alloc | apply pw_below_drewN | apply below_drew1 | refine below_set ?_ GE117.out | refine below_set ?_ GE121.out) | exact HB.out)⟩⟩
      case rest =>
        clear HC9
        try clear c1
        try clear p2
        try clear p6
        try clear c7
        try clear c10
        try clear c10b0
        try clear c11
        try clear c11b0
        try clear c11b1
        try clear c12
        try clear c12b0
        try clear c12b1
        try clear c13
        try clear c13b0
        try clear hcz8_0
        try clear hcz8_1
        try clear hfz8_0
        try clear hfz8_1
        try clear p2
        obtain ⟨kq, x24_8, rfl, HA, HJ8, HO_122000, BK117, BK121, HB⟩ := hcut
        cases kq with
        | zero => exact absurd HA.out (by simp [spec_l07Parse.j1])
        | succ kj8 =>
          have H := HA.out
          clear HA
          simp only [spec_l07Parse.j1] at H
          by_cases c14 : x24_8 = true
          · subst c14
            have H1 : (if 0 ≤ (wrap64 (x5_1 + 2)) then (if (wrap64 (x5_1 + 2)) ≤ (a0.size : Int) then (some (x122000_1, a0.extract ((wrap64 (x5_1 + 2)) : Int).toNat a0.size, true)) else (none)) else (none)) = some (r1, r2, r3) := by rw [if_pos rfl] at H; exact H
            clear H
            have H := H1
            clear H1
            obtain ⟨ji15, hji15⟩ : ∃ j_ : Int, (wrap64 (x5_1 + 2)) = j_ := ⟨_, rfl⟩
            replace H : (if 0 ≤ (ji15) then (if (ji15) ≤ (a0.size : Int) then (some (x122000_1, a0.extract ((ji15) : Int).toNat a0.size, true)) else (none)) else (none)) = some (r1, r2, r3) := by first | (rw [hji15] at H; exact H) | (simp only [hji15] at H ⊢; exact H)
            have hji15w : (IntKind.i64.wrap (x5_1 + 2)) = ji15 := (i64_w _).trans hji15
            by_cases c16 : 0 ≤ (ji15)
            · rw [if_pos c16] at H
              have c16b0 := eq_true c16
              have c16b1 : decide (0 ≤ (ji15)) = true := decide_eq_true c16
              clear c16
              by_cases c17 : (ji15) ≤ (a0.size : Int)
              · rw [if_pos c17] at H
                have c17b0 := eq_true c17
                have c17b1 : decide ((ji15) ≤ (a0.size : Int)) = true := decide_eq_true c17
                clear c17
                simp only [Option.some.injEq, Prod.mk.injEq] at H
                obtain ⟨rfl, rfl, rfl⟩ := H
                have hnb18 := NB121_117.out
                have hnc18 := NB117_121.out
                have hcz19_0 : wc.cell? ⟨gb121, 0, none⟩ = some (u122000) := (blk_cell BK121.out 0).trans rfl
                have hcz19_1 : wc.cell? ⟨gb121, 1, none⟩ = some (.string x122001_1) := (blk_cell BK121.out 1).trans rfl
                have hfz19_0 := blk_frozen BK121.out 0
                have hfz19_1 := blk_frozen BK121.out 1
                obtain ⟨Ao20, co20, eo20⟩ := Kd.R_slice HO_122000.out
                subst eo20
                have hcz21_0 : wc.cell? ⟨gb117, 0, none⟩ = some (.slice none 0 0) := (blk_cell BK117.out 0).trans rfl
                have hcz21_1 : wc.cell? ⟨gb117, 1, none⟩ = some (.string x118001_1) := (blk_cell BK117.out 1).trans rfl
                have hfz21_0 := blk_frozen BK117.out 0
                have hfz21_1 := blk_frozen BK117.out 1
                go_wp2
                refine bodyPost_ret (results_ct rfl _ _ gb117 33 #[.slice Ao20 x122000_1.length co20, .string (a0.extract ((ji15) : Int).toNat a0.size)] (0, 0) _ rfl (by (with_reducible repeat (first | refine blk_drewN ?_ _ | refine blk_drew ?_ | refine blk_alloc ?_ _)); refine blk_put (cs := #[.slice Ao20 x122000_1.length co20, .string x118001_1]) ?_ 1 _ rfl; (with_reducible repeat (first | refine blk_drewN ?_ _ | refine blk_drew ?_ | refine blk_alloc ?_ _)); refine blk_put (cs := #[.slice none 0 0, .string x118001_1]) ?_ 0 _ rfl; (with_reducible repeat (first | refine blk_drewN ?_ _ | refine blk_drew ?_ | refine blk_alloc ?_ _)); refine blk_far ?_ NB117_121.out _; (with_reducible repeat (first | refine blk_drewN ?_ _ | refine blk_drew ?_ | refine blk_alloc ?_ _)); exact BK117.out) Tryd.underlying33 rfl (by kernel_rfl)) rfl ?_
                exact ⟨_, by first | rfl | (simp only [nil_beq, nil_bne]; rfl) | (simp [nil_beq, nil_bne]; done) | (simp [errW_none, errW_some] <;> rfl) | (simp only [← hji15]; first | rfl | (simp [errW_none, errW_some] <;> rfl)) | (simp [*, errW_none, errW_some] <;> rfl), by (with_reducible repeat (first | apply Kd.R_alloc | apply Kd.R_drewN | apply Kd.R_drew)); exact Kd.R_mono (Kd.R_far (p := ⟨gb117, 1, none⟩) (Kd.R_far (p := ⟨gb117, 0, none⟩) (Kd.R_far (p := ⟨gb121, 1, none⟩) (Kd.R_types (Kd.R_types HO_122000.out BK121.out (by decide)) BK117.out (by decide)) (fun _ hk => hk.1.2) (.string (a0.extract ((ji15) : Int).toNat a0.size))) (fun _ hk => hk.2) (.slice Ao20 x122000_1.length co20)) (fun _ hk => hk.2) (.string (a0.extract ((ji15) : Int).toNat a0.size))) (fun _ hk => trivial), by repeat (first | (with_reducible first | exact HB.out | apply below_alloc | apply pw_below_drewN | apply below_drew1 | refine below_set ?_ GE117.out | refine below_set ?_ GE121.out) | exact HB.out)⟩
              · rw [if_neg c17] at H
                exact absurd H (by simp)
            · rw [if_neg c16] at H
              exact absurd H (by simp)
          · replace c14 := Bool.eq_false_iff.mpr c14
            subst c14
            have H1 : (spec_l07Parse.l1 kj8 a0 x5_1 x5_1 x122000_1 x122001_1) = some (r1, r2, r3) := by rw [if_neg (show ¬ (false = true) by decide)] at H; exact H
            clear H
            have H := H1
            clear H1
            have HC22 := Aside0.mk H
            clear H
            go_upto_block 2 with (fail)
            go_cut [6] (fun v6 wc => ∃ (kq : Nat) (x6_21 : Int), v6 = .int .i64 x6_21 ∧ Aside0 (spec_l07Parse.j3 kq a0 x5_1 x6_21 x122000_1 x122001_1 = some (r1, r2, r3)) ∧ Aside0 (kq ≤ kj8) ∧ Aside0 (Kd.R k50 50 wc w.heap.size (fun _ => True) u122000 x122000_1) ∧ Aside0 (wc.heap[gb117]? = some (.cells #[(.slice none 0 0), .string x118001_1] 33 (0, 0))) ∧ Aside0 (wc.heap[gb121]? = some (.cells #[u122000, .string x122001_1] 33 (0, 0))) ∧ Aside0 (Below w.heap.size w wc))
            case first =>
              have H := HC22.out
              clear HC22
              have H' := Aside0.mk H
              clear H
              go_wp2
              go_loopg [6] kj8 (fun kq v6 w' => ∃ (x6_3 : Int), v6 = .int .i64 x6_3 ∧ Aside0 (spec_l07Parse.l1 kq a0 x5_1 x6_3 x122000_1 x122001_1 = some (r1, r2, r3)) ∧ Aside0 (kq ≤ kj8) ∧ Aside0 (Kd.R k50 50 w' w.heap.size (fun _ => True) u122000 x122000_1) ∧ Aside0 (w'.heap[gb117]? = some (.cells #[(.slice none 0 0), .string x118001_1] 33 (0, 0))) ∧ Aside0 (w'.heap[gb121]? = some (.cells #[u122000, .string x122001_1] 33 (0, 0))) ∧ Aside0 (Below w.heap.size w w'))
              case atStart => exact ⟨(x5_1), (by first | rfl | (simp; done) | (simp [nil_beq, nil_bne]; done) | (simp [*]; done) | (simp [*, nil_beq, nil_bne]; done)), H', ⟨Nat.le_refl _⟩, ⟨by (with_reducible repeat (first | apply Kd.R_alloc | apply Kd.R_drewN | apply Kd.R_drew)); exact HO_122000.out⟩, ⟨by (with_reducible repeat (first | refine blk_drewN ?_ _ | refine blk_drew ?_ | refine blk_alloc ?_ _)); exact BK117.out⟩, ⟨by (with_reducible repeat (first | refine blk_drewN ?_ _ | refine blk_drew ?_ | refine blk_alloc ?_ _)); exact BK121.out⟩, ⟨by repeat (first | (with_reducible first | exact HB.out | apply below_alloc | apply pw_below_drewN | apply below_drew1 | refine below_set ?_ GE117.out | refine below_set ?_ GE121.out) | exact HB.out)⟩⟩
              case round =>
                clear H'
                try clear c1
                try clear p2
                try clear p6
                try clear c7
                try clear c10
                try clear c10b0
                try clear c11
                try clear c11b0
                try clear c11b1
                try clear c12
                try clear c12b0
                try clear c12b1
                try clear c13
                try clear c13b0
                try clear c14
                try clear c16
                try clear c16b0
                try clear c16b1
                try clear c17
                try clear c17b0
                try clear c17b1
                try clear c18
                try clear hcz19_0
                try clear hcz19_1
                try clear hcz21_0
                try clear hcz21_1
                try clear hcz8_0
                try clear hcz8_1
                try clear hfz19_0
                try clear hfz19_1
                try clear hfz21_0
                try clear hfz21_1
                try clear hfz8_0
                try clear hfz8_1
                try clear p2
                try clear p6
                obtain ⟨x6_3, rfl, HA, HK3, HO_122000, BK117, BK121, HB⟩ := hrel
                cases gk with
                | zero => exact absurd HA.out (by simp [spec_l07Parse.l1])
                | succ k3 =>
                  have H := HA.out
                  clear HA
                  simp only [spec_l07Parse.l1] at H
                  by_cases c23 : (wrap64 (x6_3 + 1)) < (a0.size : Int)
                  · rw [if_pos c23] at H
                    have c23b0 : decide ((wrap64 (x6_3 + 1)) < (a0.size : Int)) = true := decide_eq_true c23
                    clear c23
                    (first | rw [c23b0] | rw [c23b1] | (simp only [i64_w, i32_w]; rw [c23b0]) | skip)
                    by_cases c24 : 0 ≤ x6_3
                    · rw [if_pos c24] at H
                      have c24b0 := eq_true c24
                      have c24b1 : decide (0 ≤ x6_3) = true := decide_eq_true c24
                      clear c24
                      by_cases c25 : x6_3 ≤ (wrap64 (x6_3 + 2))
                      · rw [if_pos c25] at H
                        have c25b0 := eq_true c25
                        have c25b1 : decide (x6_3 ≤ (wrap64 (x6_3 + 2))) = true := decide_eq_true c25
                        by_cases c26 : (wrap64 (x6_3 + 2)) ≤ (a0.size : Int)
                        · rw [if_pos c26] at H
                          have c26b0 := eq_true c26
                          have c26b1 : decide ((wrap64 (x6_3 + 2)) ≤ (a0.size : Int)) = true := decide_eq_true c26
                          by_cases c27 : (a0.extract (x6_3 : Int).toNat ((wrap64 (x6_3 + 2)) : Int).toNat).toList = ([13, 10] : List UInt8)
                          · rw [if_pos c27] at H
                            have c27b0 : ((a0.extract (x6_3 : Int).toNat ((wrap64 (x6_3 + 2)) : Int).toNat).toList == ([13, 10] : List UInt8)) = true := beq_iff_eq.mpr c27
                            have c27b1 : ((a0.extract (x6_3 : Int).toNat ((wrap64 (x6_3 + 2)) : Int).toNat).toList != ([13, 10] : List UInt8)) = false := bne_eq_false_iff_eq.mpr c27
                            clear c27
                            by_cases c28 : (wrap64 (x6_3 + 2)) = (a0.size : Int)
                            · rw [if_pos c28] at H
                              have c28b0 : ((wrap64 (x6_3 + 2)) == (a0.size : Int)) = true := beq_iff_eq.mpr c28
                              have c28b1 : ((wrap64 (x6_3 + 2)) != (a0.size : Int)) = false := bne_eq_false_iff_eq.mpr c28
                              clear c28
                              have H' := Aside0.mk H
                              clear H
                              go_wp2
                              go_meet
                              case rel => exact ⟨_, (x6_3), (by first | rfl | (simp; done) | (simp [nil_beq, nil_bne]; done) | (simp [*]; done) | (simp [*, nil_beq, nil_bne]; done)), H', ⟨by have := HK1.out; have := HJ8.out; have := HK3.out; first | omega | exact Nat.le_refl _⟩, ⟨by (with_reducible repeat (first | apply Kd.R_alloc | apply Kd.R_drewN | apply Kd.R_drew)); exact HO_122000.out⟩, ⟨by (with_reducible repeat (first | refine blk_drewN ?_ _ | refine blk_drew ?_ | refine blk_alloc ?_ _)); exact BK117.out⟩, ⟨by (with_reducible repeat (first | refine blk_drewN ?_ _ | refine blk_drew ?_ | refine blk_alloc ?_ _)); exact BK121.out⟩, ⟨by repeat (first | (with_reducible first | exact HB.out | apply below_alloc | apply pw_below_drewN | apply below_drew1 | refine below_set ?_ GE117.out | refine below_set ?_ GE121.out) | exact HB.out)⟩⟩
                            · rw [if_neg c28] at H
                              have c28b0 : ((wrap64 (x6_3 + 2)) == (a0.size : Int)) = false := beq_eq_false_iff_ne.mpr c28
                              have c28b1 : ((wrap64 (x6_3 + 2)) != (a0.size : Int)) = true := bne_iff_ne.mpr c28
                              obtain ⟨ji29, hji29⟩ : ∃ j_ : Int, (wrap64 (x6_3 + 2)) = j_ := ⟨_, rfl⟩
                              replace H : (if 0 ≤ (ji29) then (if (ji29) < (a0.size : Int) then (if (¬ (bt a0 (ji29)) = 32) then (spec_l07Parse.j3 k3 a0 x5_1 x6_3 x122000_1 x122001_1) else (spec_l07Parse.l1 k3 a0 x5_1 (wrap64 (x6_3 + 1)) x122000_1 x122001_1)) else (none)) else (none)) = some (r1, r2, r3) := by first | (rw [hji29] at H; exact H) | (simp only [hji29] at H ⊢; exact H)
                              (try rw [hji29] at c25b0)
                              (try rw [hji29] at c25b1)
                              (try rw [hji29] at c25)
                              (try rw [hji29] at c26b0)
                              (try rw [hji29] at c26b1)
                              (try rw [hji29] at c26)
                              (try rw [hji29] at c27b0)
                              (try rw [hji29] at c27b1)
                              (try rw [hji29] at c28b0)
                              (try rw [hji29] at c28b1)
                              have hji29w : (IntKind.i64.wrap (x6_3 + 2)) = ji29 := (i64_w _).trans hji29
                              by_cases c30 : 0 ≤ (ji29)
                              · rw [if_pos c30] at H
                                have c30b0 : decide (0 ≤ (ji29)) = true := decide_eq_true c30
                                clear c30
                                by_cases c31 : (ji29) < (a0.size : Int)
                                · rw [if_pos c31] at H
                                  have c31b0 : decide ((ji29) < (a0.size : Int)) = true := decide_eq_true c31
                                  clear c31
                                  by_cases c33 : (¬ (bt a0 (ji29)) = 32)
                                  · rw [if_pos c33] at H
                                    have c33b0 : ((bt a0 (ji29)) == 32) = false := beq_eq_false_iff_ne.mpr c33
                                    have c33b1 : ((bt a0 (ji29)) != 32) = true := bne_iff_ne.mpr c33
                                    clear c33
                                    have H' := Aside0.mk H
                                    clear H
                                    have p32 : 0 ≤ ((ji29) : Int) := of_decide_eq_true (by first | (with_reducible assumption) | assumption)
                                    have q32 : (ji29) < (a0.size : Int) := of_decide_eq_true (by first | (with_reducible assumption) | assumption)
                                    have hx32 := bt_at a0 (ji29)
                                    replace p32 := eq_true p32
                                    replace q32 := eq_true q32
                                    go_wp2
                                    go_meet
                                    case rel => exact ⟨_, (x6_3), (by first | rfl | (simp; done) | (simp [nil_beq, nil_bne]; done) | (simp [*]; done) | (simp [*, nil_beq, nil_bne]; done)), H', ⟨by have := HK1.out; have := HJ8.out; have := HK3.out; first | omega | exact Nat.le_refl _⟩, ⟨by (with_reducible repeat (first | apply Kd.R_alloc | apply Kd.R_drewN | apply Kd.R_drew)); exact HO_122000.out⟩, ⟨by (with_reducible repeat (first | refine blk_drewN ?_ _ | refine blk_drew ?_ | refine blk_alloc ?_ _)); exact BK117.out⟩, ⟨by (with_reducible repeat (first | refine blk_drewN ?_ _ | refine blk_drew ?_ | refine blk_alloc ?_ _)); exact BK121.out⟩, ⟨by repeat (first | (with_reducible first | exact HB.out | apply below_alloc | apply pw_below_drewN | apply below_drew1 | refine below_set ?_ GE117.out | refine below_set ?_ GE121.out) | exact HB.out)⟩⟩
                                  · rw [if_neg c33] at H
                                    have c33b0 : ((bt a0 (ji29)) == 32) = true := beq_iff_eq.mpr (Classical.not_not.mp c33)
                                    have c33b1 : ((bt a0 (ji29)) != 32) = false := bne_eq_false_iff_eq.mpr (Classical.not_not.mp c33)
                                    have H' := Aside0.mk H
                                    clear H
                                    have p32 : 0 ≤ ((ji29) : Int) := of_decide_eq_true (by first | (with_reducible assumption) | assumption)
                                    have q32 : (ji29) < (a0.size : Int) := of_decide_eq_true (by first | (with_reducible assumption) | assumption)
                                    have hx32 := bt_at a0 (ji29)
                                    replace p32 := eq_true p32
                                    replace q32 := eq_true q32
                                    go_wp2
                                    go_roundg k3
                                    case measure => have := HK1.out; have := HJ8.out; have := HK3.out; omega
                                    case rel => exact ⟨(wrap64 (x6_3 + 1)), (by first | rfl | (simp; done) | (simp [nil_beq, nil_bne]; done) | (simp [*]; done) | (simp [*, nil_beq, nil_bne]; done)), H', ⟨by have := HK1.out; have := HJ8.out; have := HK3.out; omega⟩, ⟨by (with_reducible repeat (first | apply Kd.R_alloc | apply Kd.R_drewN | apply Kd.R_drew)); exact HO_122000.out⟩, ⟨by (with_reducible repeat (first | refine blk_drewN ?_ _ | refine blk_drew ?_ | refine blk_alloc ?_ _)); exact BK117.out⟩, ⟨by (with_reducible repeat (first | refine blk_drewN ?_ _ | refine blk_drew ?_ | refine blk_alloc ?_ _)); exact BK121.out⟩, ⟨by repeat (first | (with_reducible first | exact HB.out | apply below_alloc | apply pw_below_drewN | apply below_drew1 | refine below_set ?_ GE117.out | refine below_set ?_ GE121.out) | exact HB.out)⟩⟩
                                · rw [if_neg c31] at H
                                  exact absurd H (by simp)
                              · rw [if_neg c30] at H
                                exact absurd H (by simp)
                          · rw [if_neg c27] at H
                            have c27b0 : ((a0.extract (x6_3 : Int).toNat ((wrap64 (x6_3 + 2)) : Int).toNat).toList == ([13, 10] : List UInt8)) = false := beq_eq_false_iff_ne.mpr c27
                            have c27b1 : ((a0.extract (x6_3 : Int).toNat ((wrap64 (x6_3 + 2)) : Int).toNat).toList != ([13, 10] : List UInt8)) = true := bne_iff_ne.mpr c27
                            have H' := Aside0.mk H
                            clear H
                            go_wp2
                            go_roundg k3
                            case measure => have := HK1.out; have := HJ8.out; have := HK3.out; omega
                            case rel => exact ⟨(wrap64 (x6_3 + 1)), (by first | rfl | (simp; done) | (simp [nil_beq, nil_bne]; done) | (simp [*]; done) | (simp [*, nil_beq, nil_bne]; done)), H', ⟨by have := HK1.out; have := HJ8.out; have := HK3.out; omega⟩, ⟨by (with_reducible repeat (first | apply Kd.R_alloc | apply Kd.R_drewN | apply Kd.R_drew)); exact HO_122000.out⟩, ⟨by (with_reducible repeat (first | refine blk_drewN ?_ _ | refine blk_drew ?_ | refine blk_alloc ?_ _)); exact BK117.out⟩, ⟨by (with_reducible repeat (first | refine blk_drewN ?_ _ | refine blk_drew ?_ | refine blk_alloc ?_ _)); exact BK121.out⟩, ⟨by repeat (first | (with_reducible first | exact HB.out | apply below_alloc | apply pw_below_drewN | apply below_drew1 | refine below_set ?_ GE117.out | refine below_set ?_ GE121.out) | exact HB.out)⟩⟩
                        · rw [if_neg c26] at H
                          exact absurd H (by simp)
                      · rw [if_neg c25] at H
                        exact absurd H (by simp)
                    · rw [if_neg c24] at H
                      exact absurd H (by simp)
                  · rw [if_neg c23] at H
                    have c23b0 : decide ((wrap64 (x6_3 + 1)) < (a0.size : Int)) = false := decide_eq_false c23
                    clear c23
                    (first | rw [c23b0] | rw [c23b1] | (simp only [i64_w, i32_w]; rw [c23b0]) | skip)
                    have H' := Aside0.mk H
                    clear H
                    go_wp2
                    go_meet
                    case rel => exact ⟨_, (x6_3), (by first | rfl | (simp; done) | (simp [nil_beq, nil_bne]; done) | (simp [*]; done) | (simp [*, nil_beq, nil_bne]; done)), H', ⟨by have := HK1.out; have := HJ8.out; have := HK3.out; first | omega | exact Nat.le_refl _⟩, ⟨by (with_reducible repeat (first | apply Kd.R_alloc | apply Kd.R_drewN | apply Kd.R_drew)); exact HO_122000.out⟩, ⟨by (with_reducible repeat (first | refine blk_drewN ?_ _ | refine blk_drew ?_ | refine blk_alloc ?_ _)); exact BK117.out⟩, ⟨by (with_reducible repeat (first | refine blk_drewN ?_ _ | refine blk_drew ?_ | refine blk_alloc ?_ _)); exact BK121.out⟩, ⟨by repeat (first | (with_reducible first | exact HB.out | apply below_alloc | apply pw_below_drewN | apply below_drew1 | refine below_set ?_ GE117.out | refine below_set ?_ GE121.out) | exact HB.out)⟩⟩
            case rest =>
              clear HC22
              try clear c1
              try clear c2
              try clear p2
              try clear c3
              try clear p3
              try clear q3
              try clear hx3
              try clear p6
              try clear c7
              try clear c10
              try clear c10b0
              try clear c11
              try clear c11b0
              try clear c11b1
              try clear c12
              try clear c12b0
              try clear c12b1
              try clear c13
              try clear c13b0
              try clear c14
              try clear c16
              try clear c16b0
              try clear c16b1
              try clear c17
              try clear c17b0
              try clear c17b1
              try clear c18
              try clear c23
              try clear c23b0
              try clear c24
              try clear c24b0
              try clear c24b1
              try clear c25
              try clear c25b0
              try clear c25b1
              try clear c26
              try clear c26b0
              try clear c26b1
              try clear c27
              try clear c27b0
              try clear c27b1
              try clear c28
              try clear c28b0
              try clear c28b1
              try clear c30
              try clear c30b0
              try clear c31
              try clear c31b0
              try clear p32
              try clear q32
              try clear hx32
              try clear c33
              try clear c33b0
              try clear c33b1
              try clear hcz19_0
              try clear hcz19_1
              try clear hcz21_0
              try clear hcz21_1
              try clear hcz8_0
              try clear hcz8_1
              try clear hfz19_0
              try clear hfz19_1
              try clear hfz21_0
              try clear hfz21_1
              try clear hfz8_0
              try clear hfz8_1
              try clear p2
              try clear p32
              try clear p6
              try clear q32
              obtain ⟨kq, x6_21, rfl, HA, HJ21, HO_122000, BK117, BK121, HB⟩ := hcut
              cases kq with
              | zero => exact absurd HA.out (by simp [spec_l07Parse.j3])
              | succ kj21 =>
                have H := HA.out
                clear HA
                simp only [spec_l07Parse.j3] at H
                by_cases c34 : (wrap64 (x6_21 + 2)) > (a0.size : Int)
                · rw [if_pos c34] at H
                  have c34b0 : decide ((a0.size : Int) < (wrap64 (x6_21 + 2))) = true := decide_eq_true c34
                  clear c34
                  simp only [Option.some.injEq, Prod.mk.injEq] at H
                  obtain ⟨rfl, rfl, rfl⟩ := H
                  have hnb35 := NB121_117.out
                  have hnc35 := NB117_121.out
                  have hcz36_0 : wc.cell? ⟨gb121, 0, none⟩ = some (u122000) := (blk_cell BK121.out 0).trans rfl
                  have hcz36_1 : wc.cell? ⟨gb121, 1, none⟩ = some (.string x122001_1) := (blk_cell BK121.out 1).trans rfl
                  have hfz36_0 := blk_frozen BK121.out 0
                  have hfz36_1 := blk_frozen BK121.out 1
                  obtain ⟨Ao37, co37, eo37⟩ := Kd.R_slice HO_122000.out
                  subst eo37
                  have hcz38_0 : wc.cell? ⟨gb117, 0, none⟩ = some (.slice none 0 0) := (blk_cell BK117.out 0).trans rfl
                  have hcz38_1 : wc.cell? ⟨gb117, 1, none⟩ = some (.string x118001_1) := (blk_cell BK117.out 1).trans rfl
                  have hfz38_0 := blk_frozen BK117.out 0
                  have hfz38_1 := blk_frozen BK117.out 1
                  go_wp2
                  refine bodyPost_ret (results_ct rfl _ _ gb117 33 #[.slice Ao37 x122000_1.length co37, .string x122001_1] (0, 0) _ rfl (by (with_reducible repeat (first | refine blk_drewN ?_ _ | refine blk_drew ?_ | refine blk_alloc ?_ _)); refine blk_put (cs := #[.slice Ao37 x122000_1.length co37, .string x118001_1]) ?_ 1 _ rfl; (with_reducible repeat (first | refine blk_drewN ?_ _ | refine blk_drew ?_ | refine blk_alloc ?_ _)); refine blk_put (cs := #[.slice none 0 0, .string x118001_1]) ?_ 0 _ rfl; (with_reducible repeat (first | refine blk_drewN ?_ _ | refine blk_drew ?_ | refine blk_alloc ?_ _)); exact BK117.out) Tryd.underlying33 rfl (by kernel_rfl)) rfl ?_
                  exact ⟨_, by first | rfl | (simp only [nil_beq, nil_bne]; rfl) | (simp [nil_beq, nil_bne]; done) | (simp [errW_none, errW_some] <;> rfl) | (simp [*, errW_none, errW_some] <;> rfl), by (with_reducible repeat (first | apply Kd.R_alloc | apply Kd.R_drewN | apply Kd.R_drew)); exact Kd.R_mono (Kd.R_far (p := ⟨gb117, 1, none⟩) (Kd.R_far (p := ⟨gb117, 0, none⟩) (Kd.R_types HO_122000.out BK117.out (by decide)) (fun _ hk => hk.2) (.slice Ao37 x122000_1.length co37)) (fun _ hk => hk.2) (.string x122001_1)) (fun _ hk => trivial), by repeat (first | (with_reducible first | exact HB.out | apply below_alloc | apply pw_below_drewN | apply below_drew1 | refine below_set ?_ GE117.out | refine below_set ?_ GE121.out) | exact HB.out)⟩
                · rw [if_neg c34] at H
                  have c34b0 : decide ((a0.size : Int) < (wrap64 (x6_21 + 2))) = false := decide_eq_false c34
                  clear c34
                  by_cases c39 : 0 ≤ x5_1
                  · rw [if_pos c39] at H
                    have c39b0 := eq_true c39
                    have c39b1 : decide (0 ≤ x5_1) = true := decide_eq_true c39
                    clear c39
                    by_cases c40 : x5_1 ≤ (wrap64 (x6_21 + 2))
                    · rw [if_pos c40] at H
                      have c40b0 := eq_true c40
                      have c40b1 : decide (x5_1 ≤ (wrap64 (x6_21 + 2))) = true := decide_eq_true c40
                      by_cases c41 : (wrap64 (x6_21 + 2)) ≤ (a0.size : Int)
                      · rw [if_pos c41] at H
                        have c41b0 := eq_true c41
                        have c41b1 : decide ((wrap64 (x6_21 + 2)) ≤ (a0.size : Int)) = true := decide_eq_true c41
                        replace H := Option.bind_eq_some_iff.mp H
                        obtain ⟨⟨t122, t123, t124⟩, A420, H⟩ := H
                        replace H : (if t124 = true then (if (x122000_1.length : Int) = 40 then (some (x122000_1, x122001_1, false)) else (if x122000_1.length < 4398046511104 then (spec_l07Parse.l0 kj21 a0 (wrap64 (x6_21 + 2)) (x122000_1 ++ [(⟨t122, t123⟩ : S50)]) x122001_1) else (none))) else (some (x122000_1, x122001_1, false))) = some (r1, r2, r3) := H
                        have A42 := Aside0.mk A420
                        clear A420
                        by_cases c43 : t124 = true
                        · subst c43
                          have H1 : (if (x122000_1.length : Int) = 40 then (some (x122000_1, x122001_1, false)) else (if x122000_1.length < 4398046511104 then (spec_l07Parse.l0 kj21 a0 (wrap64 (x6_21 + 2)) (x122000_1 ++ [(⟨t122, t123⟩ : S50)]) x122001_1) else (none))) = some (r1, r2, r3) := by rw [if_pos rfl] at H; exact H
                          clear H
                          have H := H1
                          clear H1
                          by_cases c44 : (x122000_1.length : Int) = 40
                          · rw [if_pos c44] at H
                            have c44b0 : ((x122000_1.length : Int) == 40) = true := beq_iff_eq.mpr c44
                            have c44b1 : ((x122000_1.length : Int) != 40) = false := bne_eq_false_iff_eq.mpr c44
                            clear c44
                            simp only [Option.some.injEq, Prod.mk.injEq] at H
                            obtain ⟨rfl, rfl, rfl⟩ := H
                            go_wp2_with (first | ((with_reducible refine gate_callee (f := 23) rfl ?_); refine goesL_ (some 74) rfl rfl Tryd.func23 (by kernel_rfl) rfl #[.string (a0.extract (x5_1 : Int).toNat ((wrap64 (x6_21 + 2)) : Int).toNat)] rfl (by (try simp only [List.map_toArray, List.map_cons, List.map_nil]); first | done | rfl | (simp only [List.length_drop, List.length_take]; rfl)) ?_; (with_reducible refine (spec_l03Unfold.calls kj21 (a0.extract (x5_1 : Int).toNat ((wrap64 (x6_21 + 2)) : Int).toNat) t122 t123 true _ A42.out).mono ?_); rintro e w45 ⟨rfl, hb⟩; refine ⟨_, rfl, ?_⟩; have n0_ := Aside0.mk (Kd.R_below (by (with_reducible repeat (first | apply Kd.R_alloc | apply Kd.R_drewN | apply Kd.R_drew)); exact HO_122000.out) hb); have n1_ := Aside0.mk (blk_below (g := gb117) (o := .cells #[.slice none 0 0, .string x118001_1] 33 (0, 0)) (by (with_reducible repeat (first | refine blk_drewN ?_ _ | refine blk_drew ?_ | refine blk_alloc ?_ _)); exact BK117.out) hb); have n2_ := Aside0.mk (blk_below (g := gb121) (o := .cells #[u122000, .string x122001_1] 33 (0, 0)) (by (with_reducible repeat (first | refine blk_drewN ?_ _ | refine blk_drew ?_ | refine blk_alloc ?_ _)); exact BK121.out) hb); have n3_ := Aside0.mk (below_step (by repeat (first | (with_reducible first | exact HB.out | apply below_alloc | apply pw_below_drewN | apply below_drew1 | refine below_set ?_ GE117.out | refine below_set ?_ GE121.out) | exact HB.out)) hb); clear HO_122000; clear BK117; clear BK121; clear HB; have HO_122000 := n0_; have BK117 := n1_; have BK121 := n2_; have HB := n3_; clear n0_ n1_ n2_ n3_; (try clear hb); (try clear hb2); (try clear hk); (try clear hi); have hnb46 := NB121_117.out; have hnc46 := NB117_121.out; have hcz47_0 : w45.cell? ⟨gb121, 0, none⟩ = some (u122000) := (blk_cell BK121.out 0).trans rfl; have hcz47_1 : w45.cell? ⟨gb121, 1, none⟩ = some (.string x122001_1) := (blk_cell BK121.out 1).trans rfl; have hfz47_0 := blk_frozen BK121.out 0; have hfz47_1 := blk_frozen BK121.out 1; obtain ⟨Ao48, co48, eo48⟩ := Kd.R_slice HO_122000.out; subst eo48; have hcz49_0 : w45.cell? ⟨gb117, 0, none⟩ = some (.slice none 0 0) := (blk_cell BK117.out 0).trans rfl; have hcz49_1 : w45.cell? ⟨gb117, 1, none⟩ = some (.string x118001_1) := (blk_cell BK117.out 1).trans rfl; have hfz49_0 := blk_frozen BK117.out 0; have hfz49_1 := blk_frozen BK117.out 1))
                            refine bodyPost_ret (results_ct rfl _ _ gb117 33 #[.slice Ao48 x122000_1.length co48, .string x122001_1] (0, 0) _ rfl (by (with_reducible repeat (first | refine blk_drewN ?_ _ | refine blk_drew ?_ | refine blk_alloc ?_ _)); refine blk_put (cs := #[.slice Ao48 x122000_1.length co48, .string x118001_1]) ?_ 1 _ rfl; (with_reducible repeat (first | refine blk_drewN ?_ _ | refine blk_drew ?_ | refine blk_alloc ?_ _)); refine blk_put (cs := #[.slice none 0 0, .string x118001_1]) ?_ 0 _ rfl; (with_reducible repeat (first | refine blk_drewN ?_ _ | refine blk_drew ?_ | refine blk_alloc ?_ _)); exact BK117.out) Tryd.underlying33 rfl (by kernel_rfl)) rfl ?_
                            exact ⟨_, by first | rfl | (simp only [nil_beq, nil_bne]; rfl) | (simp [nil_beq, nil_bne]; done) | (simp [errW_none, errW_some] <;> rfl) | (simp [*, errW_none, errW_some] <;> rfl), by (with_reducible repeat (first | apply Kd.R_alloc | apply Kd.R_drewN | apply Kd.R_drew)); exact Kd.R_mono (Kd.R_far (p := ⟨gb117, 1, none⟩) (Kd.R_far (p := ⟨gb117, 0, none⟩) (Kd.R_types HO_122000.out BK117.out (by decide)) (fun _ hk => hk.2) (.slice Ao48 x122000_1.length co48)) (fun _ hk => hk.2) (.string x122001_1)) (fun _ hk => trivial), by repeat (first | (with_reducible first | exact HB.out | apply below_alloc | apply pw_below_drewN | apply below_drew1 | refine below_set ?_ GE117.out | refine below_set ?_ GE121.out) | exact HB.out)⟩
                          · rw [if_neg c44] at H
                            have c44b0 : ((x122000_1.length : Int) == 40) = false := beq_eq_false_iff_ne.mpr c44
                            have c44b1 : ((x122000_1.length : Int) != 40) = true := bne_iff_ne.mpr c44
                            by_cases c50 : x122000_1.length < 4398046511104
                            · rw [if_pos c50] at H
                              have LMc50 := Aside0.mk c50
                              clear c50
                              obtain ⟨y125, hy125⟩ : ∃ y_ : List (S50), y_ = (x122000_1 ++ [(⟨t122, t123⟩ : S50)]) := ⟨_, rfl⟩
                              replace H : (spec_l07Parse.l0 kj21 a0 (wrap64 (x6_21 + 2)) y125 x122001_1) = some (r1, r2, r3) := by first | (rw [hy125]; with_reducible exact H) | (have H2_ := (Option.bind_some _ _).symm.trans H; rw [hy125]; with_reducible exact H2_) | (have H2_ := (Option.bind_some _ _).symm.trans H; with_reducible exact H2_) | with_reducible exact H | (rw [hy125]; exact H) | exact H
                              have Ny125 := Aside0.mk hy125
                              clear hy125
                              have H' := Aside0.mk H
                              clear H
                              go_wp2_with (first | ((with_reducible refine gate_callee (f := 23) rfl ?_); refine goesL_ (some 74) rfl rfl Tryd.func23 (by kernel_rfl) rfl #[.string (a0.extract (x5_1 : Int).toNat ((wrap64 (x6_21 + 2)) : Int).toNat)] rfl (by (try simp only [List.map_toArray, List.map_cons, List.map_nil]); first | done | rfl | (simp only [List.length_drop, List.length_take]; rfl)) ?_; (with_reducible refine (spec_l03Unfold.calls kj21 (a0.extract (x5_1 : Int).toNat ((wrap64 (x6_21 + 2)) : Int).toNat) t122 t123 true _ A42.out).mono ?_); rintro e w51 ⟨rfl, hb⟩; refine ⟨_, rfl, ?_⟩; have n0_ := Aside0.mk (Kd.R_below (by (with_reducible repeat (first | apply Kd.R_alloc | apply Kd.R_drewN | apply Kd.R_drew)); exact HO_122000.out) hb); have n1_ := Aside0.mk (blk_below (g := gb117) (o := .cells #[.slice none 0 0, .string x118001_1] 33 (0, 0)) (by (with_reducible repeat (first | refine blk_drewN ?_ _ | refine blk_drew ?_ | refine blk_alloc ?_ _)); exact BK117.out) hb); have n2_ := Aside0.mk (blk_below (g := gb121) (o := .cells #[u122000, .string x122001_1] 33 (0, 0)) (by (with_reducible repeat (first | refine blk_drewN ?_ _ | refine blk_drew ?_ | refine blk_alloc ?_ _)); exact BK121.out) hb); have n3_ := Aside0.mk (below_step (by repeat (first | (with_reducible first | exact HB.out | apply below_alloc | apply pw_below_drewN | apply below_drew1 | refine below_set ?_ GE117.out | refine below_set ?_ GE121.out) | exact HB.out)) hb); clear HO_122000; clear BK117; clear BK121; clear HB; have HO_122000 := n0_; have BK117 := n1_; have BK121 := n2_; have HB := n3_; clear n0_ n1_ n2_ n3_; (try clear hb); (try clear hb2); (try clear hk); (try clear hi); have hnb52 := NB121_117.out; have hnc52 := NB117_121.out; have hcz53_0 : w51.cell? ⟨gb121, 0, none⟩ = some (u122000) := (blk_cell BK121.out 0).trans rfl; have hcz53_1 : w51.cell? ⟨gb121, 1, none⟩ = some (.string x122001_1) := (blk_cell BK121.out 1).trans rfl; have hfz53_0 := blk_frozen BK121.out 0; have hfz53_1 := blk_frozen BK121.out 1; obtain ⟨Ao54, co54, eo54⟩ := Kd.R_slice HO_122000.out; subst eo54) | ((with_reducible refine gate_builtin (b := .append) (xs := #[.tmp 88, .tmp 92]) rfl ?_); (try (refine gate_guard (by rfl) ?_; dsimp only)); at_builtin; refine Kd.R_append k50 (w0 := w) w.heap.size rfl (.tmp 88) (.tmp 92) 31 50 (.agg #[(.string ⟨#[]⟩), (.string ⟨#[]⟩)]) 32 rfl Tryd.underlying31 info50 rfl (by decide) (by omega) (.slice Ao54 x122000_1.length co54) x122000_1 (⟨t122, t123⟩ : S50) [.string t122, .string t123] (fun _ => True) (fun _ => False) rfl rfl ?aP (fun _ hk => hk.elim) ?aF ?aO ?aB ?aS ?aL ?_; (case aP => exact k50_mkM _ _ _ (⟨t122, t123⟩ : S50)); (case aB => exact (by repeat (first | (with_reducible first | exact HB.out | apply below_alloc | apply pw_below_drewN | apply below_drew1 | refine below_set ?_ GE117.out | refine below_set ?_ GE121.out) | exact HB.out))); (case aF => exact (fun _ _ => trivial)); (case aO => exact (by (with_reducible repeat (first | apply Kd.R_alloc | apply Kd.R_drewN | apply Kd.R_drew)); exact HO_122000.out)); (case aS => exact (below_size (by repeat (first | (with_reducible first | exact HB.out | apply below_alloc | apply pw_below_drewN | apply below_drew1 | refine below_set ?_ GE117.out | refine below_set ?_ GE121.out) | exact HB.out)))); (case aL => have := LMc50.out; omega); intro v126 w55 ho hb hg hat; rw [← Ny125.out] at ho; have n0_ := Aside0.mk (blk_grown (g := gb117) (o := .cells #[.slice none 0 0, .string x118001_1] 33 (0, 0)) (by (with_reducible repeat (first | refine blk_drewN ?_ _ | refine blk_drew ?_ | refine blk_alloc ?_ _)); exact BK117.out) hg (Kd.R_ne HO_122000.out BK117.out (by decide))); have n1_ := Aside0.mk (blk_grown (g := gb121) (o := .cells #[.slice Ao54 x122000_1.length co54, .string x122001_1] 33 (0, 0)) (by (with_reducible repeat (first | refine blk_drewN ?_ _ | refine blk_drew ?_ | refine blk_alloc ?_ _)); exact BK121.out) hg (Kd.R_ne HO_122000.out BK121.out (by decide))); have n2_ := Aside0.mk (hb); have n3_ := Aside0.mk (ho); clear BK117; clear BK121; clear HB; clear HO_122000; have BK117 := n0_; have BK121 := n1_; have HB := n2_; have HO127 := n3_; clear n0_ n1_ n2_ n3_; clear ho hb hg hat; obtain ⟨Ao56, co56, eo56⟩ := Kd.R_slice HO127.out; subst eo56; have hcz57_0 : w55.cell? ⟨gb121, 0, none⟩ = some (.slice Ao54 x122000_1.length co54) := (blk_cell BK121.out 0).trans rfl; have hcz57_1 : w55.cell? ⟨gb121, 1, none⟩ = some (.string x122001_1) := (blk_cell BK121.out 1).trans rfl; have hfz57_0 := blk_frozen BK121.out 0; have hfz57_1 := blk_frozen BK121.out 1))
                              go_roundg kj21
                              case measure => have := HK1.out; have := HJ8.out; have := HJ21.out; omega
                              case rel => exact ⟨(wrap64 (x6_21 + 2)), (x118001_1), (y125), (x122001_1), (.slice Ao56 y125.length co56), (by first | rfl | (simp; done) | (simp [nil_beq, nil_bne]; done) | (simp [*]; done) | (simp [*, nil_beq, nil_bne]; done)), H', ⟨by have := HK1.out; have := HJ8.out; have := HJ21.out; omega⟩, ⟨by (with_reducible repeat (first | apply Kd.R_alloc | apply Kd.R_drewN | apply Kd.R_drew)); exact Kd.R_mono (Kd.R_far (p := ⟨gb121, 0, none⟩) (Kd.R_types HO127.out BK121.out (by decide)) (fun _ hk => hk.2) (.slice Ao56 y125.length co56)) (fun _ hk => trivial)⟩, ⟨by (with_reducible repeat (first | refine blk_drewN ?_ _ | refine blk_drew ?_ | refine blk_alloc ?_ _)); refine blk_far ?_ NB117_121.out _; (with_reducible repeat (first | refine blk_drewN ?_ _ | refine blk_drew ?_ | refine blk_alloc ?_ _)); exact BK117.out⟩, ⟨by (with_reducible repeat (first | refine blk_drewN ?_ _ | refine blk_drew ?_ | refine blk_alloc ?_ _)); refine blk_put (cs := #[.slice Ao54 x122000_1.length co54, .string x122001_1]) ?_ 0 _ rfl; (with_reducible repeat (first | refine blk_drewN ?_ _ | refine blk_drew ?_ | refine blk_alloc ?_ _)); exact BK121.out⟩, ⟨by repeat (first | (with_reducible first | exact HB.out | apply below_alloc | apply pw_below_drewN | apply below_drew1 | refine below_set ?_ GE117.out | refine below_set ?_ GE121.out) | exact HB.out)⟩⟩
                            · rw [if_neg c50] at H
                              exact absurd H (by simp)
                        · replace c43 := Bool.eq_false_iff.mpr c43
                          subst c43
                          have H1 : (some (x122000_1, x122001_1, false)) = some (r1, r2, r3) := by rw [if_neg (show ¬ (false = true) by decide)] at H; exact H
                          clear H
                          have H := H1
                          clear H1
                          simp only [Option.some.injEq, Prod.mk.injEq] at H
                          obtain ⟨rfl, rfl, rfl⟩ := H
                          go_wp2_with (first | ((with_reducible refine gate_callee (f := 23) rfl ?_); refine goesL_ (some 74) rfl rfl Tryd.func23 (by kernel_rfl) rfl #[.string (a0.extract (x5_1 : Int).toNat ((wrap64 (x6_21 + 2)) : Int).toNat)] rfl (by (try simp only [List.map_toArray, List.map_cons, List.map_nil]); first | done | rfl | (simp only [List.length_drop, List.length_take]; rfl)) ?_; (with_reducible refine (spec_l03Unfold.calls kj21 (a0.extract (x5_1 : Int).toNat ((wrap64 (x6_21 + 2)) : Int).toNat) t122 t123 false _ A42.out).mono ?_); rintro e w58 ⟨rfl, hb⟩; refine ⟨_, rfl, ?_⟩; have n0_ := Aside0.mk (Kd.R_below (by (with_reducible repeat (first | apply Kd.R_alloc | apply Kd.R_drewN | apply Kd.R_drew)); exact HO_122000.out) hb); have n1_ := Aside0.mk (blk_below (g := gb117) (o := .cells #[.slice none 0 0, .string x118001_1] 33 (0, 0)) (by (with_reducible repeat (first | refine blk_drewN ?_ _ | refine blk_drew ?_ | refine blk_alloc ?_ _)); exact BK117.out) hb); have n2_ := Aside0.mk (blk_below (g := gb121) (o := .cells #[u122000, .string x122001_1] 33 (0, 0)) (by (with_reducible repeat (first | refine blk_drewN ?_ _ | refine blk_drew ?_ | refine blk_alloc ?_ _)); exact BK121.out) hb); have n3_ := Aside0.mk (below_step (by repeat (first | (with_reducible first | exact HB.out | apply below_alloc | apply pw_below_drewN | apply below_drew1 | refine below_set ?_ GE117.out | refine below_set ?_ GE121.out) | exact HB.out)) hb); clear HO_122000; clear BK117; clear BK121; clear HB; have HO_122000 := n0_; have BK117 := n1_; have BK121 := n2_; have HB := n3_; clear n0_ n1_ n2_ n3_; (try clear hb); (try clear hb2); (try clear hk); (try clear hi); have hnb59 := NB121_117.out; have hnc59 := NB117_121.out; have hcz60_0 : w58.cell? ⟨gb121, 0, none⟩ = some (u122000) := (blk_cell BK121.out 0).trans rfl; have hcz60_1 : w58.cell? ⟨gb121, 1, none⟩ = some (.string x122001_1) := (blk_cell BK121.out 1).trans rfl; have hfz60_0 := blk_frozen BK121.out 0; have hfz60_1 := blk_frozen BK121.out 1; obtain ⟨Ao61, co61, eo61⟩ := Kd.R_slice HO_122000.out; subst eo61; have hcz62_0 : w58.cell? ⟨gb117, 0, none⟩ = some (.slice none 0 0) := (blk_cell BK117.out 0).trans rfl; have hcz62_1 : w58.cell? ⟨gb117, 1, none⟩ = some (.string x118001_1) := (blk_cell BK117.out 1).trans rfl; have hfz62_0 := blk_frozen BK117.out 0; have hfz62_1 := blk_frozen BK117.out 1))
                          refine bodyPost_ret (results_ct rfl _ _ gb117 33 #[.slice Ao61 x122000_1.length co61, .string x122001_1] (0, 0) _ rfl (by (with_reducible repeat (first | refine blk_drewN ?_ _ | refine blk_drew ?_ | refine blk_alloc ?_ _)); refine blk_put (cs := #[.slice Ao61 x122000_1.length co61, .string x118001_1]) ?_ 1 _ rfl; (with_reducible repeat (first | refine blk_drewN ?_ _ | refine blk_drew ?_ | refine blk_alloc ?_ _)); refine blk_put (cs := #[.slice none 0 0, .string x118001_1]) ?_ 0 _ rfl; (with_reducible repeat (first | refine blk_drewN ?_ _ | refine blk_drew ?_ | refine blk_alloc ?_ _)); exact BK117.out) Tryd.underlying33 rfl (by kernel_rfl)) rfl ?_
                          exact ⟨_, by first | rfl | (simp only [nil_beq, nil_bne]; rfl) | (simp [nil_beq, nil_bne]; done) | (simp [errW_none, errW_some] <;> rfl) | (simp [*, errW_none, errW_some] <;> rfl), by (with_reducible repeat (first | apply Kd.R_alloc | apply Kd.R_drewN | apply Kd.R_drew)); exact Kd.R_mono (Kd.R_far (p := ⟨gb117, 1, none⟩) (Kd.R_far (p := ⟨gb117, 0, none⟩) (Kd.R_types HO_122000.out BK117.out (by decide)) (fun _ hk => hk.2) (.slice Ao61 x122000_1.length co61)) (fun _ hk => hk.2) (.string x122001_1)) (fun _ hk => trivial), by repeat (first | (with_reducible first | exact HB.out | apply below_alloc | apply pw_below_drewN | apply below_drew1 | refine below_set ?_ GE117.out | refine below_set ?_ GE121.out) | exact HB.out)⟩
                      · rw [if_neg c41] at H
                        exact absurd H (by simp)
                    · rw [if_neg c40] at H
                      exact absurd H (by simp)
                  · rw [if_neg c39] at H
                    exact absurd H (by simp)

end Go.Proofs.YtifkmkiljpeaaabDoor.PFnExactOverLine
