/- Contracts of the functions that a statement reaches: written for this seat by wip/x/xprint.py over the kit's print, with own contracts for what the print lacks. -/
import Derived.Test.YtnphhnhnmohfiaaDoorPFnExactReadLinex0
import Derived.Test.YtnphhnhnmohfiaaDoorPFnExactReadLinex1
import Derived.Test.YtnphhnhnmohfiaaDoorPFnExactReadLinex2
namespace Go.Proofs.YtnphhnhnmohfiaaDoor.PFnExactReadLine
open Go.RowKit Go.Proofs.YtnphhnhnmohfiaaDoorW.PrintWords Go.Proofs.YtnphhnhnmohfiaaDoorW.PrintLast Go.Proofs.YtnphhnhnmohfiaaDoorW.PrintMore
attribute [local go_sem] max2_int min2_int max_two min_two max_three min_three max_four min_four   -- for this text's walks alone
set_option linter.unusedVariables false
set_option linter.unusedSimpArgs false

/-! ### spec_l16Read: function 76 -/
mutual
def spec_l16Read.j0 : Nat → ByteArray → List ByteArray → Int → Bool → Option (Int × Int × Int × ByteArray × ByteArray × Bool)
  | 0, _, _, _, _ => none
  | k + 1, x0, x1, x6, x7 => if 0 < (x1.length : Int) then (if (rdOf ByteArray.empty x1 0).toList = ([109, 97, 107, 101] : List UInt8) then (spec_l16Read.j1 k x0 x1 x6 x7 ((x1.length : Int) == 2)) else (spec_l16Read.j1 k x0 x1 x6 x7 false)) else (none)
def spec_l16Read.j1 : Nat → ByteArray → List ByteArray → Int → Bool → Bool → Option (Int × Int × Int × ByteArray × ByteArray × Bool)
  | 0, _, _, _, _, _ => none
  | k + 1, x0, x1, x6, x7, x18 => if x18 = true then (if 1 < (x1.length : Int) then (some (6, 0, 0, rdOf ByteArray.empty x1 1, (⟨#[]⟩ : ByteArray), true)) else (none)) else (if 0 < (x1.length : Int) then (if (rdOf ByteArray.empty x1 0).toList = ([112, 111, 108, 108] : List UInt8) then (spec_l16Read.j2 k x0 x1 x6 x7 (decide ((x1.length : Int) > 2))) else (spec_l16Read.j2 k x0 x1 x6 x7 false)) else (none))
def spec_l16Read.j2 : Nat → ByteArray → List ByteArray → Int → Bool → Bool → Option (Int × Int × Int × ByteArray × ByteArray × Bool)
  | 0, _, _, _, _, _ => none
  | k + 1, x0, x1, x6, x7, x32 => if x32 = true then (if 1 < (x1.length : Int) then ((spec_l16Rest.f k x0 2).bind fun t115 => (some (5, 0, 0, rdOf ByteArray.empty x1 1, t115, true))) else (none)) else (if 0 < (x1.length : Int) then (if (rdOf ByteArray.empty x1 0).toList = ([105, 109, 97, 112] : List UInt8) then (if (x1.length : Int) = 2 then (spec_l16Read.j3 k x0 x1 x6 x7 x7) else (spec_l16Read.j3 k x0 x1 x6 x7 false)) else (spec_l16Read.j3 k x0 x1 x6 x7 false)) else (none))
def spec_l16Read.j3 : Nat → ByteArray → List ByteArray → Int → Bool → Bool → Option (Int × Int × Int × ByteArray × ByteArray × Bool)
  | 0, _, _, _, _, _ => none
  | k + 1, x0, x1, x6, x7, x48 => if x48 = true then (some (1, x6, 0, (⟨#[]⟩ : ByteArray), (⟨#[]⟩ : ByteArray), true)) else (if 0 < (x1.length : Int) then (if (rdOf ByteArray.empty x1 0).toList = ([110, 110, 116, 112] : List UInt8) then (if (x1.length : Int) = 2 then (spec_l16Read.j4 k x0 x1 x6 x7 x7) else (spec_l16Read.j4 k x0 x1 x6 x7 false)) else (spec_l16Read.j4 k x0 x1 x6 x7 false)) else (none))
def spec_l16Read.j4 : Nat → ByteArray → List ByteArray → Int → Bool → Bool → Option (Int × Int × Int × ByteArray × ByteArray × Bool)
  | 0, _, _, _, _, _ => none
  | k + 1, x0, x1, x6, x7, x63 => if x63 = true then (some (2, x6, 0, (⟨#[]⟩ : ByteArray), (⟨#[]⟩ : ByteArray), true)) else (if 0 < (x1.length : Int) then (if (rdOf ByteArray.empty x1 0).toList = ([99, 108, 111, 115, 101] : List UInt8) then (if (x1.length : Int) = 2 then (spec_l16Read.j5 k x0 x1 x6 x7 x7) else (spec_l16Read.j5 k x0 x1 x6 x7 false)) else (spec_l16Read.j5 k x0 x1 x6 x7 false)) else (none))
def spec_l16Read.j5 : Nat → ByteArray → List ByteArray → Int → Bool → Bool → Option (Int × Int × Int × ByteArray × ByteArray × Bool)
  | 0, _, _, _, _, _ => none
  | k + 1, x0, x1, x6, x7, x78 => if x78 = true then (some (4, x6, 0, (⟨#[]⟩ : ByteArray), (⟨#[]⟩ : ByteArray), true)) else (if 0 < (x1.length : Int) then (if (rdOf ByteArray.empty x1 0).toList = ([115, 97, 121] : List UInt8) then (if (x1.length : Int) > 1 then (spec_l16Read.j6 k x0 x1 x6 x7) else (spec_l16Read.j6 k x0 x1 x6 false)) else (spec_l16Read.j6 k x0 x1 x6 false)) else (none))
def spec_l16Read.j6 : Nat → ByteArray → List ByteArray → Int → Bool → Option (Int × Int × Int × ByteArray × ByteArray × Bool)
  | 0, _, _, _, _ => none
  | k + 1, x0, x1, x6, x93 => if x93 = true then ((spec_l16Rest.f k x0 2).bind fun t120 => (if t120.size + 2 ≤ 9223372036854775807 then (some (3, x6, 0, (⟨#[]⟩ : ByteArray), t120 ++ (⟨#[13, 10]⟩ : ByteArray), true)) else (none))) else (if 0 < (x1.length : Int) then (if (rdOf ByteArray.empty x1 0).toList = ([99, 114, 97, 115, 104] : List UInt8) then (if (x1.length : Int) = 1 then (some (7, 0, 0, (⟨#[]⟩ : ByteArray), (⟨#[]⟩ : ByteArray), true)) else (some (0, 0, 0, (⟨#[]⟩ : ByteArray), (⟨#[]⟩ : ByteArray), false))) else (some (0, 0, 0, (⟨#[]⟩ : ByteArray), (⟨#[]⟩ : ByteArray), false))) else (none))
end
def spec_l16Read.f (k : Nat) (a0 : ByteArray) (l1 : List ByteArray) : Option (Int × Int × Int × ByteArray × ByteArray × Bool) := if (l1.length : Int) > 1 then (if 1 < (l1.length : Int) then ((spec_l00Number.f k (rdOf ByteArray.empty l1 1)).bind fun bt109 => (spec_l16Read.j0 k a0 l1 bt109.1 bt109.2)) else (none)) else (spec_l16Read.j0 k a0 l1 0 false)
theorem spec_l16Read.mono_l : ∀ k, (∀ y0 y1 y2 y3, LeO (spec_l16Read.j0 k y0 y1 y2 y3) (spec_l16Read.j0 (k + 1) y0 y1 y2 y3)) ∧ (∀ y0 y1 y2 y3 y4, LeO (spec_l16Read.j1 k y0 y1 y2 y3 y4) (spec_l16Read.j1 (k + 1) y0 y1 y2 y3 y4)) ∧ (∀ y0 y1 y2 y3 y4, LeO (spec_l16Read.j2 k y0 y1 y2 y3 y4) (spec_l16Read.j2 (k + 1) y0 y1 y2 y3 y4)) ∧ (∀ y0 y1 y2 y3 y4, LeO (spec_l16Read.j3 k y0 y1 y2 y3 y4) (spec_l16Read.j3 (k + 1) y0 y1 y2 y3 y4)) ∧ (∀ y0 y1 y2 y3 y4, LeO (spec_l16Read.j4 k y0 y1 y2 y3 y4) (spec_l16Read.j4 (k + 1) y0 y1 y2 y3 y4)) ∧ (∀ y0 y1 y2 y3 y4, LeO (spec_l16Read.j5 k y0 y1 y2 y3 y4) (spec_l16Read.j5 (k + 1) y0 y1 y2 y3 y4)) ∧ (∀ y0 y1 y2 y3, LeO (spec_l16Read.j6 k y0 y1 y2 y3) (spec_l16Read.j6 (k + 1) y0 y1 y2 y3))
  | 0 => ⟨fun _ _ _ _ r h => by simp [spec_l16Read.j0] at h, fun _ _ _ _ _ r h => by simp [spec_l16Read.j1] at h, fun _ _ _ _ _ r h => by simp [spec_l16Read.j2] at h, fun _ _ _ _ _ r h => by simp [spec_l16Read.j3] at h, fun _ _ _ _ _ r h => by simp [spec_l16Read.j4] at h, fun _ _ _ _ _ r h => by simp [spec_l16Read.j5] at h, fun _ _ _ _ r h => by simp [spec_l16Read.j6] at h⟩
  | k + 1 => by
    obtain ⟨ih0, ih1, ih2, ih3, ih4, ih5, ih6⟩ := spec_l16Read.mono_l k
    refine ⟨?_, ?_, ?_, ?_, ?_, ?_, ?_⟩
    · intro y0 y1 y2 y3
      unfold spec_l16Read.j0
      repeat' first
      | (with_reducible exact ih0 _ _ _ _)
      | (with_reducible exact ih1 _ _ _ _ _)
      | (with_reducible exact ih2 _ _ _ _ _)
      | (with_reducible exact ih3 _ _ _ _ _)
      | (with_reducible exact ih4 _ _ _ _ _)
      | (with_reducible exact ih5 _ _ _ _ _)
      | (with_reducible exact ih6 _ _ _ _)
      | (with_reducible exact spec_l00Number.mono _ _)
      | (with_reducible exact spec_l16Rest.mono _ _ _)
      | (with_reducible exact LeO.refl _)
      | (with_reducible exact LeO.none _)
      | (with_reducible refine LeO.ite ?_ ?_)
      | (with_reducible refine LeO.bind ?_ (fun _ => ?_))
      | exact ih0 _ _ _ _
      | exact ih1 _ _ _ _ _
      | exact ih2 _ _ _ _ _
      | exact ih3 _ _ _ _ _
      | exact ih4 _ _ _ _ _
      | exact ih5 _ _ _ _ _
      | exact ih6 _ _ _ _
      | exact spec_l00Number.mono _ _
      | exact spec_l16Rest.mono _ _ _
      | exact LeO.none _
      | refine LeO.ite ?_ ?_
      | refine LeO.bind ?_ (fun _ => ?_)
    · intro y0 y1 y2 y3 y4
      unfold spec_l16Read.j1
      repeat' first
      | (with_reducible exact ih0 _ _ _ _)
      | (with_reducible exact ih1 _ _ _ _ _)
      | (with_reducible exact ih2 _ _ _ _ _)
      | (with_reducible exact ih3 _ _ _ _ _)
      | (with_reducible exact ih4 _ _ _ _ _)
      | (with_reducible exact ih5 _ _ _ _ _)
      | (with_reducible exact ih6 _ _ _ _)
      | (with_reducible exact spec_l00Number.mono _ _)
      | (with_reducible exact spec_l16Rest.mono _ _ _)
      | (with_reducible exact LeO.refl _)
      | (with_reducible exact LeO.none _)
      | (with_reducible refine LeO.ite ?_ ?_)
      | (with_reducible refine LeO.bind ?_ (fun _ => ?_))
      | exact ih0 _ _ _ _
      | exact ih1 _ _ _ _ _
      | exact ih2 _ _ _ _ _
      | exact ih3 _ _ _ _ _
      | exact ih4 _ _ _ _ _
      | exact ih5 _ _ _ _ _
      | exact ih6 _ _ _ _
      | exact spec_l00Number.mono _ _
      | exact spec_l16Rest.mono _ _ _
      | exact LeO.none _
      | refine LeO.ite ?_ ?_
      | refine LeO.bind ?_ (fun _ => ?_)
    · intro y0 y1 y2 y3 y4
      unfold spec_l16Read.j2
      repeat' first
      | (with_reducible exact ih0 _ _ _ _)
      | (with_reducible exact ih1 _ _ _ _ _)
      | (with_reducible exact ih2 _ _ _ _ _)
      | (with_reducible exact ih3 _ _ _ _ _)
      | (with_reducible exact ih4 _ _ _ _ _)
      | (with_reducible exact ih5 _ _ _ _ _)
      | (with_reducible exact ih6 _ _ _ _)
      | (with_reducible exact spec_l00Number.mono _ _)
      | (with_reducible exact spec_l16Rest.mono _ _ _)
      | (with_reducible exact LeO.refl _)
      | (with_reducible exact LeO.none _)
      | (with_reducible refine LeO.ite ?_ ?_)
      | (with_reducible refine LeO.bind ?_ (fun _ => ?_))
      | exact ih0 _ _ _ _
      | exact ih1 _ _ _ _ _
      | exact ih2 _ _ _ _ _
      | exact ih3 _ _ _ _ _
      | exact ih4 _ _ _ _ _
      | exact ih5 _ _ _ _ _
      | exact ih6 _ _ _ _
      | exact spec_l00Number.mono _ _
      | exact spec_l16Rest.mono _ _ _
      | exact LeO.none _
      | refine LeO.ite ?_ ?_
      | refine LeO.bind ?_ (fun _ => ?_)
    · intro y0 y1 y2 y3 y4
      unfold spec_l16Read.j3
      repeat' first
      | (with_reducible exact ih0 _ _ _ _)
      | (with_reducible exact ih1 _ _ _ _ _)
      | (with_reducible exact ih2 _ _ _ _ _)
      | (with_reducible exact ih3 _ _ _ _ _)
      | (with_reducible exact ih4 _ _ _ _ _)
      | (with_reducible exact ih5 _ _ _ _ _)
      | (with_reducible exact ih6 _ _ _ _)
      | (with_reducible exact spec_l00Number.mono _ _)
      | (with_reducible exact spec_l16Rest.mono _ _ _)
      | (with_reducible exact LeO.refl _)
      | (with_reducible exact LeO.none _)
      | (with_reducible refine LeO.ite ?_ ?_)
      | (with_reducible refine LeO.bind ?_ (fun _ => ?_))
      | exact ih0 _ _ _ _
      | exact ih1 _ _ _ _ _
      | exact ih2 _ _ _ _ _
      | exact ih3 _ _ _ _ _
      | exact ih4 _ _ _ _ _
      | exact ih5 _ _ _ _ _
      | exact ih6 _ _ _ _
      | exact spec_l00Number.mono _ _
      | exact spec_l16Rest.mono _ _ _
      | exact LeO.none _
      | refine LeO.ite ?_ ?_
      | refine LeO.bind ?_ (fun _ => ?_)
    · intro y0 y1 y2 y3 y4
      unfold spec_l16Read.j4
      repeat' first
      | (with_reducible exact ih0 _ _ _ _)
      | (with_reducible exact ih1 _ _ _ _ _)
      | (with_reducible exact ih2 _ _ _ _ _)
      | (with_reducible exact ih3 _ _ _ _ _)
      | (with_reducible exact ih4 _ _ _ _ _)
      | (with_reducible exact ih5 _ _ _ _ _)
      | (with_reducible exact ih6 _ _ _ _)
      | (with_reducible exact spec_l00Number.mono _ _)
      | (with_reducible exact spec_l16Rest.mono _ _ _)
      | (with_reducible exact LeO.refl _)
      | (with_reducible exact LeO.none _)
      | (with_reducible refine LeO.ite ?_ ?_)
      | (with_reducible refine LeO.bind ?_ (fun _ => ?_))
      | exact ih0 _ _ _ _
      | exact ih1 _ _ _ _ _
      | exact ih2 _ _ _ _ _
      | exact ih3 _ _ _ _ _
      | exact ih4 _ _ _ _ _
      | exact ih5 _ _ _ _ _
      | exact ih6 _ _ _ _
      | exact spec_l00Number.mono _ _
      | exact spec_l16Rest.mono _ _ _
      | exact LeO.none _
      | refine LeO.ite ?_ ?_
      | refine LeO.bind ?_ (fun _ => ?_)
    · intro y0 y1 y2 y3 y4
      unfold spec_l16Read.j5
      repeat' first
      | (with_reducible exact ih0 _ _ _ _)
      | (with_reducible exact ih1 _ _ _ _ _)
      | (with_reducible exact ih2 _ _ _ _ _)
      | (with_reducible exact ih3 _ _ _ _ _)
      | (with_reducible exact ih4 _ _ _ _ _)
      | (with_reducible exact ih5 _ _ _ _ _)
      | (with_reducible exact ih6 _ _ _ _)
      | (with_reducible exact spec_l00Number.mono _ _)
      | (with_reducible exact spec_l16Rest.mono _ _ _)
      | (with_reducible exact LeO.refl _)
      | (with_reducible exact LeO.none _)
      | (with_reducible refine LeO.ite ?_ ?_)
      | (with_reducible refine LeO.bind ?_ (fun _ => ?_))
      | exact ih0 _ _ _ _
      | exact ih1 _ _ _ _ _
      | exact ih2 _ _ _ _ _
      | exact ih3 _ _ _ _ _
      | exact ih4 _ _ _ _ _
      | exact ih5 _ _ _ _ _
      | exact ih6 _ _ _ _
      | exact spec_l00Number.mono _ _
      | exact spec_l16Rest.mono _ _ _
      | exact LeO.none _
      | refine LeO.ite ?_ ?_
      | refine LeO.bind ?_ (fun _ => ?_)
    · intro y0 y1 y2 y3
      unfold spec_l16Read.j6
      repeat' first
      | (with_reducible exact ih0 _ _ _ _)
      | (with_reducible exact ih1 _ _ _ _ _)
      | (with_reducible exact ih2 _ _ _ _ _)
      | (with_reducible exact ih3 _ _ _ _ _)
      | (with_reducible exact ih4 _ _ _ _ _)
      | (with_reducible exact ih5 _ _ _ _ _)
      | (with_reducible exact ih6 _ _ _ _)
      | (with_reducible exact spec_l00Number.mono _ _)
      | (with_reducible exact spec_l16Rest.mono _ _ _)
      | (with_reducible exact LeO.refl _)
      | (with_reducible exact LeO.none _)
      | (with_reducible refine LeO.ite ?_ ?_)
      | (with_reducible refine LeO.bind ?_ (fun _ => ?_))
      | exact ih0 _ _ _ _
      | exact ih1 _ _ _ _ _
      | exact ih2 _ _ _ _ _
      | exact ih3 _ _ _ _ _
      | exact ih4 _ _ _ _ _
      | exact ih5 _ _ _ _ _
      | exact ih6 _ _ _ _
      | exact spec_l00Number.mono _ _
      | exact spec_l16Rest.mono _ _ _
      | exact LeO.none _
      | refine LeO.ite ?_ ?_
      | refine LeO.bind ?_ (fun _ => ?_)
theorem spec_l16Read.mono : ∀ a0 a1 k, LeO (spec_l16Read.f k a0 a1) (spec_l16Read.f (k + 1) a0 a1) := by
  intro a0 a1 k
  obtain ⟨ih0, ih1, ih2, ih3, ih4, ih5, ih6⟩ := spec_l16Read.mono_l k
  unfold spec_l16Read.f
  repeat' first
      | (with_reducible exact ih0 _ _ _ _)
      | (with_reducible exact ih1 _ _ _ _ _)
      | (with_reducible exact ih2 _ _ _ _ _)
      | (with_reducible exact ih3 _ _ _ _ _)
      | (with_reducible exact ih4 _ _ _ _ _)
      | (with_reducible exact ih5 _ _ _ _ _)
      | (with_reducible exact ih6 _ _ _ _)
      | (with_reducible exact spec_l00Number.mono _ _)
      | (with_reducible exact spec_l16Rest.mono _ _ _)
      | (with_reducible exact LeO.refl _)
      | (with_reducible exact LeO.none _)
      | (with_reducible refine LeO.ite ?_ ?_)
      | (with_reducible refine LeO.bind ?_ (fun _ => ?_))
      | exact ih0 _ _ _ _
      | exact ih1 _ _ _ _ _
      | exact ih2 _ _ _ _ _
      | exact ih3 _ _ _ _ _
      | exact ih4 _ _ _ _ _
      | exact ih5 _ _ _ _ _
      | exact ih6 _ _ _ _
      | exact spec_l00Number.mono _ _
      | exact spec_l16Rest.mono _ _ _
      | exact LeO.none _
      | refine LeO.ite ?_ ?_
      | refine LeO.bind ?_ (fun _ => ?_)
def spec_l16Read.T8 : Bool × List (List Nat × List Nat) := (true, [([], []), ([0], [0]), ([1], [1]), ([], []), ([3], [3]), ([2, 4], [2, 4]), ([5, 4, 0, 1, 2, 3, 4, 5], [5]), ([6, 0, 1, 2, 3, 4, 5, 6], [])])
def spec_l16Read.B8 : List Nat := [0, 1, 3, 0, 8, 31, 63, 127]
theorem spec_l16Read.tab8 : rtab .any (opsOf Tryd.f76 8) = spec_l16Read.T8 := by kernel_rfl
theorem spec_l16Read.bits8 : waitsOk spec_l16Read.T8.2 spec_l16Read.B8 = true := by kernel_rfl
set_option maxHeartbeats 40000000 in
set_option maxRecDepth 100000 in
theorem spec_l16Read.calls (k : Nat) (a0 : ByteArray) (A1 : Option Addr) (c1 : Nat) (l1 : List ByteArray) (r1 : Int) (r2 : Int) (r3 : Int) (r4 : ByteArray) (r5 : ByteArray) (r6 : Bool) (w : World) (hr1 : Kd.C Kd.string w A1 l1.length l1) (hc1 : l1.length ≤ c1) (h : spec_l16Read.f k a0 l1 = some (r1, r2, r3, r4, r5, r6)) :
    Calls Tryd.prog 76 #[.string a0, .slice A1 l1.length c1] w fun e w' => e = .returned (.tuple #[.agg #[.int .i64 r1, .int .i64 r2, .int .i64 r3, .string r4, .string r5], .bool r6]) ∧ Below w.heap.size w w' := by
  have hu59 := Tryd.underlying59
  have HR1 := Aside0.mk hr1
  have HC1 := Aside0.mk hc1
  clear hr1 hc1
  have HB := Aside0.mk (Below.refl w.heap.size w)
  have H : (if (l1.length : Int) > 1 then (if 1 < (l1.length : Int) then ((spec_l00Number.f k (rdOf ByteArray.empty l1 1)).bind fun bt109 => (spec_l16Read.j0 k a0 l1 bt109.1 bt109.2)) else (none)) else (spec_l16Read.j0 k a0 l1 0 false)) = some (r1, r2, r3, r4, r5, r6) := h
  clear h
  have HC3 := Aside0.mk H
  clear H
  go_enter Tryd.func76, Tryd.ntmps76
  go_upto_if 10 with (first | ((with_reducible refine gate_dst (N := 4) rfl ?_); (try (refine gate_guard (by rfl) ?_; dsimp only)); refine box_event ?hg (N := 4) ?hd (cs := #[.int .i64 0, .int .i64 0, .int .i64 0, .string (⟨#[]⟩ : ByteArray), .string (⟨#[]⟩ : ByteArray)]) (t := 59) ?hr ?_; (case hd => rfl); (case hg => rfl); (case hr => first | (go_simp; done) | (go_simp; rfl)); intro gb107 hg w4 hbox hb; have n0_ := Aside0.mk (below_step (by repeat (first | (with_reducible first | exact HB.out | apply below_alloc | apply pw_below_drewN | apply below_drew1) | exact HB.out)) hb); have n1_ := Aside0.mk (hbox); have n2_ := Aside0.mk ((by rw [hg]; exact (below_size (by repeat (first | (with_reducible first | exact HB.out | apply below_alloc | apply pw_below_drewN | apply below_drew1) | exact HB.out))) : w.heap.size ≤ gb107)); have n3_ := Aside0.mk ((by rw [hg]; exact (below_size (by repeat (first | (with_reducible first | exact HB.out | apply below_alloc | apply pw_below_drewN | apply below_drew1) | exact HB.out))) : w.heap.size ≤ gb107)); clear HB; have HB := n0_; have BK107 := n1_; have GW107 := n2_; have GE107 := n3_; clear n0_ n1_ n2_ n3_; clear hb hbox hg))
  (try simp only [Act.put, List.setIfInBounds_toArray, List.set_cons_zero, List.set_cons_succ])
  go_cut [6, 7] (fun v6 v7 wc => ∃ (kq : Nat) (x6_2 : Int) (x7_2 : Bool), v6 = .int .i64 x6_2 ∧ v7 = .bool x7_2 ∧ Aside0 (spec_l16Read.j0 kq a0 l1 x6_2 x7_2 = some (r1, r2, r3, r4, r5, r6)) ∧ Aside0 (kq ≤ k) ∧ Aside0 (wc.heap[gb107]? = some (.cells #[.int .i64 0, .int .i64 0, .int .i64 0, .string (⟨#[]⟩ : ByteArray), .string (⟨#[]⟩ : ByteArray)] 59 (0, 0))) ∧ Aside0 (Below w.heap.size w wc))
  case first =>
    have H := HC3.out
    clear HC3
    by_cases c5 : (l1.length : Int) > 1
    · rw [if_pos c5] at H
      have c5b0 : decide (1 < (l1.length : Int)) = true := decide_eq_true c5
      have c5b1 : decide (1 < l1.length) = true := decide_eq_true (by omega)
      clear c5
      (first | rw [c5b0] | (simp only [i64_w, i32_w]; rw [c5b0]) | skip)
      by_cases c6 : 1 < (l1.length : Int)
      · rw [if_pos c6] at H
        have c6b0 : decide (1 < (l1.length : Int)) = true := decide_eq_true c6
        have c6b1 : decide (1 < l1.length) = true := decide_eq_true (by omega)
        clear c6
        replace H := Option.bind_eq_some_iff.mp H
        obtain ⟨⟨t109, t110⟩, A70, H⟩ := H
        replace H : (spec_l16Read.j0 k a0 l1 t109 t110) = some (r1, r2, r3, r4, r5, r6) := H
        have A7 := Aside0.mk A70
        clear A70
        have H' := Aside0.mk H
        clear H
        have p108 : 0 ≤ (1 : Int) := (by omega)
        have q108 : 1 < (l1.length : Int) := of_decide_eq_true (by first | (with_reducible assumption) | assumption)
        obtain ⟨ad108, e108, hx108_0⟩ := Kd.at_string HR1.out 1 p108 q108
        cases e108
        (try simp only [show (1 : Int).toNat = 1 from rfl, Nat.reduceMul, Nat.reduceEqDiff, Go.Addr.add, ↓reduceIte] at hx108_0)
        have qi108 : (1 < l1.length) = True := eq_true (by omega)
        (try rw [show ((1 : Int)).toNat = 1 from rfl] at hx108_0)
        replace hx108_0 := (HB.out.cell (World.block_lt_of_cell? w _ hx108_0)).trans hx108_0
        replace p108 := eq_true p108
        replace q108 := eq_true q108
        go_wp2_with (first | ((with_reducible refine gate_callee (f := 120) rfl ?_); refine goesL_ (some 15) rfl rfl Tryd.func120 (by kernel_rfl) rfl #[.string (rdOf ByteArray.empty l1 1)] rfl (by (try simp only [List.map_toArray, List.map_cons, List.map_nil]); first | done | rfl | (simp only [List.length_drop, List.length_take]; rfl)) ?_; (with_reducible refine (spec_l00Number.calls k (rdOf ByteArray.empty l1 1) t109 t110 _ A7.out).mono ?_); rintro e w' ⟨rfl, ⟨nd, rfl⟩⟩; refine ⟨_, rfl, ?_⟩))
        go_meet
        case rel => exact ⟨_, (t109), (t110), (by first | rfl | (simp; done) | (simp [nil_beq, nil_bne]; done) | (simp [*]; done) | (simp [*, nil_beq, nil_bne]; done)), (by first | rfl | (simp; done) | (simp [nil_beq, nil_bne]; done) | (simp [*]; done) | (simp [*, nil_beq, nil_bne]; done)), H', ⟨by first | omega | exact Nat.le_refl _⟩, ⟨by (with_reducible repeat (first | refine blk_drewN ?_ _ | refine blk_drew ?_ | refine blk_alloc ?_ _)); exact BK107.out⟩, ⟨by repeat (first | (with_reducible first | exact HB.out | apply below_alloc | apply pw_below_drewN | apply below_drew1 | refine below_set ?_ GE107.out) | exact HB.out)⟩⟩
      · rw [if_neg c6] at H
        exact absurd H (by simp)
    · rw [if_neg c5] at H
      have c5b0 : decide (1 < (l1.length : Int)) = false := decide_eq_false c5
      have c5b1 : decide (1 < l1.length) = false := decide_eq_false (by omega)
      clear c5
      (first | rw [c5b0] | (simp only [i64_w, i32_w]; rw [c5b0]) | skip)
      have H' := Aside0.mk H
      clear H
      go_wp2
      go_meet
      case rel => exact ⟨_, (0), (false), (by first | rfl | (simp; done) | (simp [nil_beq, nil_bne]; done) | (simp [*]; done) | (simp [*, nil_beq, nil_bne]; done)), (by first | rfl | (simp; done) | (simp [nil_beq, nil_bne]; done) | (simp [*]; done) | (simp [*, nil_beq, nil_bne]; done)), H', ⟨by first | omega | exact Nat.le_refl _⟩, ⟨by (with_reducible repeat (first | refine blk_drewN ?_ _ | refine blk_drew ?_ | refine blk_alloc ?_ _)); exact BK107.out⟩, ⟨by repeat (first | (with_reducible first | exact HB.out | apply below_alloc | apply pw_below_drewN | apply below_drew1 | refine below_set ?_ GE107.out) | exact HB.out)⟩⟩
  case rest =>
    clear HC3
    try clear c1
    try clear p1
    try clear q1
    try clear hx1
    try clear qi1
    try clear p2
    try clear c5
    try clear c5b0
    try clear c5b1
    try clear c6
    try clear c6b0
    try clear c6b1
    try clear c7
    try clear hx108_0
    try clear p108
    try clear q108
    obtain ⟨kq, x6_2, x7_2, rfl, rfl, HA, HJ2, BK107, HB⟩ := hcut
    cases kq with
    | zero => exact absurd HA.out (by simp [spec_l16Read.j0])
    | succ kj2 =>
      have H := HA.out
      clear HA
      simp only [spec_l16Read.j0] at H
      have HC8 := Aside0.mk H
      clear H
      go_upto_region 5 with (fail)
      go_cut [18] (fun v18 wc => ∃ (kq : Nat) (x18_7 : Bool), v18 = .bool x18_7 ∧ Aside0 (spec_l16Read.j1 kq a0 l1 x6_2 x7_2 x18_7 = some (r1, r2, r3, r4, r5, r6)) ∧ Aside0 (kq ≤ kj2) ∧ Aside0 (wc.heap[gb107]? = some (.cells #[.int .i64 0, .int .i64 0, .int .i64 0, .string (⟨#[]⟩ : ByteArray), .string (⟨#[]⟩ : ByteArray)] 59 (0, 0))) ∧ Aside0 (Below w.heap.size w wc))
      case first =>
        have H := HC8.out
        clear HC8
        by_cases c9 : 0 < (l1.length : Int)
        · rw [if_pos c9] at H
          have c9b0 : decide (0 < (l1.length : Int)) = true := decide_eq_true c9
          have c9b1 : decide (0 < l1.length) = true := decide_eq_true (by omega)
          clear c9
          (first | rw [c9b0] | (simp only [i64_w, i32_w]; rw [c9b0]) | skip)
          by_cases c10 : (rdOf ByteArray.empty l1 0).toList = ([109, 97, 107, 101] : List UInt8)
          · rw [if_pos c10] at H
            have c10b0 : ((rdOf ByteArray.empty l1 0).toList == ([109, 97, 107, 101] : List UInt8)) = true := beq_iff_eq.mpr c10
            have c10b1 : ((rdOf ByteArray.empty l1 0).toList != ([109, 97, 107, 101] : List UInt8)) = false := bne_eq_false_iff_eq.mpr c10
            clear c10
            have H' := Aside0.mk H
            clear H
            have p111 : 0 ≤ (0 : Int) := (by omega)
            have q111 : 0 < (l1.length : Int) := of_decide_eq_true (by first | (with_reducible assumption) | assumption)
            obtain ⟨ad111, e111, hx111_0⟩ := Kd.at_string HR1.out 0 p111 q111
            cases e111
            have qi111 : (0 < l1.length) = True := eq_true (by omega)
            (try rw [show ((0 : Int)).toNat = 0 from rfl] at hx111_0)
            (try rw [Addr.add_zero'] at hx111_0)
            replace hx111_0 := (HB.out.cell (World.block_lt_of_cell? w _ hx111_0)).trans hx111_0
            replace p111 := eq_true p111
            replace q111 := eq_true q111
            go_wp2
            go_meet
            case rel => exact ⟨_, (((l1.length : Int) == 2)), (by first | rfl | (simp; done) | (simp [nil_beq, nil_bne]; done) | (simp [*]; done) | (simp [*, nil_beq, nil_bne]; done)), H', ⟨by have := HJ2.out; first | omega | exact Nat.le_refl _⟩, ⟨by (with_reducible repeat (first | refine blk_drewN ?_ _ | refine blk_drew ?_ | refine blk_alloc ?_ _)); exact BK107.out⟩, ⟨by repeat (first | (with_reducible first | exact HB.out | apply below_alloc | apply pw_below_drewN | apply below_drew1 | refine below_set ?_ GE107.out) | exact HB.out)⟩⟩
          · rw [if_neg c10] at H
            have c10b0 : ((rdOf ByteArray.empty l1 0).toList == ([109, 97, 107, 101] : List UInt8)) = false := beq_eq_false_iff_ne.mpr c10
            have c10b1 : ((rdOf ByteArray.empty l1 0).toList != ([109, 97, 107, 101] : List UInt8)) = true := bne_iff_ne.mpr c10
            have H' := Aside0.mk H
            clear H
            have p111 : 0 ≤ (0 : Int) := (by omega)
            have q111 : 0 < (l1.length : Int) := of_decide_eq_true (by first | (with_reducible assumption) | assumption)
            obtain ⟨ad111, e111, hx111_0⟩ := Kd.at_string HR1.out 0 p111 q111
            cases e111
            have qi111 : (0 < l1.length) = True := eq_true (by omega)
            (try rw [show ((0 : Int)).toNat = 0 from rfl] at hx111_0)
            (try rw [Addr.add_zero'] at hx111_0)
            replace hx111_0 := (HB.out.cell (World.block_lt_of_cell? w _ hx111_0)).trans hx111_0
            replace p111 := eq_true p111
            replace q111 := eq_true q111
            go_wp2
            go_meet
            case rel => exact ⟨_, (false), (by first | rfl | (simp; done) | (simp [nil_beq, nil_bne]; done) | (simp [*]; done) | (simp [*, nil_beq, nil_bne]; done)), H', ⟨by have := HJ2.out; first | omega | exact Nat.le_refl _⟩, ⟨by (with_reducible repeat (first | refine blk_drewN ?_ _ | refine blk_drew ?_ | refine blk_alloc ?_ _)); exact BK107.out⟩, ⟨by repeat (first | (with_reducible first | exact HB.out | apply below_alloc | apply pw_below_drewN | apply below_drew1 | refine below_set ?_ GE107.out) | exact HB.out)⟩⟩
        · rw [if_neg c9] at H
          exact absurd H (by simp)
      case rest =>
        clear HC8
        try clear c1
        try clear p1
        try clear q1
        try clear hx1
        try clear qi1
        try clear p2
        try clear c5
        try clear c5b0
        try clear c5b1
        try clear c6
        try clear c6b0
        try clear c6b1
        try clear c7
        try clear c9
        try clear c9b0
        try clear c9b1
        try clear c10
        try clear c10b0
        try clear c10b1
        try clear p10
        try clear q10
        try clear hx10
        try clear qi10
        try clear hx108_0
        try clear hx111_0
        try clear p1
        try clear p108
        try clear p111
        try clear p2
        try clear q1
        try clear q108
        try clear q111
        obtain ⟨kq, x18_7, rfl, HA, HJ7, BK107, HB⟩ := hcut
        cases kq with
        | zero => exact absurd HA.out (by simp [spec_l16Read.j1])
        | succ kj7 =>
          have H := HA.out
          clear HA
          simp only [spec_l16Read.j1] at H
          by_cases c11 : x18_7 = true
          · subst c11
            have H1 : (if 1 < (l1.length : Int) then (some (6, 0, 0, rdOf ByteArray.empty l1 1, (⟨#[]⟩ : ByteArray), true)) else (none)) = some (r1, r2, r3, r4, r5, r6) := by rw [if_pos rfl] at H; exact H
            clear H
            have H := H1
            clear H1
            by_cases c12 : 1 < (l1.length : Int)
            · rw [if_pos c12] at H
              have c12b0 : decide (1 < (l1.length : Int)) = true := decide_eq_true c12
              have c12b1 : decide (1 < l1.length) = true := decide_eq_true (by omega)
              clear c12
              simp only [Option.some.injEq, Prod.mk.injEq] at H
              obtain ⟨rfl, rfl, rfl, rfl, rfl, rfl⟩ := H
              have p112 : 0 ≤ (1 : Int) := (by omega)
              have q112 : 1 < (l1.length : Int) := of_decide_eq_true (by first | (with_reducible assumption) | assumption)
              obtain ⟨ad112, e112, hx112_0⟩ := Kd.at_string HR1.out 1 p112 q112
              cases e112
              (try simp only [show (1 : Int).toNat = 1 from rfl, Nat.reduceMul, Nat.reduceEqDiff, Go.Addr.add, ↓reduceIte] at hx112_0)
              have qi112 : (1 < l1.length) = True := eq_true (by omega)
              (try rw [show ((1 : Int)).toNat = 1 from rfl] at hx112_0)
              replace hx112_0 := (HB.out.cell (World.block_lt_of_cell? w _ hx112_0)).trans hx112_0
              replace p112 := eq_true p112
              replace q112 := eq_true q112
              have hcz13_0 : wc.cell? ⟨gb107, 0, none⟩ = some (.int .i64 0) := (blk_cell BK107.out 0).trans rfl
              have hcz13_1 : wc.cell? ⟨gb107, 1, none⟩ = some (.int .i64 0) := (blk_cell BK107.out 1).trans rfl
              have hcz13_2 : wc.cell? ⟨gb107, 2, none⟩ = some (.int .i64 0) := (blk_cell BK107.out 2).trans rfl
              have hcz13_3 : wc.cell? ⟨gb107, 3, none⟩ = some (.string (⟨#[]⟩ : ByteArray)) := (blk_cell BK107.out 3).trans rfl
              have hcz13_4 : wc.cell? ⟨gb107, 4, none⟩ = some (.string (⟨#[]⟩ : ByteArray)) := (blk_cell BK107.out 4).trans rfl
              have hfz13_0 := blk_frozen BK107.out 0
              have hfz13_1 := blk_frozen BK107.out 1
              have hfz13_2 := blk_frozen BK107.out 2
              have hfz13_3 := blk_frozen BK107.out 3
              have hfz13_4 := blk_frozen BK107.out 4
              go_wp2
              refine bodyPost_ret (results_ct rfl _ _ gb107 59 #[.int .i64 6, .int .i64 0, .int .i64 0, .string (rdOf ByteArray.empty l1 1), .string (⟨#[]⟩ : ByteArray)] (0, 0) _ rfl (by (with_reducible repeat (first | refine blk_drewN ?_ _ | refine blk_drew ?_ | refine blk_alloc ?_ _)); refine blk_put (cs := #[.int .i64 6, .int .i64 0, .int .i64 0, .string (rdOf ByteArray.empty l1 1), .string (⟨#[]⟩ : ByteArray)]) ?_ 4 _ rfl; (with_reducible repeat (first | refine blk_drewN ?_ _ | refine blk_drew ?_ | refine blk_alloc ?_ _)); refine blk_put (cs := #[.int .i64 6, .int .i64 0, .int .i64 0, .string (⟨#[]⟩ : ByteArray), .string (⟨#[]⟩ : ByteArray)]) ?_ 3 _ rfl; (with_reducible repeat (first | refine blk_drewN ?_ _ | refine blk_drew ?_ | refine blk_alloc ?_ _)); refine blk_put (cs := #[.int .i64 6, .int .i64 0, .int .i64 0, .string (⟨#[]⟩ : ByteArray), .string (⟨#[]⟩ : ByteArray)]) ?_ 2 _ rfl; (with_reducible repeat (first | refine blk_drewN ?_ _ | refine blk_drew ?_ | refine blk_alloc ?_ _)); refine blk_put (cs := #[.int .i64 6, .int .i64 0, .int .i64 0, .string (⟨#[]⟩ : ByteArray), .string (⟨#[]⟩ : ByteArray)]) ?_ 1 _ rfl; (with_reducible repeat (first | refine blk_drewN ?_ _ | refine blk_drew ?_ | refine blk_alloc ?_ _)); refine blk_put (cs := #[.int .i64 0, .int .i64 0, .int .i64 0, .string (⟨#[]⟩ : ByteArray), .string (⟨#[]⟩ : ByteArray)]) ?_ 0 _ rfl; (with_reducible repeat (first | refine blk_drewN ?_ _ | refine blk_drew ?_ | refine blk_alloc ?_ _)); exact BK107.out) Tryd.underlying59 rfl (by kernel_rfl)) rfl ?_
              exact ⟨by first | rfl | (simp only [nil_beq, nil_bne]; rfl) | (simp [nil_beq, nil_bne]; done) | (simp [errW_none, errW_some] <;> rfl) | (simp [*, errW_none, errW_some] <;> rfl), by repeat (first | (with_reducible first | exact HB.out | apply below_alloc | apply pw_below_drewN | apply below_drew1 | refine below_set ?_ GE107.out) | exact HB.out)⟩
            · rw [if_neg c12] at H
              exact absurd H (by simp)
          · replace c11 := Bool.eq_false_iff.mpr c11
            subst c11
            have H1 : (if 0 < (l1.length : Int) then (if (rdOf ByteArray.empty l1 0).toList = ([112, 111, 108, 108] : List UInt8) then (spec_l16Read.j2 kj7 a0 l1 x6_2 x7_2 (decide ((l1.length : Int) > 2))) else (spec_l16Read.j2 kj7 a0 l1 x6_2 x7_2 false)) else (none)) = some (r1, r2, r3, r4, r5, r6) := by rw [if_neg (show ¬ (false = true) by decide)] at H; exact H
            clear H
            have H := H1
            clear H1
            have HC14 := Aside0.mk H
            clear H
            go_upto_region 7 with (fail)
            go_cut [32] (fun v32 wc => ∃ (kq : Nat) (x32_13 : Bool), v32 = .bool x32_13 ∧ Aside0 (spec_l16Read.j2 kq a0 l1 x6_2 x7_2 x32_13 = some (r1, r2, r3, r4, r5, r6)) ∧ Aside0 (kq ≤ kj7) ∧ Aside0 (wc.heap[gb107]? = some (.cells #[.int .i64 0, .int .i64 0, .int .i64 0, .string (⟨#[]⟩ : ByteArray), .string (⟨#[]⟩ : ByteArray)] 59 (0, 0))) ∧ Aside0 (Below w.heap.size w wc))
            case first =>
              have H := HC14.out
              clear HC14
              by_cases c15 : 0 < (l1.length : Int)
              · rw [if_pos c15] at H
                have c15b0 : decide (0 < (l1.length : Int)) = true := decide_eq_true c15
                have c15b1 : decide (0 < l1.length) = true := decide_eq_true (by omega)
                clear c15
                (first | rw [c15b0] | (simp only [i64_w, i32_w]; rw [c15b0]) | skip)
                by_cases c16 : (rdOf ByteArray.empty l1 0).toList = ([112, 111, 108, 108] : List UInt8)
                · rw [if_pos c16] at H
                  have c16b0 : ((rdOf ByteArray.empty l1 0).toList == ([112, 111, 108, 108] : List UInt8)) = true := beq_iff_eq.mpr c16
                  have c16b1 : ((rdOf ByteArray.empty l1 0).toList != ([112, 111, 108, 108] : List UInt8)) = false := bne_eq_false_iff_eq.mpr c16
                  clear c16
                  have H' := Aside0.mk H
                  clear H
                  have p113 : 0 ≤ (0 : Int) := (by omega)
                  have q113 : 0 < (l1.length : Int) := of_decide_eq_true (by first | (with_reducible assumption) | assumption)
                  obtain ⟨ad113, e113, hx113_0⟩ := Kd.at_string HR1.out 0 p113 q113
                  cases e113
                  have qi113 : (0 < l1.length) = True := eq_true (by omega)
                  (try rw [show ((0 : Int)).toNat = 0 from rfl] at hx113_0)
                  (try rw [Addr.add_zero'] at hx113_0)
                  replace hx113_0 := (HB.out.cell (World.block_lt_of_cell? w _ hx113_0)).trans hx113_0
                  replace p113 := eq_true p113
                  replace q113 := eq_true q113
                  go_wp2
                  go_meet
                  case rel => exact ⟨_, (decide ((l1.length : Int) > 2)), (by first | rfl | (simp; done) | (simp [nil_beq, nil_bne]; done) | (simp [*]; done) | (simp [*, nil_beq, nil_bne]; done)), H', ⟨by have := HJ2.out; have := HJ7.out; first | omega | exact Nat.le_refl _⟩, ⟨by (with_reducible repeat (first | refine blk_drewN ?_ _ | refine blk_drew ?_ | refine blk_alloc ?_ _)); exact BK107.out⟩, ⟨by repeat (first | (with_reducible first | exact HB.out | apply below_alloc | apply pw_below_drewN | apply below_drew1 | refine below_set ?_ GE107.out) | exact HB.out)⟩⟩
                · rw [if_neg c16] at H
                  have c16b0 : ((rdOf ByteArray.empty l1 0).toList == ([112, 111, 108, 108] : List UInt8)) = false := beq_eq_false_iff_ne.mpr c16
                  have c16b1 : ((rdOf ByteArray.empty l1 0).toList != ([112, 111, 108, 108] : List UInt8)) = true := bne_iff_ne.mpr c16
                  have H' := Aside0.mk H
                  clear H
                  have p113 : 0 ≤ (0 : Int) := (by omega)
                  have q113 : 0 < (l1.length : Int) := of_decide_eq_true (by first | (with_reducible assumption) | assumption)
                  obtain ⟨ad113, e113, hx113_0⟩ := Kd.at_string HR1.out 0 p113 q113
                  cases e113
                  have qi113 : (0 < l1.length) = True := eq_true (by omega)
                  (try rw [show ((0 : Int)).toNat = 0 from rfl] at hx113_0)
                  (try rw [Addr.add_zero'] at hx113_0)
                  replace hx113_0 := (HB.out.cell (World.block_lt_of_cell? w _ hx113_0)).trans hx113_0
                  replace p113 := eq_true p113
                  replace q113 := eq_true q113
                  go_wp2
                  go_meet
                  case rel => exact ⟨_, (false), (by first | rfl | (simp; done) | (simp [nil_beq, nil_bne]; done) | (simp [*]; done) | (simp [*, nil_beq, nil_bne]; done)), H', ⟨by have := HJ2.out; have := HJ7.out; first | omega | exact Nat.le_refl _⟩, ⟨by (with_reducible repeat (first | refine blk_drewN ?_ _ | refine blk_drew ?_ | refine blk_alloc ?_ _)); exact BK107.out⟩, ⟨by repeat (first | (with_reducible first | exact HB.out | apply below_alloc | apply pw_below_drewN | apply below_drew1 | refine below_set ?_ GE107.out) | exact HB.out)⟩⟩
              · rw [if_neg c15] at H
                exact absurd H (by simp)
            case rest =>
              clear HC14
              try clear c1
              try clear p1
              try clear q1
              try clear hx1
              try clear qi1
              try clear p2
              try clear c5
              try clear c5b0
              try clear c5b1
              try clear c6
              try clear c6b0
              try clear c6b1
              try clear c7
              try clear c9
              try clear c9b0
              try clear c9b1
              try clear c10
              try clear c10b0
              try clear c10b1
              try clear p10
              try clear q10
              try clear hx10
              try clear qi10
              try clear c11
              try clear p11
              try clear q11
              try clear hx11
              try clear qi11
              try clear c12
              try clear c12b0
              try clear c12b1
              try clear c15
              try clear c15b0
              try clear c15b1
              try clear c16
              try clear c16b0
              try clear c16b1
              try clear hcz13_0
              try clear hcz13_1
              try clear hcz13_2
              try clear hcz13_3
              try clear hcz13_4
              try clear hfz13_0
              try clear hfz13_1
              try clear hfz13_2
              try clear hfz13_3
              try clear hfz13_4
              try clear hx108_0
              try clear hx111_0
              try clear hx112_0
              try clear hx113_0
              try clear p1
              try clear p10
              try clear p108
              try clear p111
              try clear p112
              try clear p113
              try clear p2
              try clear q1
              try clear q10
              try clear q108
              try clear q111
              try clear q112
              try clear q113
              obtain ⟨kq, x32_13, rfl, HA, HJ13, BK107, HB⟩ := hcut
              cases kq with
              | zero => exact absurd HA.out (by simp [spec_l16Read.j2])
              | succ kj13 =>
                have H := HA.out
                clear HA
                simp only [spec_l16Read.j2] at H
                by_cases c17 : x32_13 = true
                · subst c17
                  have H1 : (if 1 < (l1.length : Int) then ((spec_l16Rest.f kj13 a0 2).bind fun t115 => (some (5, 0, 0, rdOf ByteArray.empty l1 1, t115, true))) else (none)) = some (r1, r2, r3, r4, r5, r6) := by rw [if_pos rfl] at H; exact H
                  clear H
                  have H := H1
                  clear H1
                  by_cases c18 : 1 < (l1.length : Int)
                  · rw [if_pos c18] at H
                    have c18b0 : decide (1 < (l1.length : Int)) = true := decide_eq_true c18
                    have c18b1 : decide (1 < l1.length) = true := decide_eq_true (by omega)
                    clear c18
                    replace H := Option.bind_eq_some_iff.mp H
                    obtain ⟨t115, A190, H⟩ := H
                    replace H : (some (5, 0, 0, rdOf ByteArray.empty l1 1, t115, true)) = some (r1, r2, r3, r4, r5, r6) := H
                    have A19 := Aside0.mk A190
                    clear A190
                    simp only [Option.some.injEq, Prod.mk.injEq] at H
                    obtain ⟨rfl, rfl, rfl, rfl, rfl, rfl⟩ := H
                    try go_wp2
                    have n0_ := Aside0.mk (blk_drew BK107.out)
                    have n1_ := Aside0.mk (below_drew1 HB.out)
                    clear BK107
                    clear HB
                    have BK107 := n0_
                    have HB := n1_
                    clear n0_ n1_
                    have p114 : 0 ≤ (1 : Int) := (by omega)
                    have q114 : 1 < (l1.length : Int) := of_decide_eq_true (by first | (with_reducible assumption) | assumption)
                    obtain ⟨ad114, e114, hx114_0⟩ := Kd.at_string HR1.out 1 p114 q114
                    have hw114_0 := hx114_0
                    (try rw [show ((1 : Int)).toNat = 1 from rfl] at hw114_0)
                    (try rw [show 1 * 1 = 1 from rfl] at hw114_0)
                    (try simp only [Nat.reduceMul, Nat.reduceEqDiff, Go.Addr.add, ↓reduceIte] at hw114_0)
                    cases e114
                    (try simp only [show (1 : Int).toNat = 1 from rfl, Nat.reduceMul, Nat.reduceEqDiff, Go.Addr.add, ↓reduceIte] at hx114_0)
                    have qi114 : (1 < l1.length) = True := eq_true (by omega)
                    (try rw [show ((1 : Int)).toNat = 1 from rfl] at hx114_0)
                    replace hx114_0 := (HB.out.cell (World.block_lt_of_cell? w _ hx114_0)).trans hx114_0
                    replace p114 := eq_true p114
                    replace q114 := eq_true q114
                    refine start_ (n := 8) (S := fun w' => w'.cell? ⟨ad114.block, ad114.off + 1, none⟩ = some (.string (rdOf ByteArray.empty l1 1))) (ds := []) #[false, false, false, false, false, false, false, false] (by kernel_rfl) rfl rfl (((HB.out.cell (World.block_lt_of_cell? w _ hw114_0)).trans hw114_0)) (fun hHeld => ?_); refine with_tabW spec_l16Read.tab8 spec_l16Read.bits8 (fun HT_ HW_ => ?_)
                    generalize wc.drew = w20 at BK107 HB hx114_0 hHeld ⊢
                    refine pure_ (i := 0) (N := some 42) (v := ?_) (a' := ?_) #[true, false, false, false, false, false, false, false] rfl rfl (any_of HT_.out (by kernel_rfl)) (fun _ _ _ h => h) (Or.inl ⟨by rfl, ?_⟩) ?_ ?_
                    rotate_left
                    · intro w'
                      go_simp
                      with_reducible rfl
                    rotate_left
                    · simp only [Act.put, List.setIfInBounds_toArray, List.set_cons_zero, List.set_cons_succ, i64_w, i32_w]
                      rfl
                    refine pure_ (i := 1) (N := some 43) (v := ?_) (a' := ?_) #[true, true, false, false, false, false, false, false] rfl rfl (any_of HT_.out (by kernel_rfl)) (fun _ _ _ h => h) (Or.inl ⟨by rfl, ?_⟩) ?_ ?_
                    rotate_left
                    · intro w'
                      go_simp
                      with_reducible rfl
                    rotate_left
                    · simp only [Act.put, List.setIfInBounds_toArray, List.set_cons_zero, List.set_cons_succ, i64_w, i32_w]
                      rfl
                    refine pure_ (i := 3) (N := some 45) (v := ?_) (a' := ?_) #[true, true, false, true, false, false, false, false] rfl rfl (any_of HT_.out (by kernel_rfl)) (fun _ _ _ h => h) (Or.inl ⟨by rfl, ?_⟩) ?_ ?_
                    rotate_left
                    · intro w'
                      go_simp
                      with_reducible rfl
                    rotate_left
                    · simp only [Act.put, List.setIfInBounds_toArray, List.set_cons_zero, List.set_cons_succ, i64_w, i32_w]
                      rfl
                    refine take_ (i := 2) (N := some 44) (v := ?_) (a' := ?_) #[true, true, true, true, false, false, false, false] rfl rfl (take_ofW HT_.out HW_.out (by kernel_rfl)) (fun _ _ _ h => h) (Or.inl ⟨by rfl, ?_⟩) hHeld ?_ ?_
                    rotate_left
                    · intro w' s0
                      go_simp
                      with_reducible rfl
                    rotate_left
                    · simp only [Act.put, List.setIfInBounds_toArray, List.set_cons_zero, List.set_cons_succ, i64_w, i32_w]
                      rfl
                    refine one_ (i := 4) (N := some 46) #[true, true, true, true, true, false, false, false] rfl rfl (one_of HT_.out (by kernel_rfl)) (by decide) (fun K hK => ?_)
                    refine goes_ Tryd.func121 (by kernel_rfl) rfl #[.string a0, .int .i64 2] (by rfl) rfl rfl (by (try simp only [List.map_toArray, List.map_cons, List.map_nil]); first | done | rfl | (simp only [List.length_drop, List.length_take]; rfl)) ?_
                    with_reducible refine (spec_l16Rest.calls kj13 a0 2 t115 _ A19.out).mono ?_
                    rintro e w' ⟨rfl, ⟨nd, rfl⟩⟩
                    refine ⟨_, rfl, ?_⟩
                    refine hK.out _ _ (((HB.out.cell (World.block_lt_of_cell? w _ hw114_0)).trans hw114_0)) (fun hHeld => ?_)
                    clear hK K
                    refine norm_ (a' := ?_) ?_ ?_
                    rotate_left
                    · show Act.put _ (some 46) _ = _
                      simp only [Act.put, List.setIfInBounds_toArray, List.set_cons_zero, List.set_cons_succ, i64_w, i32_w]
                      rfl
                    refine pure_ (i := 5) (N := some 47) (v := ?_) (a' := ?_) #[true, true, true, true, true, true, false, false] rfl rfl (any_of HT_.out (by kernel_rfl)) (fun _ _ _ h => h) (Or.inl ⟨by rfl, ?_⟩) ?_ ?_
                    rotate_left
                    · intro w'
                      go_simp
                      with_reducible rfl
                    rotate_left
                    · simp only [Act.put, List.setIfInBounds_toArray, List.set_cons_zero, List.set_cons_succ, i64_w, i32_w]
                      rfl
                    refine one_ (i := 6) (N := none) #[true, true, true, true, true, true, true, false] rfl rfl (one_of HT_.out (by kernel_rfl)) (by decide) (fun K hK => ?_)
                    have hs21 : w20.cell? ⟨gb107, 0, none⟩ = some (.int .i64 0) := (blk_cell BK107.out 0).trans rfl
                    have hfs21 := blk_frozen BK107.out 0
                    have hs22 : w20.cell? ⟨gb107, 1, none⟩ = some (.int .i64 0) := (blk_cell BK107.out 1).trans rfl
                    have hfs22 := blk_frozen BK107.out 1
                    have hs23 : w20.cell? ⟨gb107, 2, none⟩ = some (.int .i64 0) := (blk_cell BK107.out 2).trans rfl
                    have hfs23 := blk_frozen BK107.out 2
                    have hs24 : w20.cell? ⟨gb107, 3, none⟩ = some (.string (⟨#[]⟩ : ByteArray)) := (blk_cell BK107.out 3).trans rfl
                    have hfs24 := blk_frozen BK107.out 3
                    have hs25 : w20.cell? ⟨gb107, 4, none⟩ = some (.string (⟨#[]⟩ : ByteArray)) := (blk_cell BK107.out 4).trans rfl
                    have hfs25 := blk_frozen BK107.out 4
                    refine skip_ (w1 := ?_) (by rfl) rfl ?_ ?_
                    rotate_left
                    · go_simp
                      rfl
                    refine hK.out _ _ (((cell_far (p := ⟨gb107, _, none⟩) (by first | exact Nat.ne_of_lt (Nat.lt_of_lt_of_le (by have := World.block_lt_of_cell? _ _ hw114_0; first | rwa [add_block] at this | exact this) GW107.out) | (rw [add_block]; exact Nat.ne_of_lt (Nat.lt_of_lt_of_le (by have := World.block_lt_of_cell? _ _ hw114_0; first | rwa [add_block] at this | exact this) GW107.out)) | (show (Addr.add _ _).block ≠ _; rw [add_block]; exact Nat.ne_of_lt (Nat.lt_of_lt_of_le (by have := World.block_lt_of_cell? _ _ hw114_0; first | rwa [add_block] at this | exact this) GW107.out)) | (dsimp only; exact Nat.ne_of_lt (Nat.lt_of_lt_of_le (by have := World.block_lt_of_cell? _ _ hw114_0; first | rwa [add_block] at this | exact this) GW107.out))) _).trans (((cell_far (p := ⟨gb107, _, none⟩) (by first | exact Nat.ne_of_lt (Nat.lt_of_lt_of_le (by have := World.block_lt_of_cell? _ _ hw114_0; first | rwa [add_block] at this | exact this) GW107.out) | (rw [add_block]; exact Nat.ne_of_lt (Nat.lt_of_lt_of_le (by have := World.block_lt_of_cell? _ _ hw114_0; first | rwa [add_block] at this | exact this) GW107.out)) | (show (Addr.add _ _).block ≠ _; rw [add_block]; exact Nat.ne_of_lt (Nat.lt_of_lt_of_le (by have := World.block_lt_of_cell? _ _ hw114_0; first | rwa [add_block] at this | exact this) GW107.out)) | (dsimp only; exact Nat.ne_of_lt (Nat.lt_of_lt_of_le (by have := World.block_lt_of_cell? _ _ hw114_0; first | rwa [add_block] at this | exact this) GW107.out))) _).trans (((cell_far (p := ⟨gb107, _, none⟩) (by first | exact Nat.ne_of_lt (Nat.lt_of_lt_of_le (by have := World.block_lt_of_cell? _ _ hw114_0; first | rwa [add_block] at this | exact this) GW107.out) | (rw [add_block]; exact Nat.ne_of_lt (Nat.lt_of_lt_of_le (by have := World.block_lt_of_cell? _ _ hw114_0; first | rwa [add_block] at this | exact this) GW107.out)) | (show (Addr.add _ _).block ≠ _; rw [add_block]; exact Nat.ne_of_lt (Nat.lt_of_lt_of_le (by have := World.block_lt_of_cell? _ _ hw114_0; first | rwa [add_block] at this | exact this) GW107.out)) | (dsimp only; exact Nat.ne_of_lt (Nat.lt_of_lt_of_le (by have := World.block_lt_of_cell? _ _ hw114_0; first | rwa [add_block] at this | exact this) GW107.out))) _).trans (((cell_far (p := ⟨gb107, _, none⟩) (by first | exact Nat.ne_of_lt (Nat.lt_of_lt_of_le (by have := World.block_lt_of_cell? _ _ hw114_0; first | rwa [add_block] at this | exact this) GW107.out) | (rw [add_block]; exact Nat.ne_of_lt (Nat.lt_of_lt_of_le (by have := World.block_lt_of_cell? _ _ hw114_0; first | rwa [add_block] at this | exact this) GW107.out)) | (show (Addr.add _ _).block ≠ _; rw [add_block]; exact Nat.ne_of_lt (Nat.lt_of_lt_of_le (by have := World.block_lt_of_cell? _ _ hw114_0; first | rwa [add_block] at this | exact this) GW107.out)) | (dsimp only; exact Nat.ne_of_lt (Nat.lt_of_lt_of_le (by have := World.block_lt_of_cell? _ _ hw114_0; first | rwa [add_block] at this | exact this) GW107.out))) _).trans (((cell_far (p := ⟨gb107, _, none⟩) (by first | exact Nat.ne_of_lt (Nat.lt_of_lt_of_le (by have := World.block_lt_of_cell? _ _ hw114_0; first | rwa [add_block] at this | exact this) GW107.out) | (rw [add_block]; exact Nat.ne_of_lt (Nat.lt_of_lt_of_le (by have := World.block_lt_of_cell? _ _ hw114_0; first | rwa [add_block] at this | exact this) GW107.out)) | (show (Addr.add _ _).block ≠ _; rw [add_block]; exact Nat.ne_of_lt (Nat.lt_of_lt_of_le (by have := World.block_lt_of_cell? _ _ hw114_0; first | rwa [add_block] at this | exact this) GW107.out)) | (dsimp only; exact Nat.ne_of_lt (Nat.lt_of_lt_of_le (by have := World.block_lt_of_cell? _ _ hw114_0; first | rwa [add_block] at this | exact this) GW107.out))) _).trans (hHeld))))))))))) (fun hHeld => ?_)
                    clear hK K
                    refine pure_ (i := 7) (N := some 5) (v := ?_) (a' := ?_) #[true, true, true, true, true, true, true, true] rfl rfl (any_of HT_.out (by kernel_rfl)) (fun _ _ _ h => h) (Or.inl ⟨by rfl, ?_⟩) ?_ ?_
                    rotate_left
                    · intro w'
                      go_simp
                      with_reducible rfl
                    rotate_left
                    · simp only [Act.put, List.setIfInBounds_toArray, List.set_cons_zero, List.set_cons_succ, i64_w, i32_w]
                      rfl
                    refine done_ (done_of HT_.out (by kernel_rfl)) ?_
                    try go_wp2
                    refine bodyPost_ret (results_ct rfl _ _ gb107 59 #[.int .i64 5, .int .i64 0, .int .i64 0, .string (rdOf ByteArray.empty l1 1), .string t115] (0, 0) _ rfl (by (with_reducible repeat (first | refine blk_drewN ?_ _ | refine blk_drew ?_ | refine blk_alloc ?_ _)); refine blk_put (cs := #[.int .i64 5, .int .i64 0, .int .i64 0, .string (rdOf ByteArray.empty l1 1), .string (⟨#[]⟩ : ByteArray)]) ?_ 4 _ rfl; (with_reducible repeat (first | refine blk_drewN ?_ _ | refine blk_drew ?_ | refine blk_alloc ?_ _)); refine blk_put (cs := #[.int .i64 5, .int .i64 0, .int .i64 0, .string (⟨#[]⟩ : ByteArray), .string (⟨#[]⟩ : ByteArray)]) ?_ 3 _ rfl; (with_reducible repeat (first | refine blk_drewN ?_ _ | refine blk_drew ?_ | refine blk_alloc ?_ _)); refine blk_put (cs := #[.int .i64 5, .int .i64 0, .int .i64 0, .string (⟨#[]⟩ : ByteArray), .string (⟨#[]⟩ : ByteArray)]) ?_ 2 _ rfl; (with_reducible repeat (first | refine blk_drewN ?_ _ | refine blk_drew ?_ | refine blk_alloc ?_ _)); refine blk_put (cs := #[.int .i64 5, .int .i64 0, .int .i64 0, .string (⟨#[]⟩ : ByteArray), .string (⟨#[]⟩ : ByteArray)]) ?_ 1 _ rfl; (with_reducible repeat (first | refine blk_drewN ?_ _ | refine blk_drew ?_ | refine blk_alloc ?_ _)); refine blk_put (cs := #[.int .i64 0, .int .i64 0, .int .i64 0, .string (⟨#[]⟩ : ByteArray), .string (⟨#[]⟩ : ByteArray)]) ?_ 0 _ rfl; (with_reducible repeat (first | refine blk_drewN ?_ _ | refine blk_drew ?_ | refine blk_alloc ?_ _)); exact BK107.out) Tryd.underlying59 rfl (by kernel_rfl)) rfl ?_
                    exact ⟨by first | rfl | (simp only [nil_beq, nil_bne]; rfl) | (simp [nil_beq, nil_bne]; done) | (simp [errW_none, errW_some] <;> rfl) | (simp [*, errW_none, errW_some] <;> rfl), by repeat (first | (with_reducible first | exact HB.out | apply below_alloc | apply pw_below_drewN | apply below_drew1 | refine below_set ?_ GE107.out) | exact HB.out)⟩
                  · rw [if_neg c18] at H
                    exact absurd H (by simp)
                · replace c17 := Bool.eq_false_iff.mpr c17
                  subst c17
                  have H1 : (if 0 < (l1.length : Int) then (if (rdOf ByteArray.empty l1 0).toList = ([105, 109, 97, 112] : List UInt8) then (if (l1.length : Int) = 2 then (spec_l16Read.j3 kj13 a0 l1 x6_2 x7_2 x7_2) else (spec_l16Read.j3 kj13 a0 l1 x6_2 x7_2 false)) else (spec_l16Read.j3 kj13 a0 l1 x6_2 x7_2 false)) else (none)) = some (r1, r2, r3, r4, r5, r6) := by rw [if_neg (show ¬ (false = true) by decide)] at H; exact H
                  clear H
                  have H := H1
                  clear H1
                  have HC26 := Aside0.mk H
                  clear H
                  go_upto_region 9 with (fail)
                  go_cut [48] (fun v48 wc => ∃ (kq : Nat) (x48_25 : Bool), v48 = .bool x48_25 ∧ Aside0 (spec_l16Read.j3 kq a0 l1 x6_2 x7_2 x48_25 = some (r1, r2, r3, r4, r5, r6)) ∧ Aside0 (kq ≤ kj13) ∧ Aside0 (wc.heap[gb107]? = some (.cells #[.int .i64 0, .int .i64 0, .int .i64 0, .string (⟨#[]⟩ : ByteArray), .string (⟨#[]⟩ : ByteArray)] 59 (0, 0))) ∧ Aside0 (Below w.heap.size w wc))
                  case first =>
                    have H := HC26.out
                    clear HC26
                    by_cases c27 : 0 < (l1.length : Int)
                    · rw [if_pos c27] at H
                      have c27b0 : decide (0 < (l1.length : Int)) = true := decide_eq_true c27
                      have c27b1 : decide (0 < l1.length) = true := decide_eq_true (by omega)
                      clear c27
                      (first | rw [c27b0] | (simp only [i64_w, i32_w]; rw [c27b0]) | skip)
                      by_cases c28 : (rdOf ByteArray.empty l1 0).toList = ([105, 109, 97, 112] : List UInt8)
                      · rw [if_pos c28] at H
                        have c28b0 : ((rdOf ByteArray.empty l1 0).toList == ([105, 109, 97, 112] : List UInt8)) = true := beq_iff_eq.mpr c28
                        have c28b1 : ((rdOf ByteArray.empty l1 0).toList != ([105, 109, 97, 112] : List UInt8)) = false := bne_eq_false_iff_eq.mpr c28
                        clear c28
                        by_cases c29 : (l1.length : Int) = 2
                        · rw [if_pos c29] at H
                          have c29b0 : ((l1.length : Int) == 2) = true := beq_iff_eq.mpr c29
                          have c29b1 : ((l1.length : Int) != 2) = false := bne_eq_false_iff_eq.mpr c29
                          clear c29
                          have H' := Aside0.mk H
                          clear H
                          have p116 : 0 ≤ (0 : Int) := (by omega)
                          have q116 : 0 < (l1.length : Int) := of_decide_eq_true (by first | (with_reducible assumption) | assumption)
                          obtain ⟨ad116, e116, hx116_0⟩ := Kd.at_string HR1.out 0 p116 q116
                          cases e116
                          have qi116 : (0 < l1.length) = True := eq_true (by omega)
                          (try rw [show ((0 : Int)).toNat = 0 from rfl] at hx116_0)
                          (try rw [Addr.add_zero'] at hx116_0)
                          replace hx116_0 := (HB.out.cell (World.block_lt_of_cell? w _ hx116_0)).trans hx116_0
                          replace p116 := eq_true p116
                          replace q116 := eq_true q116
                          go_wp2
                          go_meet
                          case rel => exact ⟨_, (x7_2), (by first | rfl | (simp; done) | (simp [nil_beq, nil_bne]; done) | (simp [*]; done) | (simp [*, nil_beq, nil_bne]; done)), H', ⟨by have := HJ2.out; have := HJ7.out; have := HJ13.out; first | omega | exact Nat.le_refl _⟩, ⟨by (with_reducible repeat (first | refine blk_drewN ?_ _ | refine blk_drew ?_ | refine blk_alloc ?_ _)); exact BK107.out⟩, ⟨by repeat (first | (with_reducible first | exact HB.out | apply below_alloc | apply pw_below_drewN | apply below_drew1 | refine below_set ?_ GE107.out) | exact HB.out)⟩⟩
                        · rw [if_neg c29] at H
                          have c29b0 : ((l1.length : Int) == 2) = false := beq_eq_false_iff_ne.mpr c29
                          have c29b1 : ((l1.length : Int) != 2) = true := bne_iff_ne.mpr c29
                          have H' := Aside0.mk H
                          clear H
                          have p116 : 0 ≤ (0 : Int) := (by omega)
                          have q116 : 0 < (l1.length : Int) := of_decide_eq_true (by first | (with_reducible assumption) | assumption)
                          obtain ⟨ad116, e116, hx116_0⟩ := Kd.at_string HR1.out 0 p116 q116
                          cases e116
                          have qi116 : (0 < l1.length) = True := eq_true (by omega)
                          (try rw [show ((0 : Int)).toNat = 0 from rfl] at hx116_0)
                          (try rw [Addr.add_zero'] at hx116_0)
                          replace hx116_0 := (HB.out.cell (World.block_lt_of_cell? w _ hx116_0)).trans hx116_0
                          replace p116 := eq_true p116
                          replace q116 := eq_true q116
                          go_wp2
                          go_meet
                          case rel => exact ⟨_, (false), (by first | rfl | (simp; done) | (simp [nil_beq, nil_bne]; done) | (simp [*]; done) | (simp [*, nil_beq, nil_bne]; done)), H', ⟨by have := HJ2.out; have := HJ7.out; have := HJ13.out; first | omega | exact Nat.le_refl _⟩, ⟨by (with_reducible repeat (first | refine blk_drewN ?_ _ | refine blk_drew ?_ | refine blk_alloc ?_ _)); exact BK107.out⟩, ⟨by repeat (first | (with_reducible first | exact HB.out | apply below_alloc | apply pw_below_drewN | apply below_drew1 | refine below_set ?_ GE107.out) | exact HB.out)⟩⟩
                      · rw [if_neg c28] at H
                        have c28b0 : ((rdOf ByteArray.empty l1 0).toList == ([105, 109, 97, 112] : List UInt8)) = false := beq_eq_false_iff_ne.mpr c28
                        have c28b1 : ((rdOf ByteArray.empty l1 0).toList != ([105, 109, 97, 112] : List UInt8)) = true := bne_iff_ne.mpr c28
                        have H' := Aside0.mk H
                        clear H
                        have p116 : 0 ≤ (0 : Int) := (by omega)
                        have q116 : 0 < (l1.length : Int) := of_decide_eq_true (by first | (with_reducible assumption) | assumption)
                        obtain ⟨ad116, e116, hx116_0⟩ := Kd.at_string HR1.out 0 p116 q116
                        cases e116
                        have qi116 : (0 < l1.length) = True := eq_true (by omega)
                        (try rw [show ((0 : Int)).toNat = 0 from rfl] at hx116_0)
                        (try rw [Addr.add_zero'] at hx116_0)
                        replace hx116_0 := (HB.out.cell (World.block_lt_of_cell? w _ hx116_0)).trans hx116_0
                        replace p116 := eq_true p116
                        replace q116 := eq_true q116
                        go_wp2
                        go_meet
                        case rel => exact ⟨_, (false), (by first | rfl | (simp; done) | (simp [nil_beq, nil_bne]; done) | (simp [*]; done) | (simp [*, nil_beq, nil_bne]; done)), H', ⟨by have := HJ2.out; have := HJ7.out; have := HJ13.out; first | omega | exact Nat.le_refl _⟩, ⟨by (with_reducible repeat (first | refine blk_drewN ?_ _ | refine blk_drew ?_ | refine blk_alloc ?_ _)); exact BK107.out⟩, ⟨by repeat (first | (with_reducible first | exact HB.out | apply below_alloc | apply pw_below_drewN | apply below_drew1 | refine below_set ?_ GE107.out) | exact HB.out)⟩⟩
                    · rw [if_neg c27] at H
                      exact absurd H (by simp)
                  case rest =>
                    clear HC26
                    try clear c1
                    try clear p1
                    try clear q1
                    try clear hx1
                    try clear qi1
                    try clear c2
                    try clear p2
                    try clear c5
                    try clear c5b0
                    try clear c5b1
                    try clear c6
                    try clear c6b0
                    try clear c6b1
                    try clear c7
                    try clear c9
                    try clear c9b0
                    try clear c9b1
                    try clear c10
                    try clear c10b0
                    try clear c10b1
                    try clear p10
                    try clear q10
                    try clear hx10
                    try clear qi10
                    try clear c11
                    try clear p11
                    try clear q11
                    try clear hx11
                    try clear qi11
                    try clear c12
                    try clear c12b0
                    try clear c12b1
                    try clear c15
                    try clear c15b0
                    try clear c15b1
                    try clear c16
                    try clear c16b0
                    try clear c16b1
                    try clear c17
                    try clear c18
                    try clear c18b0
                    try clear c18b1
                    try clear c27
                    try clear c27b0
                    try clear c27b1
                    try clear c28
                    try clear c28b0
                    try clear c28b1
                    try clear c29
                    try clear c29b0
                    try clear c29b1
                    try clear hcz13_0
                    try clear hcz13_1
                    try clear hcz13_2
                    try clear hcz13_3
                    try clear hcz13_4
                    try clear hfz13_0
                    try clear hfz13_1
                    try clear hfz13_2
                    try clear hfz13_3
                    try clear hfz13_4
                    try clear hx108_0
                    try clear hx111_0
                    try clear hx112_0
                    try clear hx113_0
                    try clear hx114_0
                    try clear hx116_0
                    try clear p1
                    try clear p10
                    try clear p108
                    try clear p11
                    try clear p111
                    try clear p112
                    try clear p113
                    try clear p114
                    try clear p116
                    try clear p2
                    try clear q1
                    try clear q10
                    try clear q108
                    try clear q11
                    try clear q111
                    try clear q112
                    try clear q113
                    try clear q114
                    try clear q116
                    obtain ⟨kq, x48_25, rfl, HA, HJ25, BK107, HB⟩ := hcut
                    cases kq with
                    | zero => exact absurd HA.out (by simp [spec_l16Read.j3])
                    | succ kj25 =>
                      have H := HA.out
                      clear HA
                      simp only [spec_l16Read.j3] at H
                      by_cases c30 : x48_25 = true
                      · subst c30
                        have H1 : (some (1, x6_2, 0, (⟨#[]⟩ : ByteArray), (⟨#[]⟩ : ByteArray), true)) = some (r1, r2, r3, r4, r5, r6) := by rw [if_pos rfl] at H; exact H
                        clear H
                        have H := H1
                        clear H1
                        simp only [Option.some.injEq, Prod.mk.injEq] at H
                        obtain ⟨rfl, rfl, rfl, rfl, rfl, rfl⟩ := H
                        have hcz31_0 : wc.cell? ⟨gb107, 0, none⟩ = some (.int .i64 0) := (blk_cell BK107.out 0).trans rfl
                        have hcz31_1 : wc.cell? ⟨gb107, 1, none⟩ = some (.int .i64 0) := (blk_cell BK107.out 1).trans rfl
                        have hcz31_2 : wc.cell? ⟨gb107, 2, none⟩ = some (.int .i64 0) := (blk_cell BK107.out 2).trans rfl
                        have hcz31_3 : wc.cell? ⟨gb107, 3, none⟩ = some (.string (⟨#[]⟩ : ByteArray)) := (blk_cell BK107.out 3).trans rfl
                        have hcz31_4 : wc.cell? ⟨gb107, 4, none⟩ = some (.string (⟨#[]⟩ : ByteArray)) := (blk_cell BK107.out 4).trans rfl
                        have hfz31_0 := blk_frozen BK107.out 0
                        have hfz31_1 := blk_frozen BK107.out 1
                        have hfz31_2 := blk_frozen BK107.out 2
                        have hfz31_3 := blk_frozen BK107.out 3
                        have hfz31_4 := blk_frozen BK107.out 4
                        go_wp2
                        refine bodyPost_ret (results_ct rfl _ _ gb107 59 #[.int .i64 1, .int .i64 x6_2, .int .i64 0, .string (⟨#[]⟩ : ByteArray), .string (⟨#[]⟩ : ByteArray)] (0, 0) _ rfl (by (with_reducible repeat (first | refine blk_drewN ?_ _ | refine blk_drew ?_ | refine blk_alloc ?_ _)); refine blk_put (cs := #[.int .i64 1, .int .i64 x6_2, .int .i64 0, .string (⟨#[]⟩ : ByteArray), .string (⟨#[]⟩ : ByteArray)]) ?_ 4 _ rfl; (with_reducible repeat (first | refine blk_drewN ?_ _ | refine blk_drew ?_ | refine blk_alloc ?_ _)); refine blk_put (cs := #[.int .i64 1, .int .i64 x6_2, .int .i64 0, .string (⟨#[]⟩ : ByteArray), .string (⟨#[]⟩ : ByteArray)]) ?_ 3 _ rfl; (with_reducible repeat (first | refine blk_drewN ?_ _ | refine blk_drew ?_ | refine blk_alloc ?_ _)); refine blk_put (cs := #[.int .i64 1, .int .i64 x6_2, .int .i64 0, .string (⟨#[]⟩ : ByteArray), .string (⟨#[]⟩ : ByteArray)]) ?_ 2 _ rfl; (with_reducible repeat (first | refine blk_drewN ?_ _ | refine blk_drew ?_ | refine blk_alloc ?_ _)); refine blk_put (cs := #[.int .i64 1, .int .i64 0, .int .i64 0, .string (⟨#[]⟩ : ByteArray), .string (⟨#[]⟩ : ByteArray)]) ?_ 1 _ rfl; (with_reducible repeat (first | refine blk_drewN ?_ _ | refine blk_drew ?_ | refine blk_alloc ?_ _)); refine blk_put (cs := #[.int .i64 0, .int .i64 0, .int .i64 0, .string (⟨#[]⟩ : ByteArray), .string (⟨#[]⟩ : ByteArray)]) ?_ 0 _ rfl; (with_reducible repeat (first | refine blk_drewN ?_ _ | refine blk_drew ?_ | refine blk_alloc ?_ _)); exact BK107.out) Tryd.underlying59 rfl (by kernel_rfl)) rfl ?_
                        exact ⟨by first | rfl | (simp only [nil_beq, nil_bne]; rfl) | (simp [nil_beq, nil_bne]; done) | (simp [errW_none, errW_some] <;> rfl) | (simp [*, errW_none, errW_some] <;> rfl), by repeat (first | (with_reducible first | exact HB.out | apply below_alloc | apply pw_below_drewN | apply below_drew1 | refine below_set ?_ GE107.out) | exact HB.out)⟩
                      · replace c30 := Bool.eq_false_iff.mpr c30
                        subst c30
                        have H1 : (if 0 < (l1.length : Int) then (if (rdOf ByteArray.empty l1 0).toList = ([110, 110, 116, 112] : List UInt8) then (if (l1.length : Int) = 2 then (spec_l16Read.j4 kj25 a0 l1 x6_2 x7_2 x7_2) else (spec_l16Read.j4 kj25 a0 l1 x6_2 x7_2 false)) else (spec_l16Read.j4 kj25 a0 l1 x6_2 x7_2 false)) else (none)) = some (r1, r2, r3, r4, r5, r6) := by rw [if_neg (show ¬ (false = true) by decide)] at H; exact H
                        clear H
                        have H := H1
                        clear H1
                        have HC32 := Aside0.mk H
                        clear H
                        go_upto_region 11 with (fail)
                        go_cut [63] (fun v63 wc => ∃ (kq : Nat) (x63_31 : Bool), v63 = .bool x63_31 ∧ Aside0 (spec_l16Read.j4 kq a0 l1 x6_2 x7_2 x63_31 = some (r1, r2, r3, r4, r5, r6)) ∧ Aside0 (kq ≤ kj25) ∧ Aside0 (wc.heap[gb107]? = some (.cells #[.int .i64 0, .int .i64 0, .int .i64 0, .string (⟨#[]⟩ : ByteArray), .string (⟨#[]⟩ : ByteArray)] 59 (0, 0))) ∧ Aside0 (Below w.heap.size w wc))
                        case first =>
                          have H := HC32.out
                          clear HC32
                          by_cases c33 : 0 < (l1.length : Int)
                          · rw [if_pos c33] at H
                            have c33b0 : decide (0 < (l1.length : Int)) = true := decide_eq_true c33
                            have c33b1 : decide (0 < l1.length) = true := decide_eq_true (by omega)
                            clear c33
                            (first | rw [c33b0] | (simp only [i64_w, i32_w]; rw [c33b0]) | skip)
                            by_cases c34 : (rdOf ByteArray.empty l1 0).toList = ([110, 110, 116, 112] : List UInt8)
                            · rw [if_pos c34] at H
                              have c34b0 : ((rdOf ByteArray.empty l1 0).toList == ([110, 110, 116, 112] : List UInt8)) = true := beq_iff_eq.mpr c34
                              have c34b1 : ((rdOf ByteArray.empty l1 0).toList != ([110, 110, 116, 112] : List UInt8)) = false := bne_eq_false_iff_eq.mpr c34
                              clear c34
                              by_cases c35 : (l1.length : Int) = 2
                              · rw [if_pos c35] at H
                                have c35b0 : ((l1.length : Int) == 2) = true := beq_iff_eq.mpr c35
                                have c35b1 : ((l1.length : Int) != 2) = false := bne_eq_false_iff_eq.mpr c35
                                clear c35
                                have H' := Aside0.mk H
                                clear H
                                have p117 : 0 ≤ (0 : Int) := (by omega)
                                have q117 : 0 < (l1.length : Int) := of_decide_eq_true (by first | (with_reducible assumption) | assumption)
                                obtain ⟨ad117, e117, hx117_0⟩ := Kd.at_string HR1.out 0 p117 q117
                                cases e117
                                have qi117 : (0 < l1.length) = True := eq_true (by omega)
                                (try rw [show ((0 : Int)).toNat = 0 from rfl] at hx117_0)
                                (try rw [Addr.add_zero'] at hx117_0)
                                replace hx117_0 := (HB.out.cell (World.block_lt_of_cell? w _ hx117_0)).trans hx117_0
                                replace p117 := eq_true p117
                                replace q117 := eq_true q117
                                go_wp2
                                go_meet
                                case rel => exact ⟨_, (x7_2), (by first | rfl | (simp; done) | (simp [nil_beq, nil_bne]; done) | (simp [*]; done) | (simp [*, nil_beq, nil_bne]; done)), H', ⟨by have := HJ2.out; have := HJ7.out; have := HJ13.out; have := HJ25.out; first | omega | exact Nat.le_refl _⟩, ⟨by (with_reducible repeat (first | refine blk_drewN ?_ _ | refine blk_drew ?_ | refine blk_alloc ?_ _)); exact BK107.out⟩, ⟨by repeat (first | (with_reducible first | exact HB.out | apply below_alloc | apply pw_below_drewN | apply below_drew1 | refine below_set ?_ GE107.out) | exact HB.out)⟩⟩
                              · rw [if_neg c35] at H
                                have c35b0 : ((l1.length : Int) == 2) = false := beq_eq_false_iff_ne.mpr c35
                                have c35b1 : ((l1.length : Int) != 2) = true := bne_iff_ne.mpr c35
                                have H' := Aside0.mk H
                                clear H
                                have p117 : 0 ≤ (0 : Int) := (by omega)
                                have q117 : 0 < (l1.length : Int) := of_decide_eq_true (by first | (with_reducible assumption) | assumption)
                                obtain ⟨ad117, e117, hx117_0⟩ := Kd.at_string HR1.out 0 p117 q117
                                cases e117
                                have qi117 : (0 < l1.length) = True := eq_true (by omega)
                                (try rw [show ((0 : Int)).toNat = 0 from rfl] at hx117_0)
                                (try rw [Addr.add_zero'] at hx117_0)
                                replace hx117_0 := (HB.out.cell (World.block_lt_of_cell? w _ hx117_0)).trans hx117_0
                                replace p117 := eq_true p117
                                replace q117 := eq_true q117
                                go_wp2
                                go_meet
                                case rel => exact ⟨_, (false), (by first | rfl | (simp; done) | (simp [nil_beq, nil_bne]; done) | (simp [*]; done) | (simp [*, nil_beq, nil_bne]; done)), H', ⟨by have := HJ2.out; have := HJ7.out; have := HJ13.out; have := HJ25.out; first | omega | exact Nat.le_refl _⟩, ⟨by (with_reducible repeat (first | refine blk_drewN ?_ _ | refine blk_drew ?_ | refine blk_alloc ?_ _)); exact BK107.out⟩, ⟨by repeat (first | (with_reducible first | exact HB.out | apply below_alloc | apply pw_below_drewN | apply below_drew1 | refine below_set ?_ GE107.out) | exact HB.out)⟩⟩
                            · rw [if_neg c34] at H
                              have c34b0 : ((rdOf ByteArray.empty l1 0).toList == ([110, 110, 116, 112] : List UInt8)) = false := beq_eq_false_iff_ne.mpr c34
                              have c34b1 : ((rdOf ByteArray.empty l1 0).toList != ([110, 110, 116, 112] : List UInt8)) = true := bne_iff_ne.mpr c34
                              have H' := Aside0.mk H
                              clear H
                              have p117 : 0 ≤ (0 : Int) := (by omega)
                              have q117 : 0 < (l1.length : Int) := of_decide_eq_true (by first | (with_reducible assumption) | assumption)
                              obtain ⟨ad117, e117, hx117_0⟩ := Kd.at_string HR1.out 0 p117 q117
                              cases e117
                              have qi117 : (0 < l1.length) = True := eq_true (by omega)
                              (try rw [show ((0 : Int)).toNat = 0 from rfl] at hx117_0)
                              (try rw [Addr.add_zero'] at hx117_0)
                              replace hx117_0 := (HB.out.cell (World.block_lt_of_cell? w _ hx117_0)).trans hx117_0
                              replace p117 := eq_true p117
                              replace q117 := eq_true q117
                              go_wp2
                              go_meet
                              case rel => exact ⟨_, (false), (by first | rfl | (simp; done) | (simp [nil_beq, nil_bne]; done) | (simp [*]; done) | (simp [*, nil_beq, nil_bne]; done)), H', ⟨by have := HJ2.out; have := HJ7.out; have := HJ13.out; have := HJ25.out; first | omega | exact Nat.le_refl _⟩, ⟨by (with_reducible repeat (first | refine blk_drewN ?_ _ | refine blk_drew ?_ | refine blk_alloc ?_ _)); exact BK107.out⟩, ⟨by repeat (first | (with_reducible first | exact HB.out | apply below_alloc | apply pw_below_drewN | apply below_drew1 | refine below_set ?_ GE107.out) | exact HB.out)⟩⟩
                          · rw [if_neg c33] at H
                            exact absurd H (by simp)
                        case rest =>
                          clear HC32
                          try clear c1
                          try clear p1
                          try clear q1
                          try clear hx1
                          try clear qi1
                          try clear c2
                          try clear p2
                          try clear c3
                          try clear c5
                          try clear c5b0
                          try clear c5b1
                          try clear c6
                          try clear c6b0
                          try clear c6b1
                          try clear c7
                          try clear c9
                          try clear c9b0
                          try clear c9b1
                          try clear c10
                          try clear c10b0
                          try clear c10b1
                          try clear p10
                          try clear q10
                          try clear hx10
                          try clear qi10
                          try clear c11
                          try clear p11
                          try clear q11
                          try clear hx11
                          try clear qi11
                          try clear c12
                          try clear c12b0
                          try clear c12b1
                          try clear c15
                          try clear c15b0
                          try clear c15b1
                          try clear c16
                          try clear c16b0
                          try clear c16b1
                          try clear c17
                          try clear c18
                          try clear c18b0
                          try clear c18b1
                          try clear c27
                          try clear c27b0
                          try clear c27b1
                          try clear c28
                          try clear c28b0
                          try clear c28b1
                          try clear c29
                          try clear c29b0
                          try clear c29b1
                          try clear c30
                          try clear c33
                          try clear c33b0
                          try clear c33b1
                          try clear c34
                          try clear c34b0
                          try clear c34b1
                          try clear c35
                          try clear c35b0
                          try clear c35b1
                          try clear hcz13_0
                          try clear hcz13_1
                          try clear hcz13_2
                          try clear hcz13_3
                          try clear hcz13_4
                          try clear hcz31_0
                          try clear hcz31_1
                          try clear hcz31_2
                          try clear hcz31_3
                          try clear hcz31_4
                          try clear hfz13_0
                          try clear hfz13_1
                          try clear hfz13_2
                          try clear hfz13_3
                          try clear hfz13_4
                          try clear hfz31_0
                          try clear hfz31_1
                          try clear hfz31_2
                          try clear hfz31_3
                          try clear hfz31_4
                          try clear hx108_0
                          try clear hx111_0
                          try clear hx112_0
                          try clear hx113_0
                          try clear hx114_0
                          try clear hx116_0
                          try clear hx117_0
                          try clear p1
                          try clear p10
                          try clear p108
                          try clear p11
                          try clear p111
                          try clear p112
                          try clear p113
                          try clear p114
                          try clear p116
                          try clear p117
                          try clear p2
                          try clear q1
                          try clear q10
                          try clear q108
                          try clear q11
                          try clear q111
                          try clear q112
                          try clear q113
                          try clear q114
                          try clear q116
                          try clear q117
                          obtain ⟨kq, x63_31, rfl, HA, HJ31, BK107, HB⟩ := hcut
                          cases kq with
                          | zero => exact absurd HA.out (by simp [spec_l16Read.j4])
                          | succ kj31 =>
                            have H := HA.out
                            clear HA
                            simp only [spec_l16Read.j4] at H
                            by_cases c36 : x63_31 = true
                            · subst c36
                              have H1 : (some (2, x6_2, 0, (⟨#[]⟩ : ByteArray), (⟨#[]⟩ : ByteArray), true)) = some (r1, r2, r3, r4, r5, r6) := by rw [if_pos rfl] at H; exact H
                              clear H
                              have H := H1
                              clear H1
                              simp only [Option.some.injEq, Prod.mk.injEq] at H
                              obtain ⟨rfl, rfl, rfl, rfl, rfl, rfl⟩ := H
                              have hcz37_0 : wc.cell? ⟨gb107, 0, none⟩ = some (.int .i64 0) := (blk_cell BK107.out 0).trans rfl
                              have hcz37_1 : wc.cell? ⟨gb107, 1, none⟩ = some (.int .i64 0) := (blk_cell BK107.out 1).trans rfl
                              have hcz37_2 : wc.cell? ⟨gb107, 2, none⟩ = some (.int .i64 0) := (blk_cell BK107.out 2).trans rfl
                              have hcz37_3 : wc.cell? ⟨gb107, 3, none⟩ = some (.string (⟨#[]⟩ : ByteArray)) := (blk_cell BK107.out 3).trans rfl
                              have hcz37_4 : wc.cell? ⟨gb107, 4, none⟩ = some (.string (⟨#[]⟩ : ByteArray)) := (blk_cell BK107.out 4).trans rfl
                              have hfz37_0 := blk_frozen BK107.out 0
                              have hfz37_1 := blk_frozen BK107.out 1
                              have hfz37_2 := blk_frozen BK107.out 2
                              have hfz37_3 := blk_frozen BK107.out 3
                              have hfz37_4 := blk_frozen BK107.out 4
                              go_wp2
                              refine bodyPost_ret (results_ct rfl _ _ gb107 59 #[.int .i64 2, .int .i64 x6_2, .int .i64 0, .string (⟨#[]⟩ : ByteArray), .string (⟨#[]⟩ : ByteArray)] (0, 0) _ rfl (by (with_reducible repeat (first | refine blk_drewN ?_ _ | refine blk_drew ?_ | refine blk_alloc ?_ _)); refine blk_put (cs := #[.int .i64 2, .int .i64 x6_2, .int .i64 0, .string (⟨#[]⟩ : ByteArray), .string (⟨#[]⟩ : ByteArray)]) ?_ 4 _ rfl; (with_reducible repeat (first | refine blk_drewN ?_ _ | refine blk_drew ?_ | refine blk_alloc ?_ _)); refine blk_put (cs := #[.int .i64 2, .int .i64 x6_2, .int .i64 0, .string (⟨#[]⟩ : ByteArray), .string (⟨#[]⟩ : ByteArray)]) ?_ 3 _ rfl; (with_reducible repeat (first | refine blk_drewN ?_ _ | refine blk_drew ?_ | refine blk_alloc ?_ _)); refine blk_put (cs := #[.int .i64 2, .int .i64 x6_2, .int .i64 0, .string (⟨#[]⟩ : ByteArray), .string (⟨#[]⟩ : ByteArray)]) ?_ 2 _ rfl; (with_reducible repeat (first | refine blk_drewN ?_ _ | refine blk_drew ?_ | refine blk_alloc ?_ _)); refine blk_put (cs := #[.int .i64 2, .int .i64 0, .int .i64 0, .string (⟨#[]⟩ : ByteArray), .string (⟨#[]⟩ : ByteArray)]) ?_ 1 _ rfl; (with_reducible repeat (first | refine blk_drewN ?_ _ | refine blk_drew ?_ | refine blk_alloc ?_ _)); refine blk_put (cs := #[.int .i64 0, .int .i64 0, .int .i64 0, .string (⟨#[]⟩ : ByteArray), .string (⟨#[]⟩ : ByteArray)]) ?_ 0 _ rfl; (with_reducible repeat (first | refine blk_drewN ?_ _ | refine blk_drew ?_ | refine blk_alloc ?_ _)); exact BK107.out) Tryd.underlying59 rfl (by kernel_rfl)) rfl ?_
                              exact ⟨by first | rfl | (simp only [nil_beq, nil_bne]; rfl) | (simp [nil_beq, nil_bne]; done) | (simp [errW_none, errW_some] <;> rfl) | (simp [*, errW_none, errW_some] <;> rfl), by repeat (first | (with_reducible first | exact HB.out | apply below_alloc | apply pw_below_drewN | apply below_drew1 | refine below_set ?_ GE107.out) | exact HB.out)⟩
                            · replace c36 := Bool.eq_false_iff.mpr c36
                              subst c36
                              have H1 : (if 0 < (l1.length : Int) then (if (rdOf ByteArray.empty l1 0).toList = ([99, 108, 111, 115, 101] : List UInt8) then (if (l1.length : Int) = 2 then (spec_l16Read.j5 kj31 a0 l1 x6_2 x7_2 x7_2) else (spec_l16Read.j5 kj31 a0 l1 x6_2 x7_2 false)) else (spec_l16Read.j5 kj31 a0 l1 x6_2 x7_2 false)) else (none)) = some (r1, r2, r3, r4, r5, r6) := by rw [if_neg (show ¬ (false = true) by decide)] at H; exact H
                              clear H
                              have H := H1
                              clear H1
                              have HC38 := Aside0.mk H
                              clear H
                              go_upto_region 13 with (fail)
                              go_cut [78] (fun v78 wc => ∃ (kq : Nat) (x78_37 : Bool), v78 = .bool x78_37 ∧ Aside0 (spec_l16Read.j5 kq a0 l1 x6_2 x7_2 x78_37 = some (r1, r2, r3, r4, r5, r6)) ∧ Aside0 (kq ≤ kj31) ∧ Aside0 (wc.heap[gb107]? = some (.cells #[.int .i64 0, .int .i64 0, .int .i64 0, .string (⟨#[]⟩ : ByteArray), .string (⟨#[]⟩ : ByteArray)] 59 (0, 0))) ∧ Aside0 (Below w.heap.size w wc))
                              case first =>
                                have H := HC38.out
                                clear HC38
                                by_cases c39 : 0 < (l1.length : Int)
                                · rw [if_pos c39] at H
                                  have c39b0 : decide (0 < (l1.length : Int)) = true := decide_eq_true c39
                                  have c39b1 : decide (0 < l1.length) = true := decide_eq_true (by omega)
                                  clear c39
                                  (first | rw [c39b0] | (simp only [i64_w, i32_w]; rw [c39b0]) | skip)
                                  by_cases c40 : (rdOf ByteArray.empty l1 0).toList = ([99, 108, 111, 115, 101] : List UInt8)
                                  · rw [if_pos c40] at H
                                    have c40b0 : ((rdOf ByteArray.empty l1 0).toList == ([99, 108, 111, 115, 101] : List UInt8)) = true := beq_iff_eq.mpr c40
                                    have c40b1 : ((rdOf ByteArray.empty l1 0).toList != ([99, 108, 111, 115, 101] : List UInt8)) = false := bne_eq_false_iff_eq.mpr c40
                                    clear c40
                                    by_cases c41 : (l1.length : Int) = 2
                                    · rw [if_pos c41] at H
                                      have c41b0 : ((l1.length : Int) == 2) = true := beq_iff_eq.mpr c41
                                      have c41b1 : ((l1.length : Int) != 2) = false := bne_eq_false_iff_eq.mpr c41
                                      clear c41
                                      have H' := Aside0.mk H
                                      clear H
                                      have p118 : 0 ≤ (0 : Int) := (by omega)
                                      have q118 : 0 < (l1.length : Int) := of_decide_eq_true (by first | (with_reducible assumption) | assumption)
                                      obtain ⟨ad118, e118, hx118_0⟩ := Kd.at_string HR1.out 0 p118 q118
                                      cases e118
                                      have qi118 : (0 < l1.length) = True := eq_true (by omega)
                                      (try rw [show ((0 : Int)).toNat = 0 from rfl] at hx118_0)
                                      (try rw [Addr.add_zero'] at hx118_0)
                                      replace hx118_0 := (HB.out.cell (World.block_lt_of_cell? w _ hx118_0)).trans hx118_0
                                      replace p118 := eq_true p118
                                      replace q118 := eq_true q118
                                      go_wp2
                                      go_meet
                                      case rel => exact ⟨_, (x7_2), (by first | rfl | (simp; done) | (simp [nil_beq, nil_bne]; done) | (simp [*]; done) | (simp [*, nil_beq, nil_bne]; done)), H', ⟨by have := HJ2.out; have := HJ7.out; have := HJ13.out; have := HJ25.out; have := HJ31.out; first | omega | exact Nat.le_refl _⟩, ⟨by (with_reducible repeat (first | refine blk_drewN ?_ _ | refine blk_drew ?_ | refine blk_alloc ?_ _)); exact BK107.out⟩, ⟨by repeat (first | (with_reducible first | exact HB.out | apply below_alloc | apply pw_below_drewN | apply below_drew1 | refine below_set ?_ GE107.out) | exact HB.out)⟩⟩
                                    · rw [if_neg c41] at H
                                      have c41b0 : ((l1.length : Int) == 2) = false := beq_eq_false_iff_ne.mpr c41
                                      have c41b1 : ((l1.length : Int) != 2) = true := bne_iff_ne.mpr c41
                                      have H' := Aside0.mk H
                                      clear H
                                      have p118 : 0 ≤ (0 : Int) := (by omega)
                                      have q118 : 0 < (l1.length : Int) := of_decide_eq_true (by first | (with_reducible assumption) | assumption)
                                      obtain ⟨ad118, e118, hx118_0⟩ := Kd.at_string HR1.out 0 p118 q118
                                      cases e118
                                      have qi118 : (0 < l1.length) = True := eq_true (by omega)
                                      (try rw [show ((0 : Int)).toNat = 0 from rfl] at hx118_0)
                                      (try rw [Addr.add_zero'] at hx118_0)
                                      replace hx118_0 := (HB.out.cell (World.block_lt_of_cell? w _ hx118_0)).trans hx118_0
                                      replace p118 := eq_true p118
                                      replace q118 := eq_true q118
                                      go_wp2
                                      go_meet
                                      case rel => exact ⟨_, (false), (by first | rfl | (simp; done) | (simp [nil_beq, nil_bne]; done) | (simp [*]; done) | (simp [*, nil_beq, nil_bne]; done)), H', ⟨by have := HJ2.out; have := HJ7.out; have := HJ13.out; have := HJ25.out; have := HJ31.out; first | omega | exact Nat.le_refl _⟩, ⟨by (with_reducible repeat (first | refine blk_drewN ?_ _ | refine blk_drew ?_ | refine blk_alloc ?_ _)); exact BK107.out⟩, ⟨by repeat (first | (with_reducible first | exact HB.out | apply below_alloc | apply pw_below_drewN | apply below_drew1 | refine below_set ?_ GE107.out) | exact HB.out)⟩⟩
                                  · rw [if_neg c40] at H
                                    have c40b0 : ((rdOf ByteArray.empty l1 0).toList == ([99, 108, 111, 115, 101] : List UInt8)) = false := beq_eq_false_iff_ne.mpr c40
                                    have c40b1 : ((rdOf ByteArray.empty l1 0).toList != ([99, 108, 111, 115, 101] : List UInt8)) = true := bne_iff_ne.mpr c40
                                    have H' := Aside0.mk H
                                    clear H
                                    have p118 : 0 ≤ (0 : Int) := (by omega)
                                    have q118 : 0 < (l1.length : Int) := of_decide_eq_true (by first | (with_reducible assumption) | assumption)
                                    obtain ⟨ad118, e118, hx118_0⟩ := Kd.at_string HR1.out 0 p118 q118
                                    cases e118
                                    have qi118 : (0 < l1.length) = True := eq_true (by omega)
                                    (try rw [show ((0 : Int)).toNat = 0 from rfl] at hx118_0)
                                    (try rw [Addr.add_zero'] at hx118_0)
                                    replace hx118_0 := (HB.out.cell (World.block_lt_of_cell? w _ hx118_0)).trans hx118_0
                                    replace p118 := eq_true p118
                                    replace q118 := eq_true q118
                                    go_wp2
                                    go_meet
                                    case rel => exact ⟨_, (false), (by first | rfl | (simp; done) | (simp [nil_beq, nil_bne]; done) | (simp [*]; done) | (simp [*, nil_beq, nil_bne]; done)), H', ⟨by have := HJ2.out; have := HJ7.out; have := HJ13.out; have := HJ25.out; have := HJ31.out; first | omega | exact Nat.le_refl _⟩, ⟨by (with_reducible repeat (first | refine blk_drewN ?_ _ | refine blk_drew ?_ | refine blk_alloc ?_ _)); exact BK107.out⟩, ⟨by repeat (first | (with_reducible first | exact HB.out | apply below_alloc | apply pw_below_drewN | apply below_drew1 | refine below_set ?_ GE107.out) | exact HB.out)⟩⟩
                                · rw [if_neg c39] at H
                                  exact absurd H (by simp)
                              case rest =>
                                clear HC38
                                try clear c1
                                try clear p1
                                try clear q1
                                try clear hx1
                                try clear qi1
                                try clear c2
                                try clear p2
                                try clear c3
                                try clear c4
                                try clear c5
                                try clear c5b0
                                try clear c5b1
                                try clear c6
                                try clear c6b0
                                try clear c6b1
                                try clear c7
                                try clear c9
                                try clear c9b0
                                try clear c9b1
                                try clear c10
                                try clear c10b0
                                try clear c10b1
                                try clear p10
                                try clear q10
                                try clear hx10
                                try clear qi10
                                try clear c11
                                try clear p11
                                try clear q11
                                try clear hx11
                                try clear qi11
                                try clear c12
                                try clear c12b0
                                try clear c12b1
                                try clear c15
                                try clear c15b0
                                try clear c15b1
                                try clear c16
                                try clear c16b0
                                try clear c16b1
                                try clear c17
                                try clear c18
                                try clear c18b0
                                try clear c18b1
                                try clear c27
                                try clear c27b0
                                try clear c27b1
                                try clear c28
                                try clear c28b0
                                try clear c28b1
                                try clear c29
                                try clear c29b0
                                try clear c29b1
                                try clear c30
                                try clear c33
                                try clear c33b0
                                try clear c33b1
                                try clear c34
                                try clear c34b0
                                try clear c34b1
                                try clear c35
                                try clear c35b0
                                try clear c35b1
                                try clear c36
                                try clear c39
                                try clear c39b0
                                try clear c39b1
                                try clear c40
                                try clear c40b0
                                try clear c40b1
                                try clear c41
                                try clear c41b0
                                try clear c41b1
                                try clear hcz13_0
                                try clear hcz13_1
                                try clear hcz13_2
                                try clear hcz13_3
                                try clear hcz13_4
                                try clear hcz31_0
                                try clear hcz31_1
                                try clear hcz31_2
                                try clear hcz31_3
                                try clear hcz31_4
                                try clear hcz37_0
                                try clear hcz37_1
                                try clear hcz37_2
                                try clear hcz37_3
                                try clear hcz37_4
                                try clear hfz13_0
                                try clear hfz13_1
                                try clear hfz13_2
                                try clear hfz13_3
                                try clear hfz13_4
                                try clear hfz31_0
                                try clear hfz31_1
                                try clear hfz31_2
                                try clear hfz31_3
                                try clear hfz31_4
                                try clear hfz37_0
                                try clear hfz37_1
                                try clear hfz37_2
                                try clear hfz37_3
                                try clear hfz37_4
                                try clear hx108_0
                                try clear hx111_0
                                try clear hx112_0
                                try clear hx113_0
                                try clear hx114_0
                                try clear hx116_0
                                try clear hx117_0
                                try clear hx118_0
                                try clear p1
                                try clear p10
                                try clear p108
                                try clear p11
                                try clear p111
                                try clear p112
                                try clear p113
                                try clear p114
                                try clear p116
                                try clear p117
                                try clear p118
                                try clear p2
                                try clear q1
                                try clear q10
                                try clear q108
                                try clear q11
                                try clear q111
                                try clear q112
                                try clear q113
                                try clear q114
                                try clear q116
                                try clear q117
                                try clear q118
                                obtain ⟨kq, x78_37, rfl, HA, HJ37, BK107, HB⟩ := hcut
                                cases kq with
                                | zero => exact absurd HA.out (by simp [spec_l16Read.j5])
                                | succ kj37 =>
                                  have H := HA.out
                                  clear HA
                                  simp only [spec_l16Read.j5] at H
                                  by_cases c42 : x78_37 = true
                                  · subst c42
                                    have H1 : (some (4, x6_2, 0, (⟨#[]⟩ : ByteArray), (⟨#[]⟩ : ByteArray), true)) = some (r1, r2, r3, r4, r5, r6) := by rw [if_pos rfl] at H; exact H
                                    clear H
                                    have H := H1
                                    clear H1
                                    simp only [Option.some.injEq, Prod.mk.injEq] at H
                                    obtain ⟨rfl, rfl, rfl, rfl, rfl, rfl⟩ := H
                                    have hcz43_0 : wc.cell? ⟨gb107, 0, none⟩ = some (.int .i64 0) := (blk_cell BK107.out 0).trans rfl
                                    have hcz43_1 : wc.cell? ⟨gb107, 1, none⟩ = some (.int .i64 0) := (blk_cell BK107.out 1).trans rfl
                                    have hcz43_2 : wc.cell? ⟨gb107, 2, none⟩ = some (.int .i64 0) := (blk_cell BK107.out 2).trans rfl
                                    have hcz43_3 : wc.cell? ⟨gb107, 3, none⟩ = some (.string (⟨#[]⟩ : ByteArray)) := (blk_cell BK107.out 3).trans rfl
                                    have hcz43_4 : wc.cell? ⟨gb107, 4, none⟩ = some (.string (⟨#[]⟩ : ByteArray)) := (blk_cell BK107.out 4).trans rfl
                                    have hfz43_0 := blk_frozen BK107.out 0
                                    have hfz43_1 := blk_frozen BK107.out 1
                                    have hfz43_2 := blk_frozen BK107.out 2
                                    have hfz43_3 := blk_frozen BK107.out 3
                                    have hfz43_4 := blk_frozen BK107.out 4
                                    go_wp2
                                    refine bodyPost_ret (results_ct rfl _ _ gb107 59 #[.int .i64 4, .int .i64 x6_2, .int .i64 0, .string (⟨#[]⟩ : ByteArray), .string (⟨#[]⟩ : ByteArray)] (0, 0) _ rfl (by (with_reducible repeat (first | refine blk_drewN ?_ _ | refine blk_drew ?_ | refine blk_alloc ?_ _)); refine blk_put (cs := #[.int .i64 4, .int .i64 x6_2, .int .i64 0, .string (⟨#[]⟩ : ByteArray), .string (⟨#[]⟩ : ByteArray)]) ?_ 4 _ rfl; (with_reducible repeat (first | refine blk_drewN ?_ _ | refine blk_drew ?_ | refine blk_alloc ?_ _)); refine blk_put (cs := #[.int .i64 4, .int .i64 x6_2, .int .i64 0, .string (⟨#[]⟩ : ByteArray), .string (⟨#[]⟩ : ByteArray)]) ?_ 3 _ rfl; (with_reducible repeat (first | refine blk_drewN ?_ _ | refine blk_drew ?_ | refine blk_alloc ?_ _)); refine blk_put (cs := #[.int .i64 4, .int .i64 x6_2, .int .i64 0, .string (⟨#[]⟩ : ByteArray), .string (⟨#[]⟩ : ByteArray)]) ?_ 2 _ rfl; (with_reducible repeat (first | refine blk_drewN ?_ _ | refine blk_drew ?_ | refine blk_alloc ?_ _)); refine blk_put (cs := #[.int .i64 4, .int .i64 0, .int .i64 0, .string (⟨#[]⟩ : ByteArray), .string (⟨#[]⟩ : ByteArray)]) ?_ 1 _ rfl; (with_reducible repeat (first | refine blk_drewN ?_ _ | refine blk_drew ?_ | refine blk_alloc ?_ _)); refine blk_put (cs := #[.int .i64 0, .int .i64 0, .int .i64 0, .string (⟨#[]⟩ : ByteArray), .string (⟨#[]⟩ : ByteArray)]) ?_ 0 _ rfl; (with_reducible repeat (first | refine blk_drewN ?_ _ | refine blk_drew ?_ | refine blk_alloc ?_ _)); exact BK107.out) Tryd.underlying59 rfl (by kernel_rfl)) rfl ?_
                                    exact ⟨by first | rfl | (simp only [nil_beq, nil_bne]; rfl) | (simp [nil_beq, nil_bne]; done) | (simp [errW_none, errW_some] <;> rfl) | (simp [*, errW_none, errW_some] <;> rfl), by repeat (first | (with_reducible first | exact HB.out | apply below_alloc | apply pw_below_drewN | apply below_drew1 | refine below_set ?_ GE107.out) | exact HB.out)⟩
                                  · replace c42 := Bool.eq_false_iff.mpr c42
                                    subst c42
                                    have H1 : (if 0 < (l1.length : Int) then (if (rdOf ByteArray.empty l1 0).toList = ([115, 97, 121] : List UInt8) then (if (l1.length : Int) > 1 then (spec_l16Read.j6 kj37 a0 l1 x6_2 x7_2) else (spec_l16Read.j6 kj37 a0 l1 x6_2 false)) else (spec_l16Read.j6 kj37 a0 l1 x6_2 false)) else (none)) = some (r1, r2, r3, r4, r5, r6) := by rw [if_neg (show ¬ (false = true) by decide)] at H; exact H
                                    clear H
                                    have H := H1
                                    clear H1
                                    have HC44 := Aside0.mk H
                                    clear H
                                    go_upto_region 15 with (fail)
                                    go_cut [93] (fun v93 wc => ∃ (kq : Nat) (x93_43 : Bool), v93 = .bool x93_43 ∧ Aside0 (spec_l16Read.j6 kq a0 l1 x6_2 x93_43 = some (r1, r2, r3, r4, r5, r6)) ∧ Aside0 (kq ≤ kj37) ∧ Aside0 (wc.heap[gb107]? = some (.cells #[.int .i64 0, .int .i64 0, .int .i64 0, .string (⟨#[]⟩ : ByteArray), .string (⟨#[]⟩ : ByteArray)] 59 (0, 0))) ∧ Aside0 (Below w.heap.size w wc))
                                    case first =>
                                      have H := HC44.out
                                      clear HC44
                                      by_cases c45 : 0 < (l1.length : Int)
                                      · rw [if_pos c45] at H
                                        have c45b0 : decide (0 < (l1.length : Int)) = true := decide_eq_true c45
                                        have c45b1 : decide (0 < l1.length) = true := decide_eq_true (by omega)
                                        clear c45
                                        (first | rw [c45b0] | (simp only [i64_w, i32_w]; rw [c45b0]) | skip)
                                        by_cases c46 : (rdOf ByteArray.empty l1 0).toList = ([115, 97, 121] : List UInt8)
                                        · rw [if_pos c46] at H
                                          have c46b0 : ((rdOf ByteArray.empty l1 0).toList == ([115, 97, 121] : List UInt8)) = true := beq_iff_eq.mpr c46
                                          have c46b1 : ((rdOf ByteArray.empty l1 0).toList != ([115, 97, 121] : List UInt8)) = false := bne_eq_false_iff_eq.mpr c46
                                          clear c46
                                          by_cases c47 : (l1.length : Int) > 1
                                          · rw [if_pos c47] at H
                                            have c47b0 : decide (1 < (l1.length : Int)) = true := decide_eq_true c47
                                            have c47b1 : decide (1 < l1.length) = true := decide_eq_true (by omega)
                                            clear c47
                                            have H' := Aside0.mk H
                                            clear H
                                            have p119 : 0 ≤ (0 : Int) := (by omega)
                                            have q119 : 0 < (l1.length : Int) := of_decide_eq_true (by first | (with_reducible assumption) | assumption)
                                            obtain ⟨ad119, e119, hx119_0⟩ := Kd.at_string HR1.out 0 p119 q119
                                            cases e119
                                            have qi119 : (0 < l1.length) = True := eq_true (by omega)
                                            (try rw [show ((0 : Int)).toNat = 0 from rfl] at hx119_0)
                                            (try rw [Addr.add_zero'] at hx119_0)
                                            replace hx119_0 := (HB.out.cell (World.block_lt_of_cell? w _ hx119_0)).trans hx119_0
                                            replace p119 := eq_true p119
                                            replace q119 := eq_true q119
                                            go_wp2
                                            go_meet
                                            case rel => exact ⟨_, (x7_2), (by first | rfl | (simp; done) | (simp [nil_beq, nil_bne]; done) | (simp [*]; done) | (simp [*, nil_beq, nil_bne]; done)), H', ⟨by have := HJ2.out; have := HJ7.out; have := HJ13.out; have := HJ25.out; have := HJ31.out; have := HJ37.out; first | omega | exact Nat.le_refl _⟩, ⟨by (with_reducible repeat (first | refine blk_drewN ?_ _ | refine blk_drew ?_ | refine blk_alloc ?_ _)); exact BK107.out⟩, ⟨by repeat (first | (with_reducible first | exact HB.out | apply below_alloc | apply pw_below_drewN | apply below_drew1 | refine below_set ?_ GE107.out) | exact HB.out)⟩⟩
                                          · rw [if_neg c47] at H
                                            have c47b0 : decide (1 < (l1.length : Int)) = false := decide_eq_false c47
                                            have c47b1 : decide (1 < l1.length) = false := decide_eq_false (by omega)
                                            clear c47
                                            have H' := Aside0.mk H
                                            clear H
                                            have p119 : 0 ≤ (0 : Int) := (by omega)
                                            have q119 : 0 < (l1.length : Int) := of_decide_eq_true (by first | (with_reducible assumption) | assumption)
                                            obtain ⟨ad119, e119, hx119_0⟩ := Kd.at_string HR1.out 0 p119 q119
                                            cases e119
                                            have qi119 : (0 < l1.length) = True := eq_true (by omega)
                                            (try rw [show ((0 : Int)).toNat = 0 from rfl] at hx119_0)
                                            (try rw [Addr.add_zero'] at hx119_0)
                                            replace hx119_0 := (HB.out.cell (World.block_lt_of_cell? w _ hx119_0)).trans hx119_0
                                            replace p119 := eq_true p119
                                            replace q119 := eq_true q119
                                            go_wp2
                                            go_meet
                                            case rel => exact ⟨_, (false), (by first | rfl | (simp; done) | (simp [nil_beq, nil_bne]; done) | (simp [*]; done) | (simp [*, nil_beq, nil_bne]; done)), H', ⟨by have := HJ2.out; have := HJ7.out; have := HJ13.out; have := HJ25.out; have := HJ31.out; have := HJ37.out; first | omega | exact Nat.le_refl _⟩, ⟨by (with_reducible repeat (first | refine blk_drewN ?_ _ | refine blk_drew ?_ | refine blk_alloc ?_ _)); exact BK107.out⟩, ⟨by repeat (first | (with_reducible first | exact HB.out | apply below_alloc | apply pw_below_drewN | apply below_drew1 | refine below_set ?_ GE107.out) | exact HB.out)⟩⟩
                                        · rw [if_neg c46] at H
                                          have c46b0 : ((rdOf ByteArray.empty l1 0).toList == ([115, 97, 121] : List UInt8)) = false := beq_eq_false_iff_ne.mpr c46
                                          have c46b1 : ((rdOf ByteArray.empty l1 0).toList != ([115, 97, 121] : List UInt8)) = true := bne_iff_ne.mpr c46
                                          have H' := Aside0.mk H
                                          clear H
                                          have p119 : 0 ≤ (0 : Int) := (by omega)
                                          have q119 : 0 < (l1.length : Int) := of_decide_eq_true (by first | (with_reducible assumption) | assumption)
                                          obtain ⟨ad119, e119, hx119_0⟩ := Kd.at_string HR1.out 0 p119 q119
                                          cases e119
                                          have qi119 : (0 < l1.length) = True := eq_true (by omega)
                                          (try rw [show ((0 : Int)).toNat = 0 from rfl] at hx119_0)
                                          (try rw [Addr.add_zero'] at hx119_0)
                                          replace hx119_0 := (HB.out.cell (World.block_lt_of_cell? w _ hx119_0)).trans hx119_0
                                          replace p119 := eq_true p119
                                          replace q119 := eq_true q119
                                          go_wp2
                                          go_meet
                                          case rel => exact ⟨_, (false), (by first | rfl | (simp; done) | (simp [nil_beq, nil_bne]; done) | (simp [*]; done) | (simp [*, nil_beq, nil_bne]; done)), H', ⟨by have := HJ2.out; have := HJ7.out; have := HJ13.out; have := HJ25.out; have := HJ31.out; have := HJ37.out; first | omega | exact Nat.le_refl _⟩, ⟨by (with_reducible repeat (first | refine blk_drewN ?_ _ | refine blk_drew ?_ | refine blk_alloc ?_ _)); exact BK107.out⟩, ⟨by repeat (first | (with_reducible first | exact HB.out | apply below_alloc | apply pw_below_drewN | apply below_drew1 | refine below_set ?_ GE107.out) | exact HB.out)⟩⟩
                                      · rw [if_neg c45] at H
                                        exact absurd H (by simp)
                                    case rest =>
                                      clear HC44
                                      try clear c1
                                      try clear p1
                                      try clear q1
                                      try clear hx1
                                      try clear qi1
                                      try clear c2
                                      try clear p2
                                      try clear c3
                                      try clear c4
                                      try clear c5
                                      try clear c5b0
                                      try clear c5b1
                                      try clear c6
                                      try clear c6b0
                                      try clear c6b1
                                      try clear c7
                                      try clear c9
                                      try clear c9b0
                                      try clear c9b1
                                      try clear c10
                                      try clear c10b0
                                      try clear c10b1
                                      try clear p10
                                      try clear q10
                                      try clear hx10
                                      try clear qi10
                                      try clear c11
                                      try clear p11
                                      try clear q11
                                      try clear hx11
                                      try clear qi11
                                      try clear c12
                                      try clear c12b0
                                      try clear c12b1
                                      try clear c15
                                      try clear c15b0
                                      try clear c15b1
                                      try clear c16
                                      try clear c16b0
                                      try clear c16b1
                                      try clear c17
                                      try clear c18
                                      try clear c18b0
                                      try clear c18b1
                                      try clear c27
                                      try clear c27b0
                                      try clear c27b1
                                      try clear c28
                                      try clear c28b0
                                      try clear c28b1
                                      try clear c29
                                      try clear c29b0
                                      try clear c29b1
                                      try clear c30
                                      try clear c33
                                      try clear c33b0
                                      try clear c33b1
                                      try clear c34
                                      try clear c34b0
                                      try clear c34b1
                                      try clear c35
                                      try clear c35b0
                                      try clear c35b1
                                      try clear c36
                                      try clear c39
                                      try clear c39b0
                                      try clear c39b1
                                      try clear c40
                                      try clear c40b0
                                      try clear c40b1
                                      try clear c41
                                      try clear c41b0
                                      try clear c41b1
                                      try clear c42
                                      try clear c45
                                      try clear c45b0
                                      try clear c45b1
                                      try clear c46
                                      try clear c46b0
                                      try clear c46b1
                                      try clear c47
                                      try clear c47b0
                                      try clear c47b1
                                      try clear hcz13_0
                                      try clear hcz13_1
                                      try clear hcz13_2
                                      try clear hcz13_3
                                      try clear hcz13_4
                                      try clear hcz31_0
                                      try clear hcz31_1
                                      try clear hcz31_2
                                      try clear hcz31_3
                                      try clear hcz31_4
                                      try clear hcz37_0
                                      try clear hcz37_1
                                      try clear hcz37_2
                                      try clear hcz37_3
                                      try clear hcz37_4
                                      try clear hcz43_0
                                      try clear hcz43_1
                                      try clear hcz43_2
                                      try clear hcz43_3
                                      try clear hcz43_4
                                      try clear hfz13_0
                                      try clear hfz13_1
                                      try clear hfz13_2
                                      try clear hfz13_3
                                      try clear hfz13_4
                                      try clear hfz31_0
                                      try clear hfz31_1
                                      try clear hfz31_2
                                      try clear hfz31_3
                                      try clear hfz31_4
                                      try clear hfz37_0
                                      try clear hfz37_1
                                      try clear hfz37_2
                                      try clear hfz37_3
                                      try clear hfz37_4
                                      try clear hfz43_0
                                      try clear hfz43_1
                                      try clear hfz43_2
                                      try clear hfz43_3
                                      try clear hfz43_4
                                      try clear hx108_0
                                      try clear hx111_0
                                      try clear hx112_0
                                      try clear hx113_0
                                      try clear hx114_0
                                      try clear hx116_0
                                      try clear hx117_0
                                      try clear hx118_0
                                      try clear hx119_0
                                      try clear p1
                                      try clear p10
                                      try clear p108
                                      try clear p11
                                      try clear p111
                                      try clear p112
                                      try clear p113
                                      try clear p114
                                      try clear p116
                                      try clear p117
                                      try clear p118
                                      try clear p119
                                      try clear p2
                                      try clear q1
                                      try clear q10
                                      try clear q108
                                      try clear q11
                                      try clear q111
                                      try clear q112
                                      try clear q113
                                      try clear q114
                                      try clear q116
                                      try clear q117
                                      try clear q118
                                      try clear q119
                                      obtain ⟨kq, x93_43, rfl, HA, HJ43, BK107, HB⟩ := hcut
                                      cases kq with
                                      | zero => exact absurd HA.out (by simp [spec_l16Read.j6])
                                      | succ kj43 =>
                                        have H := HA.out
                                        clear HA
                                        simp only [spec_l16Read.j6] at H
                                        by_cases c48 : x93_43 = true
                                        · subst c48
                                          have H1 : ((spec_l16Rest.f kj43 a0 2).bind fun t120 => (if t120.size + 2 ≤ 9223372036854775807 then (some (3, x6_2, 0, (⟨#[]⟩ : ByteArray), t120 ++ (⟨#[13, 10]⟩ : ByteArray), true)) else (none))) = some (r1, r2, r3, r4, r5, r6) := by rw [if_pos rfl] at H; exact H
                                          clear H
                                          have H := H1
                                          clear H1
                                          replace H := Option.bind_eq_some_iff.mp H
                                          obtain ⟨t120, A490, H⟩ := H
                                          replace H : (if t120.size + 2 ≤ 9223372036854775807 then (some (3, x6_2, 0, (⟨#[]⟩ : ByteArray), t120 ++ (⟨#[13, 10]⟩ : ByteArray), true)) else (none)) = some (r1, r2, r3, r4, r5, r6) := H
                                          have A49 := Aside0.mk A490
                                          clear A490
                                          by_cases c50 : t120.size + 2 ≤ 9223372036854775807
                                          · rw [if_pos c50] at H
                                            have c50b0 := eq_true c50
                                            have c50b1 : decide (t120.size + 2 ≤ 9223372036854775807) = true := decide_eq_true c50
                                            try have c50b2 : (9223372036854775807 < t120.size + 2) = False := eq_false (Nat.not_lt.2 c50)
                                            simp only [Option.some.injEq, Prod.mk.injEq] at H
                                            obtain ⟨rfl, rfl, rfl, rfl, rfl, rfl⟩ := H
                                            go_wp2_with (first | ((with_reducible refine gate_callee (f := 121) rfl ?_); refine goesL_ (some 108) rfl rfl Tryd.func121 (by kernel_rfl) rfl #[.string a0, .int .i64 2] rfl (by (try simp only [List.map_toArray, List.map_cons, List.map_nil]); first | done | rfl | (simp only [List.length_drop, List.length_take]; rfl)) ?_; (with_reducible refine (spec_l16Rest.calls kj43 a0 2 t120 _ A49.out).mono ?_); rintro e w' ⟨rfl, ⟨nd, rfl⟩⟩; refine ⟨_, rfl, ?_⟩; (try (rw [drewN_self wc]; generalize hq_ : World.drewN wc _ = wc; have n0_ : Aside0 (wc.heap[gb107]? = some (.cells #[.int .i64 0, .int .i64 0, .int .i64 0, .string (⟨#[]⟩ : ByteArray), .string (⟨#[]⟩ : ByteArray)] 59 (0, 0))) := ⟨by rw [← hq_]; exact (by (with_reducible repeat (first | refine blk_drewN ?_ _ | refine blk_drew ?_ | refine blk_alloc ?_ _)); exact BK107.out)⟩; have n1_ : Aside0 (Below w.heap.size w wc) := ⟨by rw [← hq_]; exact (by repeat (first | (with_reducible first | exact HB.out | apply below_alloc | apply pw_below_drewN | apply below_drew1 | refine below_set ?_ GE107.out) | exact HB.out))⟩; clear BK107 HB hq_; have BK107 := n0_; have HB := n1_; clear n0_ n1_)); have hcz51_0 : wc.cell? ⟨gb107, 0, none⟩ = some (.int .i64 0) := (blk_cell BK107.out 0).trans rfl; have hcz51_1 : wc.cell? ⟨gb107, 1, none⟩ = some (.int .i64 0) := (blk_cell BK107.out 1).trans rfl; have hcz51_2 : wc.cell? ⟨gb107, 2, none⟩ = some (.int .i64 0) := (blk_cell BK107.out 2).trans rfl; have hcz51_3 : wc.cell? ⟨gb107, 3, none⟩ = some (.string (⟨#[]⟩ : ByteArray)) := (blk_cell BK107.out 3).trans rfl; have hcz51_4 : wc.cell? ⟨gb107, 4, none⟩ = some (.string (⟨#[]⟩ : ByteArray)) := (blk_cell BK107.out 4).trans rfl; have hfz51_0 := blk_frozen BK107.out 0; have hfz51_1 := blk_frozen BK107.out 1; have hfz51_2 := blk_frozen BK107.out 2; have hfz51_3 := blk_frozen BK107.out 3; have hfz51_4 := blk_frozen BK107.out 4))
                                            refine bodyPost_ret (results_ct rfl _ _ gb107 59 #[.int .i64 3, .int .i64 x6_2, .int .i64 0, .string (⟨#[]⟩ : ByteArray), .string (t120 ++ (⟨#[13, 10]⟩ : ByteArray))] (0, 0) _ rfl (by (with_reducible repeat (first | refine blk_drewN ?_ _ | refine blk_drew ?_ | refine blk_alloc ?_ _)); refine blk_put (cs := #[.int .i64 3, .int .i64 x6_2, .int .i64 0, .string (⟨#[]⟩ : ByteArray), .string (⟨#[]⟩ : ByteArray)]) ?_ 4 _ rfl; (with_reducible repeat (first | refine blk_drewN ?_ _ | refine blk_drew ?_ | refine blk_alloc ?_ _)); refine blk_put (cs := #[.int .i64 3, .int .i64 x6_2, .int .i64 0, .string (⟨#[]⟩ : ByteArray), .string (⟨#[]⟩ : ByteArray)]) ?_ 3 _ rfl; (with_reducible repeat (first | refine blk_drewN ?_ _ | refine blk_drew ?_ | refine blk_alloc ?_ _)); refine blk_put (cs := #[.int .i64 3, .int .i64 x6_2, .int .i64 0, .string (⟨#[]⟩ : ByteArray), .string (⟨#[]⟩ : ByteArray)]) ?_ 2 _ rfl; (with_reducible repeat (first | refine blk_drewN ?_ _ | refine blk_drew ?_ | refine blk_alloc ?_ _)); refine blk_put (cs := #[.int .i64 3, .int .i64 0, .int .i64 0, .string (⟨#[]⟩ : ByteArray), .string (⟨#[]⟩ : ByteArray)]) ?_ 1 _ rfl; (with_reducible repeat (first | refine blk_drewN ?_ _ | refine blk_drew ?_ | refine blk_alloc ?_ _)); refine blk_put (cs := #[.int .i64 0, .int .i64 0, .int .i64 0, .string (⟨#[]⟩ : ByteArray), .string (⟨#[]⟩ : ByteArray)]) ?_ 0 _ rfl; (with_reducible repeat (first | refine blk_drewN ?_ _ | refine blk_drew ?_ | refine blk_alloc ?_ _)); exact BK107.out) Tryd.underlying59 rfl (by kernel_rfl)) rfl ?_
                                            exact ⟨by first | rfl | (simp only [nil_beq, nil_bne]; rfl) | (simp [nil_beq, nil_bne]; done) | (simp [errW_none, errW_some] <;> rfl) | (simp [*, errW_none, errW_some] <;> rfl), by repeat (first | (with_reducible first | exact HB.out | apply below_alloc | apply pw_below_drewN | apply below_drew1 | refine below_set ?_ GE107.out) | exact HB.out)⟩
                                          · rw [if_neg c50] at H
                                            exact absurd H (by simp)
                                        · replace c48 := Bool.eq_false_iff.mpr c48
                                          subst c48
                                          have H1 : (if 0 < (l1.length : Int) then (if (rdOf ByteArray.empty l1 0).toList = ([99, 114, 97, 115, 104] : List UInt8) then (if (l1.length : Int) = 1 then (some (7, 0, 0, (⟨#[]⟩ : ByteArray), (⟨#[]⟩ : ByteArray), true)) else (some (0, 0, 0, (⟨#[]⟩ : ByteArray), (⟨#[]⟩ : ByteArray), false))) else (some (0, 0, 0, (⟨#[]⟩ : ByteArray), (⟨#[]⟩ : ByteArray), false))) else (none)) = some (r1, r2, r3, r4, r5, r6) := by rw [if_neg (show ¬ (false = true) by decide)] at H; exact H
                                          clear H
                                          have H := H1
                                          clear H1
                                          by_cases c52 : 0 < (l1.length : Int)
                                          · rw [if_pos c52] at H
                                            have c52b0 : decide (0 < (l1.length : Int)) = true := decide_eq_true c52
                                            have c52b1 : decide (0 < l1.length) = true := decide_eq_true (by omega)
                                            clear c52
                                            by_cases c53 : (rdOf ByteArray.empty l1 0).toList = ([99, 114, 97, 115, 104] : List UInt8)
                                            · rw [if_pos c53] at H
                                              have c53b0 : ((rdOf ByteArray.empty l1 0).toList == ([99, 114, 97, 115, 104] : List UInt8)) = true := beq_iff_eq.mpr c53
                                              have c53b1 : ((rdOf ByteArray.empty l1 0).toList != ([99, 114, 97, 115, 104] : List UInt8)) = false := bne_eq_false_iff_eq.mpr c53
                                              clear c53
                                              by_cases c54 : (l1.length : Int) = 1
                                              · rw [if_pos c54] at H
                                                have c54b0 : ((l1.length : Int) == 1) = true := beq_iff_eq.mpr c54
                                                have c54b1 : ((l1.length : Int) != 1) = false := bne_eq_false_iff_eq.mpr c54
                                                clear c54
                                                simp only [Option.some.injEq, Prod.mk.injEq] at H
                                                obtain ⟨rfl, rfl, rfl, rfl, rfl, rfl⟩ := H
                                                have p121 : 0 ≤ (0 : Int) := (by omega)
                                                have q121 : 0 < (l1.length : Int) := of_decide_eq_true (by first | (with_reducible assumption) | assumption)
                                                obtain ⟨ad121, e121, hx121_0⟩ := Kd.at_string HR1.out 0 p121 q121
                                                cases e121
                                                have qi121 : (0 < l1.length) = True := eq_true (by omega)
                                                (try rw [show ((0 : Int)).toNat = 0 from rfl] at hx121_0)
                                                (try rw [Addr.add_zero'] at hx121_0)
                                                replace hx121_0 := (HB.out.cell (World.block_lt_of_cell? w _ hx121_0)).trans hx121_0
                                                replace p121 := eq_true p121
                                                replace q121 := eq_true q121
                                                have hcz55_0 : wc.cell? ⟨gb107, 0, none⟩ = some (.int .i64 0) := (blk_cell BK107.out 0).trans rfl
                                                have hcz55_1 : wc.cell? ⟨gb107, 1, none⟩ = some (.int .i64 0) := (blk_cell BK107.out 1).trans rfl
                                                have hcz55_2 : wc.cell? ⟨gb107, 2, none⟩ = some (.int .i64 0) := (blk_cell BK107.out 2).trans rfl
                                                have hcz55_3 : wc.cell? ⟨gb107, 3, none⟩ = some (.string (⟨#[]⟩ : ByteArray)) := (blk_cell BK107.out 3).trans rfl
                                                have hcz55_4 : wc.cell? ⟨gb107, 4, none⟩ = some (.string (⟨#[]⟩ : ByteArray)) := (blk_cell BK107.out 4).trans rfl
                                                have hfz55_0 := blk_frozen BK107.out 0
                                                have hfz55_1 := blk_frozen BK107.out 1
                                                have hfz55_2 := blk_frozen BK107.out 2
                                                have hfz55_3 := blk_frozen BK107.out 3
                                                have hfz55_4 := blk_frozen BK107.out 4
                                                go_wp2
                                                refine bodyPost_ret (results_ct rfl _ _ gb107 59 #[.int .i64 7, .int .i64 0, .int .i64 0, .string (⟨#[]⟩ : ByteArray), .string (⟨#[]⟩ : ByteArray)] (0, 0) _ rfl (by (with_reducible repeat (first | refine blk_drewN ?_ _ | refine blk_drew ?_ | refine blk_alloc ?_ _)); refine blk_put (cs := #[.int .i64 7, .int .i64 0, .int .i64 0, .string (⟨#[]⟩ : ByteArray), .string (⟨#[]⟩ : ByteArray)]) ?_ 4 _ rfl; (with_reducible repeat (first | refine blk_drewN ?_ _ | refine blk_drew ?_ | refine blk_alloc ?_ _)); refine blk_put (cs := #[.int .i64 7, .int .i64 0, .int .i64 0, .string (⟨#[]⟩ : ByteArray), .string (⟨#[]⟩ : ByteArray)]) ?_ 3 _ rfl; (with_reducible repeat (first | refine blk_drewN ?_ _ | refine blk_drew ?_ | refine blk_alloc ?_ _)); refine blk_put (cs := #[.int .i64 7, .int .i64 0, .int .i64 0, .string (⟨#[]⟩ : ByteArray), .string (⟨#[]⟩ : ByteArray)]) ?_ 2 _ rfl; (with_reducible repeat (first | refine blk_drewN ?_ _ | refine blk_drew ?_ | refine blk_alloc ?_ _)); refine blk_put (cs := #[.int .i64 7, .int .i64 0, .int .i64 0, .string (⟨#[]⟩ : ByteArray), .string (⟨#[]⟩ : ByteArray)]) ?_ 1 _ rfl; (with_reducible repeat (first | refine blk_drewN ?_ _ | refine blk_drew ?_ | refine blk_alloc ?_ _)); refine blk_put (cs := #[.int .i64 0, .int .i64 0, .int .i64 0, .string (⟨#[]⟩ : ByteArray), .string (⟨#[]⟩ : ByteArray)]) ?_ 0 _ rfl; (with_reducible repeat (first | refine blk_drewN ?_ _ | refine blk_drew ?_ | refine blk_alloc ?_ _)); exact BK107.out) Tryd.underlying59 rfl (by kernel_rfl)) rfl ?_
                                                exact ⟨by first | rfl | (simp only [nil_beq, nil_bne]; rfl) | (simp [nil_beq, nil_bne]; done) | (simp [errW_none, errW_some] <;> rfl) | (simp [*, errW_none, errW_some] <;> rfl), by repeat (first | (with_reducible first | exact HB.out | apply below_alloc | apply pw_below_drewN | apply below_drew1 | refine below_set ?_ GE107.out) | exact HB.out)⟩
                                              · rw [if_neg c54] at H
                                                have c54b0 : ((l1.length : Int) == 1) = false := beq_eq_false_iff_ne.mpr c54
                                                have c54b1 : ((l1.length : Int) != 1) = true := bne_iff_ne.mpr c54
                                                simp only [Option.some.injEq, Prod.mk.injEq] at H
                                                obtain ⟨rfl, rfl, rfl, rfl, rfl, rfl⟩ := H
                                                have p121 : 0 ≤ (0 : Int) := (by omega)
                                                have q121 : 0 < (l1.length : Int) := of_decide_eq_true (by first | (with_reducible assumption) | assumption)
                                                obtain ⟨ad121, e121, hx121_0⟩ := Kd.at_string HR1.out 0 p121 q121
                                                cases e121
                                                have qi121 : (0 < l1.length) = True := eq_true (by omega)
                                                (try rw [show ((0 : Int)).toNat = 0 from rfl] at hx121_0)
                                                (try rw [Addr.add_zero'] at hx121_0)
                                                replace hx121_0 := (HB.out.cell (World.block_lt_of_cell? w _ hx121_0)).trans hx121_0
                                                replace p121 := eq_true p121
                                                replace q121 := eq_true q121
                                                have hcz56_0 : wc.cell? ⟨gb107, 0, none⟩ = some (.int .i64 0) := (blk_cell BK107.out 0).trans rfl
                                                have hcz56_1 : wc.cell? ⟨gb107, 1, none⟩ = some (.int .i64 0) := (blk_cell BK107.out 1).trans rfl
                                                have hcz56_2 : wc.cell? ⟨gb107, 2, none⟩ = some (.int .i64 0) := (blk_cell BK107.out 2).trans rfl
                                                have hcz56_3 : wc.cell? ⟨gb107, 3, none⟩ = some (.string (⟨#[]⟩ : ByteArray)) := (blk_cell BK107.out 3).trans rfl
                                                have hcz56_4 : wc.cell? ⟨gb107, 4, none⟩ = some (.string (⟨#[]⟩ : ByteArray)) := (blk_cell BK107.out 4).trans rfl
                                                have hfz56_0 := blk_frozen BK107.out 0
                                                have hfz56_1 := blk_frozen BK107.out 1
                                                have hfz56_2 := blk_frozen BK107.out 2
                                                have hfz56_3 := blk_frozen BK107.out 3
                                                have hfz56_4 := blk_frozen BK107.out 4
                                                go_wp2
                                                refine bodyPost_ret (results_ct rfl _ _ gb107 59 #[.int .i64 0, .int .i64 0, .int .i64 0, .string (⟨#[]⟩ : ByteArray), .string (⟨#[]⟩ : ByteArray)] (0, 0) _ rfl (by (with_reducible repeat (first | refine blk_drewN ?_ _ | refine blk_drew ?_ | refine blk_alloc ?_ _)); refine blk_put (cs := #[.int .i64 0, .int .i64 0, .int .i64 0, .string (⟨#[]⟩ : ByteArray), .string (⟨#[]⟩ : ByteArray)]) ?_ 4 _ rfl; (with_reducible repeat (first | refine blk_drewN ?_ _ | refine blk_drew ?_ | refine blk_alloc ?_ _)); refine blk_put (cs := #[.int .i64 0, .int .i64 0, .int .i64 0, .string (⟨#[]⟩ : ByteArray), .string (⟨#[]⟩ : ByteArray)]) ?_ 3 _ rfl; (with_reducible repeat (first | refine blk_drewN ?_ _ | refine blk_drew ?_ | refine blk_alloc ?_ _)); refine blk_put (cs := #[.int .i64 0, .int .i64 0, .int .i64 0, .string (⟨#[]⟩ : ByteArray), .string (⟨#[]⟩ : ByteArray)]) ?_ 2 _ rfl; (with_reducible repeat (first | refine blk_drewN ?_ _ | refine blk_drew ?_ | refine blk_alloc ?_ _)); refine blk_put (cs := #[.int .i64 0, .int .i64 0, .int .i64 0, .string (⟨#[]⟩ : ByteArray), .string (⟨#[]⟩ : ByteArray)]) ?_ 1 _ rfl; (with_reducible repeat (first | refine blk_drewN ?_ _ | refine blk_drew ?_ | refine blk_alloc ?_ _)); refine blk_put (cs := #[.int .i64 0, .int .i64 0, .int .i64 0, .string (⟨#[]⟩ : ByteArray), .string (⟨#[]⟩ : ByteArray)]) ?_ 0 _ rfl; (with_reducible repeat (first | refine blk_drewN ?_ _ | refine blk_drew ?_ | refine blk_alloc ?_ _)); exact BK107.out) Tryd.underlying59 rfl (by kernel_rfl)) rfl ?_
                                                exact ⟨by first | rfl | (simp only [nil_beq, nil_bne]; rfl) | (simp [nil_beq, nil_bne]; done) | (simp [errW_none, errW_some] <;> rfl) | (simp [*, errW_none, errW_some] <;> rfl), by repeat (first | (with_reducible first | exact HB.out | apply below_alloc | apply pw_below_drewN | apply below_drew1 | refine below_set ?_ GE107.out) | exact HB.out)⟩
                                            · rw [if_neg c53] at H
                                              have c53b0 : ((rdOf ByteArray.empty l1 0).toList == ([99, 114, 97, 115, 104] : List UInt8)) = false := beq_eq_false_iff_ne.mpr c53
                                              have c53b1 : ((rdOf ByteArray.empty l1 0).toList != ([99, 114, 97, 115, 104] : List UInt8)) = true := bne_iff_ne.mpr c53
                                              simp only [Option.some.injEq, Prod.mk.injEq] at H
                                              obtain ⟨rfl, rfl, rfl, rfl, rfl, rfl⟩ := H
                                              have p121 : 0 ≤ (0 : Int) := (by omega)
                                              have q121 : 0 < (l1.length : Int) := of_decide_eq_true (by first | (with_reducible assumption) | assumption)
                                              obtain ⟨ad121, e121, hx121_0⟩ := Kd.at_string HR1.out 0 p121 q121
                                              cases e121
                                              have qi121 : (0 < l1.length) = True := eq_true (by omega)
                                              (try rw [show ((0 : Int)).toNat = 0 from rfl] at hx121_0)
                                              (try rw [Addr.add_zero'] at hx121_0)
                                              replace hx121_0 := (HB.out.cell (World.block_lt_of_cell? w _ hx121_0)).trans hx121_0
                                              replace p121 := eq_true p121
                                              replace q121 := eq_true q121
                                              have hcz57_0 : wc.cell? ⟨gb107, 0, none⟩ = some (.int .i64 0) := (blk_cell BK107.out 0).trans rfl
                                              have hcz57_1 : wc.cell? ⟨gb107, 1, none⟩ = some (.int .i64 0) := (blk_cell BK107.out 1).trans rfl
                                              have hcz57_2 : wc.cell? ⟨gb107, 2, none⟩ = some (.int .i64 0) := (blk_cell BK107.out 2).trans rfl
                                              have hcz57_3 : wc.cell? ⟨gb107, 3, none⟩ = some (.string (⟨#[]⟩ : ByteArray)) := (blk_cell BK107.out 3).trans rfl
                                              have hcz57_4 : wc.cell? ⟨gb107, 4, none⟩ = some (.string (⟨#[]⟩ : ByteArray)) := (blk_cell BK107.out 4).trans rfl
                                              have hfz57_0 := blk_frozen BK107.out 0
                                              have hfz57_1 := blk_frozen BK107.out 1
                                              have hfz57_2 := blk_frozen BK107.out 2
                                              have hfz57_3 := blk_frozen BK107.out 3
                                              have hfz57_4 := blk_frozen BK107.out 4
                                              go_wp2
                                              refine bodyPost_ret (results_ct rfl _ _ gb107 59 #[.int .i64 0, .int .i64 0, .int .i64 0, .string (⟨#[]⟩ : ByteArray), .string (⟨#[]⟩ : ByteArray)] (0, 0) _ rfl (by (with_reducible repeat (first | refine blk_drewN ?_ _ | refine blk_drew ?_ | refine blk_alloc ?_ _)); refine blk_put (cs := #[.int .i64 0, .int .i64 0, .int .i64 0, .string (⟨#[]⟩ : ByteArray), .string (⟨#[]⟩ : ByteArray)]) ?_ 4 _ rfl; (with_reducible repeat (first | refine blk_drewN ?_ _ | refine blk_drew ?_ | refine blk_alloc ?_ _)); refine blk_put (cs := #[.int .i64 0, .int .i64 0, .int .i64 0, .string (⟨#[]⟩ : ByteArray), .string (⟨#[]⟩ : ByteArray)]) ?_ 3 _ rfl; (with_reducible repeat (first | refine blk_drewN ?_ _ | refine blk_drew ?_ | refine blk_alloc ?_ _)); refine blk_put (cs := #[.int .i64 0, .int .i64 0, .int .i64 0, .string (⟨#[]⟩ : ByteArray), .string (⟨#[]⟩ : ByteArray)]) ?_ 2 _ rfl; (with_reducible repeat (first | refine blk_drewN ?_ _ | refine blk_drew ?_ | refine blk_alloc ?_ _)); refine blk_put (cs := #[.int .i64 0, .int .i64 0, .int .i64 0, .string (⟨#[]⟩ : ByteArray), .string (⟨#[]⟩ : ByteArray)]) ?_ 1 _ rfl; (with_reducible repeat (first | refine blk_drewN ?_ _ | refine blk_drew ?_ | refine blk_alloc ?_ _)); refine blk_put (cs := #[.int .i64 0, .int .i64 0, .int .i64 0, .string (⟨#[]⟩ : ByteArray), .string (⟨#[]⟩ : ByteArray)]) ?_ 0 _ rfl; (with_reducible repeat (first | refine blk_drewN ?_ _ | refine blk_drew ?_ | refine blk_alloc ?_ _)); exact BK107.out) Tryd.underlying59 rfl (by kernel_rfl)) rfl ?_
                                              exact ⟨by first | rfl | (simp only [nil_beq, nil_bne]; rfl) | (simp [nil_beq, nil_bne]; done) | (simp [errW_none, errW_some] <;> rfl) | (simp [*, errW_none, errW_some] <;> rfl), by repeat (first | (with_reducible first | exact HB.out | apply below_alloc | apply pw_below_drewN | apply below_drew1 | refine below_set ?_ GE107.out) | exact HB.out)⟩
                                          · rw [if_neg c52] at H
                                            exact absurd H (by simp)

end Go.Proofs.YtnphhnhnmohfiaaDoor.PFnExactReadLine
