/- Contracts of the functions that a statement reaches: written for this seat by wip/x/xprint.py over the kit's print, with own contracts for what the print lacks. -/
import Derived.Test.YtnphhnhnmohfiaaDoorPFnExactViewUpdatesx0
import Derived.Test.YtnphhnhnmohfiaaDoorPFnExactViewUpdatesx6
namespace Go.Proofs.YtnphhnhnmohfiaaDoor.PFnExactViewUpdates
open Go.RowKit Go.Proofs.YtnphhnhnmohfiaaDoorW.PrintWords Go.Proofs.YtnphhnhnmohfiaaDoorW.PrintLast Go.Proofs.YtnphhnhnmohfiaaDoorW.PrintMore Go.Proofs.YtnphhnhnmohfiaaDoor.Mac
attribute [local go_sem] max2_int min2_int max_two min_two max_three min_three max_four min_four   -- for this text's walks alone
set_option linter.unusedVariables false
set_option linter.unusedSimpArgs false

/-! ### impl_viewOK: function 50 -/
def impl_viewOK.l0 : Nat → Int → List Int → Int → Int → Option (Bool)
 | 0, _, _, _, _ => none
 | k + 1, x3, x6, x7, x8 => if x8 < x7 then (if 0 ≤ x8 then (if x8 < (x6.length : Int) then ((impl_within.f (rd x6 x8) (wrap64 (x3 + 1)) 1000).bind fun t228 => (if t228 = true then (impl_viewOK.l0 k (rd x6 x8) x6 x7 (wrap64 (x8 + 1))) else (some false))) else (none)) else (none)) else (some true)
def impl_viewOK.f (k : Nat) (l0 : List Int) : Option (Bool) := impl_viewOK.l0 k 0 l0 (l0.length : Int) 0
theorem impl_viewOK.mono_l : ∀ k, (∀ y0 y1 y2 y3, LeO (impl_viewOK.l0 k y0 y1 y2 y3) (impl_viewOK.l0 (k + 1) y0 y1 y2 y3))
 | 0 => fun _ _ _ _ r h => by simp [impl_viewOK.l0] at h
 | k + 1 => by
  have ih0 := impl_viewOK.mono_l k
  ·intro y0 y1 y2 y3
   unfold impl_viewOK.l0
   repeat' first
   | (with_reducible exact ih0 _ _ _ _)
   | (with_reducible exact LeO.refl _)
   | (with_reducible exact LeO.none _)
   | (with_reducible refine LeO.ite ?_ ?_)
   | (with_reducible refine LeO.bind ?_ (fun _ => ?_))
   | exact ih0 _ _ _ _
   | exact LeO.none _
   | refine LeO.ite ?_ ?_
   | refine LeO.bind ?_ (fun _ => ?_)
theorem impl_viewOK.mono : ∀ a0 k, LeO (impl_viewOK.f k a0) (impl_viewOK.f (k + 1) a0) := by
 intro a0 k
 have ih0 := impl_viewOK.mono_l k
 unfold impl_viewOK.f
 repeat' first
   | (with_reducible exact ih0 _ _ _ _)
   | (with_reducible exact LeO.refl _)
   | (with_reducible exact LeO.none _)
   | (with_reducible refine LeO.ite ?_ ?_)
   | (with_reducible refine LeO.bind ?_ (fun _ => ?_))
   | exact ih0 _ _ _ _
   | exact LeO.none _
   | refine LeO.ite ?_ ?_
   | refine LeO.bind ?_ (fun _ => ?_)
set_option maxHeartbeats 40000000 in
set_option maxRecDepth 100000 in
theorem impl_viewOK.calls (k : Nat) (A0 : Option Addr) (c0 : Nat) (l0 : List Int) (r : Bool) (w : World) (hr0 : Kd.C (Kd.int .i64) w A0 l0.length l0) (hc0 : l0.length ≤ c0) (h : impl_viewOK.f k l0 = some r) :
  Calls Tryd.prog 50 #[.slice A0 l0.length c0] w fun e w' => e = .returned (.bool r) ∧ Drawn0 w w' := by
 have HR0 := Aside0.mk hr0
 have HC0 := Aside0.mk hc0
 clear hr0 hc0
 have H : (impl_viewOK.l0 k 0 l0 (l0.length : Int) 0) = some r := h
 clear h
 have H' := Aside0.mk H
 clear H
 go_enter Tryd.func50, Tryd.ntmps50
 go_wp2
 go_loopg [3, 8] k (fun kq v3 v8 w' => ∃ (x3_1 : Int) (x8_1 : Int), v3 = .int .i64 x3_1 ∧ v8 = .int .i64 x8_1 ∧ Aside0 (impl_viewOK.l0 kq x3_1 l0 (l0.length : Int) x8_1 = some r) ∧ Aside0 (kq ≤ k) ∧ Drawn0 w w')
 case atStart => exact ⟨(0), (0), (t0), (t0), H', ⟨Nat.le_refl _⟩, by repeat (first | exact Drawn0.refl _ | apply Drawn0.step)⟩
 case round =>
  clear H'
  obtain ⟨x3_1, x8_1, rfl, rfl, HA, HK1, ⟨m1, rfl⟩⟩ := hrel
  cases gk with
  | zero => exact absurd HA.out (by simp [impl_viewOK.l0])
  | succ k1 =>
   have H := HA.out
   clear HA
   simp only [impl_viewOK.l0] at H
   by_cases c2 : x8_1 < (l0.length : Int)
   ·rw [if_pos c2] at H
    have c2b0 : decide (x8_1 < (l0.length : Int)) = true := decide_eq_true c2
    clear c2
    by_cases c3 : 0 ≤ x8_1
    ·rw [if_pos c3] at H
     have c3b0 : decide (0 ≤ x8_1) = true := decide_eq_true c3
     clear c3
     by_cases c4 : x8_1 < (l0.length : Int)
     ·rw [if_pos c4] at H
      have c4b0 : decide (x8_1 < (l0.length : Int)) = true := decide_eq_true c4
      clear c4
      replace H := Option.bind_eq_some_iff.mp H
      obtain ⟨t228, A50, H⟩ := H
      replace H : (if t228 = true then (impl_viewOK.l0 k1 (rd l0 x8_1) l0 (l0.length : Int) (wrap64 (x8_1 + 1))) else (some false)) = some r := H
      have A5 := Aside0.mk A50
      clear A50
      by_cases c6 : t228 = true
      ·subst c6
       have H1 : (impl_viewOK.l0 k1 (rd l0 x8_1) l0 (l0.length : Int) (wrap64 (x8_1 + 1))) = some r := by rw [if_pos rfl] at H; exact H
       clear H
       have H := H1
       clear H1
       have H' := Aside0.mk H
       clear H
       have p227 : 0 ≤ (x8_1 : Int) := of_decide_eq_true (t3)
       have q227 : x8_1 < (l0.length : Int) := of_decide_eq_true (t3)
       obtain ⟨ad227, e227, hx227_0⟩ := Kd.at_int HR0.out x8_1 p227 q227
       cases e227
       replace p227 := eq_true p227
       replace q227 := eq_true q227
       go_wp2_with (first | ((with_reducible refine gate_callee (f := 81) rfl ?_); refine goesL_ (some 15) rfl rfl Tryd.func81 (t23) rfl #[.int .i64 (rd l0 x8_1), .int .i64 (wrap64 (x3_1 + 1)), .int .i64 1000] rfl (t2) ?_; (with_reducible refine (impl_within.calls (rd l0 x8_1) (wrap64 (x3_1 + 1)) 1000 true _ A5.out).mono ?_); rintro e w' ⟨rfl, ⟨nd, rfl⟩⟩; refine ⟨_, rfl, ?_⟩))
       go_roundg k1
       case measure => have := HK1.out; omega
       case rel => exact ⟨(rd l0 x8_1), (wrap64 (x8_1 + 1)), (t0), (t0), H', ⟨t59⟩, by repeat (first | exact Drawn0.refl _ | apply Drawn0.step)⟩
      ·replace c6 := Bool.eq_false_iff.mpr c6
       subst c6
       have H1 : (some false) = some r := by rw [if_neg (show ¬ (false = true) by decide)] at H; exact H
       clear H
       have H := H1
       clear H1
       obtain rfl := Option.some.inj H
       have p227 : 0 ≤ (x8_1 : Int) := of_decide_eq_true (t3)
       have q227 : x8_1 < (l0.length : Int) := of_decide_eq_true (t3)
       obtain ⟨ad227, e227, hx227_0⟩ := Kd.at_int HR0.out x8_1 p227 q227
       cases e227
       replace p227 := eq_true p227
       replace q227 := eq_true q227
       go_wp2_with (first | ((with_reducible refine gate_callee (f := 81) rfl ?_); refine goesL_ (some 15) rfl rfl Tryd.func81 (t23) rfl #[.int .i64 (rd l0 x8_1), .int .i64 (wrap64 (x3_1 + 1)), .int .i64 1000] rfl (t2) ?_; (with_reducible refine (impl_within.calls (rd l0 x8_1) (wrap64 (x3_1 + 1)) 1000 false _ A5.out).mono ?_); rintro e w' ⟨rfl, ⟨nd, rfl⟩⟩; refine ⟨_, rfl, ?_⟩))
       go_ret
       exact ⟨t0, by repeat (first | exact Drawn0.refl _ | apply Drawn0.step)⟩
     ·rw [if_neg c4] at H
      exact absurd H (t50)
    ·rw [if_neg c3] at H
     exact absurd H (t50)
   ·rw [if_neg c2] at H
    have c2b0 : decide (x8_1 < (l0.length : Int)) = false := decide_eq_false c2
    clear c2
    obtain rfl := Option.some.inj H
    go_wp2
    go_ret
    exact ⟨t0, by repeat (first | exact Drawn0.refl _ | apply Drawn0.step)⟩

/-- A state of type 32 at block g of W; what its slices lead to came in by w0. -/
def IsS32 (w0 W : World) (g : Nat) (f0 : ByteArray) (f1 : Int) (f2 : Int) (f3 : List (S67)) (f4 : List ByteArray) : Prop := ∃ A3 c3, ∃ A4 c4, W.heap[g]? = some (.cells #[.string f0, .int .i64 f1, .int .i64 f2, .slice A3 f3.length c3, .slice A4 f4.length c4] 32 (0, 0)) ∧ w0.heap.size ≤ g ∧ Kd.C k67 w0 A3 f3.length f3 ∧ Kd.C Kd.string w0 A4 f4.length f4
theorem IsS32.grown {w0 W : World} {g : Nat} {f0 : ByteArray} {f1 : Int} {f2 : Int} {f3 : List (S67)} {f4 : List ByteArray} {W1 : World} {row : Option Nat} (h : IsS32 w0 W g f0 f1 f2 f3 f4) (hw : W.grownBy W1 row) (hne : some g ≠ row) : IsS32 w0 W1 g f0 f1 f2 f3 f4 := by
 obtain ⟨A3, c3, A4, c4, hb, hg, hr3, hr4⟩ := h
 exact ⟨A3, c3, A4, c4, blk_grown hb hw hne, hg, hr3, hr4⟩
theorem IsS32.own_neN {w0 W : World} {g : Nat} {f0 : ByteArray} {f1 : Int} {f2 : Int} {f3 : List (S67)} {f4 : List ByteArray} {α : Type} {d : Kd α} {e : Nat} {base : Nat} {ok : Nat → Prop} {v : Value} {xs : List α} (h : IsS32 w0 W g f0 f1 f2 f3 f4) (ho : Kd.N d e W base ok v xs) (ht : e ≠ 32) : some g ≠ v.ownBlock := by
 obtain ⟨A3, c3, A4, c4, hb, hg, hr3, hr4⟩ := h
 exact Kd.N_ne ho hb ht
theorem IsS32.fresh {w0 W : World} {g : Nat} {f0 : ByteArray} {f1 : Int} {f2 : Int} {f3 : List (S67)} {f4 : List ByteArray} (h : IsS32 w0 W g f0 f1 f2 f3 f4) : ∀ k, W.heap.size ≤ k → k ≠ g := by
 obtain ⟨A3, c3, A4, c4, hb, hg, hr3, hr4⟩ := h
 exact Kd.freshB hb
theorem IsS32.kept {w0 W : World} {g : Nat} {f0 : ByteArray} {f1 : Int} {f2 : Int} {f3 : List (S67)} {f4 : List ByteArray} {W1 : World} {S : Nat → Prop} (h : IsS32 w0 W g f0 f1 f2 f3 f4) (hk : Kept W W1 S) (hne : ¬ S g) : IsS32 w0 W1 g f0 f1 f2 f3 f4 := by
 obtain ⟨A3, c3, A4, c4, hb, hg, hr3, hr4⟩ := h
 exact ⟨A3, c3, A4, c4, blk_kept hb hk hne, hg, hr3, hr4⟩
theorem IsS32.below {w0 W : World} {g : Nat} {f0 : ByteArray} {f1 : Int} {f2 : Int} {f3 : List (S67)} {f4 : List ByteArray} {W1 : World} (h : IsS32 w0 W g f0 f1 f2 f3 f4) (hw : Below W.heap.size W W1) : IsS32 w0 W1 g f0 f1 f2 f3 f4 := h.grown (grown_of_below hw none) (t50)
theorem IsS32.alloc {w0 W : World} {g : Nat} {f0 : ByteArray} {f1 : Int} {f2 : Int} {f3 : List (S67)} {f4 : List ByteArray} (h : IsS32 w0 W g f0 f1 f2 f3 f4) (o : Obj) : IsS32 w0 (W.alloc o) g f0 f1 f2 f3 f4 := h.below (below_alloc (Below.refl _ _) o)
theorem IsS32.drewN {w0 W : World} {g : Nat} {f0 : ByteArray} {f1 : Int} {f2 : Int} {f3 : List (S67)} {f4 : List ByteArray} (h : IsS32 w0 W g f0 f1 f2 f3 f4) (m : Nat) : IsS32 w0 (W.drewN m) g f0 f1 f2 f3 f4 := h
theorem IsS32.drew {w0 W : World} {g : Nat} {f0 : ByteArray} {f1 : Int} {f2 : Int} {f3 : List (S67)} {f4 : List ByteArray} (h : IsS32 w0 W g f0 f1 f2 f3 f4) : IsS32 w0 W.drew g f0 f1 f2 f3 f4 := h
theorem IsS32.at_ {w0 W : World} {g : Nat} {f0 : ByteArray} {f1 : Int} {f2 : Int} {f3 : List (S67)} {f4 : List ByteArray} {w' : World} {m : Nat} (hq : W.drewN m = w') (h : IsS32 w0 W g f0 f1 f2 f3 f4) : IsS32 w0 w' g f0 f1 f2 f3 f4 := by subst hq; exact IsS32.drewN h m
theorem IsS32.apart {w0 W : World} {g : Nat} {f0 : ByteArray} {f1 : Int} {f2 : Int} {f3 : List (S67)} {f4 : List ByteArray} {α : Type} {d : Kd α} {e : Nat} {base : Nat} {ok : Nat → Prop} {v : Value} {xs : List α} (h : IsS32 w0 W g f0 f1 f2 f3 f4) (ho : d.R e W base ok v xs) (ht : ∀ q, q ∈ e :: d.E → q ≠ 32) : d.R e W base (fun k => ok k ∧ k ≠ g) v xs := by
 obtain ⟨A3, c3, A4, c4, hb, hg, hr3, hr4⟩ := h
 exact Kd.R_types ho hb ht
theorem IsS32.own_ne {w0 W : World} {g : Nat} {f0 : ByteArray} {f1 : Int} {f2 : Int} {f3 : List (S67)} {f4 : List ByteArray} {α : Type} {d : Kd α} {e : Nat} {base : Nat} {ok : Nat → Prop} {v : Value} {xs : List α} (h : IsS32 w0 W g f0 f1 f2 f3 f4) (ho : d.R e W base ok v xs) (ht : e ≠ 32) : some g ≠ v.ownBlock := by
 obtain ⟨A3, c3, A4, c4, hb, hg, hr3, hr4⟩ := h
 exact Kd.R_ne ho hb ht
theorem IsS32.apartQ {w0 W : World} {g : Nat} {f0 : ByteArray} {f1 : Int} {f2 : Int} {f3 : List (S67)} {f4 : List ByteArray} {α : Type} {d : Kd α} {e : Nat} {base : Nat} {ok : Nat → Prop} {v : Value} {xs : List α} (h : IsS32 w0 W g f0 f1 f2 f3 f4) (ho : d.Q e W base ok v xs) (ht : ∀ q, q ∈ e :: d.E → q ≠ 32) : d.Q e W base (fun k => ok k ∧ k ≠ g) v xs := by
 obtain ⟨A3, c3, A4, c4, hb, hg, hr3, hr4⟩ := h
 exact Kd.Q_types ho hb ht
theorem IsS32.own_neQ {w0 W : World} {g : Nat} {f0 : ByteArray} {f1 : Int} {f2 : Int} {f3 : List (S67)} {f4 : List ByteArray} {α : Type} {d : Kd α} {e : Nat} {base : Nat} {ok : Nat → Prop} {v : Value} {xs : List α} (h : IsS32 w0 W g f0 f1 f2 f3 f4) (ho : d.Q e W base ok v xs) (ht : e ≠ 32) : some g ≠ v.ownBlock := by
 obtain ⟨A3, c3, A4, c4, hb, hg, hr3, hr4⟩ := h
 exact Kd.Q_ne ho hb ht
theorem IsS32.apartS {w0 W : World} {g : Nat} {f0 : ByteArray} {f1 : Int} {f2 : Int} {f3 : List (S67)} {f4 : List ByteArray} {α : Type} {d : Kd α} {e : Nat} {base : Nat} {ok : Nat → Prop} {v : Value} {xs : List α} (h : IsS32 w0 W g f0 f1 f2 f3 f4) (ho : d.S e W base ok v xs) (ht : ∀ q, q ∈ e :: d.E → q ≠ 32) : d.S e W base (fun k => ok k ∧ k ≠ g) v xs := by
 obtain ⟨A3, c3, A4, c4, hb, hg, hr3, hr4⟩ := h
 exact Kd.S_types ho hb ht
theorem IsS32.own_neS {w0 W : World} {g : Nat} {f0 : ByteArray} {f1 : Int} {f2 : Int} {f3 : List (S67)} {f4 : List ByteArray} {α : Type} {d : Kd α} {e : Nat} {base : Nat} {ok : Nat → Prop} {v : Value} {xs : List α} (h : IsS32 w0 W g f0 f1 f2 f3 f4) (ho : d.S e W base ok v xs) (ht : e ≠ 32) : some g ≠ v.ownBlock := by
 obtain ⟨A3, c3, A4, c4, hb, hg, hr3, hr4⟩ := h
 exact Kd.S_ne ho hb ht
theorem IsS32.lt {w0 W : World} {g : Nat} {f0 : ByteArray} {f1 : Int} {f2 : Int} {f3 : List (S67)} {f4 : List ByteArray} (h : IsS32 w0 W g f0 f1 f2 f3 f4) : g < W.heap.size := by
 obtain ⟨A3, c3, A4, c4, hb, hg, hr3, hr4⟩ := h
 exact blk_lt hb
theorem IsS32.ge {w0 W : World} {g : Nat} {f0 : ByteArray} {f1 : Int} {f2 : Int} {f3 : List (S67)} {f4 : List ByteArray} (h : IsS32 w0 W g f0 f1 f2 f3 f4) : w0.heap.size ≤ g := by
 obtain ⟨A3, c3, A4, c4, hb, hg, hr3, hr4⟩ := h
 exact hg
theorem IsS32.ne_blk {w0 W : World} {g : Nat} {f0 : ByteArray} {f1 : Int} {f2 : Int} {f3 : List (S67)} {f4 : List ByteArray} {a : Nat} {cs : Array Value} {t : TypeId} {fr : Nat × Nat} (h : IsS32 w0 W g f0 f1 f2 f3 f4) (hb2 : W.heap[a]? = some (.cells cs t fr)) (ht : t ≠ 32) : g ≠ a := by
 obtain ⟨A3, c3, A4, c4, hb, hg, hr3, hr4⟩ := h
 rintro rfl
 rw [hb] at hb2
 injection hb2 with hb2
 injection hb2 with _ ht2
 exact ht ht2.symm
theorem IsS32.far {w0 W : World} {g : Nat} {f0 : ByteArray} {f1 : Int} {f2 : Int} {f3 : List (S67)} {f4 : List ByteArray} {p : Addr} (h : IsS32 w0 W g f0 f1 f2 f3 f4) (hne : g ≠ p.block) (u : Value) : IsS32 w0 (W.setCell p u) g f0 f1 f2 f3 f4 := by
 obtain ⟨A3, c3, A4, c4, hb, hg, hr3, hr4⟩ := h
 exact ⟨A3, c3, A4, c4, blk_far hb hne u, hg, hr3, hr4⟩
theorem cellS32_0 {W : World} {g : Nat} {A3 : Option Addr} {c3 : Nat} {A4 : Option Addr} {c4 : Nat} {f0 : ByteArray} {f1 : Int} {f2 : Int} {f3 : List (S67)} {f4 : List ByteArray} (h : W.heap[g]? = some (.cells #[.string f0, .int .i64 f1, .int .i64 f2, .slice A3 f3.length c3, .slice A4 f4.length c4] 32 (0, 0))) : W.cell? ⟨g, 0, none⟩ = some (.string f0) := (blk_cell h 0).trans rfl
theorem IsS32.set_0 {w0 W : World} {g : Nat} {f0 : ByteArray} {f1 : Int} {f2 : Int} {f3 : List (S67)} {f4 : List ByteArray} (h : IsS32 w0 W g f0 f1 f2 f3 f4) (x : ByteArray) : IsS32 w0 (W.setCell ⟨g, 0, none⟩ (.string x)) g x f1 f2 f3 f4 := by
 obtain ⟨A3, c3, A4, c4, hb, hg, hr3, hr4⟩ := h
 exact ⟨A3, c3, A4, c4, by simpa using blk_set hb 0 (.string x), hg, hr3, hr4⟩
theorem cellS32_1 {W : World} {g : Nat} {A3 : Option Addr} {c3 : Nat} {A4 : Option Addr} {c4 : Nat} {f0 : ByteArray} {f1 : Int} {f2 : Int} {f3 : List (S67)} {f4 : List ByteArray} (h : W.heap[g]? = some (.cells #[.string f0, .int .i64 f1, .int .i64 f2, .slice A3 f3.length c3, .slice A4 f4.length c4] 32 (0, 0))) : W.cell? ⟨g, 1, none⟩ = some (.int .i64 f1) := (blk_cell h 1).trans rfl
theorem IsS32.set_1 {w0 W : World} {g : Nat} {f0 : ByteArray} {f1 : Int} {f2 : Int} {f3 : List (S67)} {f4 : List ByteArray} (h : IsS32 w0 W g f0 f1 f2 f3 f4) (x : Int) : IsS32 w0 (W.setCell ⟨g, 1, none⟩ (.int .i64 x)) g f0 x f2 f3 f4 := by
 obtain ⟨A3, c3, A4, c4, hb, hg, hr3, hr4⟩ := h
 exact ⟨A3, c3, A4, c4, by simpa using blk_set hb 1 (.int .i64 x), hg, hr3, hr4⟩
theorem cellS32_2 {W : World} {g : Nat} {A3 : Option Addr} {c3 : Nat} {A4 : Option Addr} {c4 : Nat} {f0 : ByteArray} {f1 : Int} {f2 : Int} {f3 : List (S67)} {f4 : List ByteArray} (h : W.heap[g]? = some (.cells #[.string f0, .int .i64 f1, .int .i64 f2, .slice A3 f3.length c3, .slice A4 f4.length c4] 32 (0, 0))) : W.cell? ⟨g, 2, none⟩ = some (.int .i64 f2) := (blk_cell h 2).trans rfl
theorem IsS32.set_2 {w0 W : World} {g : Nat} {f0 : ByteArray} {f1 : Int} {f2 : Int} {f3 : List (S67)} {f4 : List ByteArray} (h : IsS32 w0 W g f0 f1 f2 f3 f4) (x : Int) : IsS32 w0 (W.setCell ⟨g, 2, none⟩ (.int .i64 x)) g f0 f1 x f3 f4 := by
 obtain ⟨A3, c3, A4, c4, hb, hg, hr3, hr4⟩ := h
 exact ⟨A3, c3, A4, c4, by simpa using blk_set hb 2 (.int .i64 x), hg, hr3, hr4⟩
theorem cellS32_3 {W : World} {g : Nat} {A3 : Option Addr} {c3 : Nat} {A4 : Option Addr} {c4 : Nat} {f0 : ByteArray} {f1 : Int} {f2 : Int} {f3 : List (S67)} {f4 : List ByteArray} (h : W.heap[g]? = some (.cells #[.string f0, .int .i64 f1, .int .i64 f2, .slice A3 f3.length c3, .slice A4 f4.length c4] 32 (0, 0))) : W.cell? ⟨g, 3, none⟩ = some (.slice A3 f3.length c3) := (blk_cell h 3).trans rfl
theorem cellS32_4 {W : World} {g : Nat} {A3 : Option Addr} {c3 : Nat} {A4 : Option Addr} {c4 : Nat} {f0 : ByteArray} {f1 : Int} {f2 : Int} {f3 : List (S67)} {f4 : List ByteArray} (h : W.heap[g]? = some (.cells #[.string f0, .int .i64 f1, .int .i64 f2, .slice A3 f3.length c3, .slice A4 f4.length c4] 32 (0, 0))) : W.cell? ⟨g, 4, none⟩ = some (.slice A4 f4.length c4) := (blk_cell h 4).trans rfl
theorem IsS32.new (w0 W : World) (A3 : Option Addr) (c3 : Nat) (A4 : Option Addr) (c4 : Nat) (f0 : ByteArray) (f1 : Int) (f2 : Int) (f3 : List (S67)) (f4 : List ByteArray) (hB : Below w0.heap.size w0 W) (hr3 : Kd.C k67 w0 A3 f3.length f3) (hr4 : Kd.C Kd.string w0 A4 f4.length f4) : IsS32 w0 (W.alloc (.cells #[.string f0, .int .i64 f1, .int .i64 f2, .slice A3 f3.length c3, .slice A4 f4.length c4] 32)) W.heap.size f0 f1 f2 f3 f4 := ⟨A3, c3, A4, c4, by simpa using heap_alloc_new W _, hB.size, hr3, hr4⟩
-- EXTERNAL: function 90 (impl_Box_mailIndex)
def idxU (u : Int) : List S67 → Int → Int
 | [], _ => -1
 | m :: r, i => if m.f0 = u then i else idxU u r (i + 1)
theorem idxU_drop (u : Int) (l : List S67) (k : Nat) (h : k < l.length) : idxU u (l.drop k) k = if (rd_T67 l (k : Int)).f0 = u then (k : Int) else idxU u (l.drop (k + 1)) ((k + 1 : Nat) : Int) := by
 rw [List.drop_eq_getElem_cons h, idxU]
 have e : rd_T67 l (k : Int) = l[k] := by unfold rd_T67; simp [List.getD, List.getElem?_eq_getElem h]
 rw [e]; rfl
theorem mailIs (x y : Int) (z : ByteArray) (B : Nat) (u : Int) (w : World) (hB : B < w.heap.size) (hc : w.cell? ⟨B, 0, none⟩ = some (.int .i64 u)) :
  Calls Tryd.prog 136 #[.agg #[.int .i64 x, .int .i64 y, .string z], .pointer (some ⟨B, 0, none⟩)] w fun e w' => e = .returned (.bool (x == u)) ∧ Below w.heap.size w w' := by
 have hc2 : ∀ o, (w.alloc o).cell? ⟨B, 0, none⟩ = some (.int .i64 u) := fun o => (World.cell?_alloc_past _ _ _ hB).trans hc
 go_enter Tryd.func136, Tryd.ntmps136
 go_wp2
 go_ret
 exact ⟨by first | rfl | (simp; done) | (simp [*]; done), by (repeat (first | exact Below.refl _ _ | (refine Below.alloc ?_ (t87) _) | (refine Below.setCell ?_ (t87) _) | refine Below.drew ?_ | refine below_drewN ?_ _ | (refine Below.trans ?_ (Below.mono (by assumption) (t87)))))⟩
set_option maxHeartbeats 8000000 in
set_option maxRecDepth 100000 in
theorem mailsIndex (A : Option Addr) (c : Nat) (l : List S67) (u : Int) (B : Nat) (w : World) (hC : Kd.C k67 w A l.length l) (hB : B < w.heap.size) (hc : w.cell? ⟨B, 0, none⟩ = some (.int .i64 u)) (hl : l.length ≤ 1099511627776) :
  Calls Tryd.prog 135 #[.slice A l.length c, .func (.func 136) #[] #[.pointer (some ⟨B, 0, none⟩)]] w fun e w' => e = .returned (.int .i64 (idxU u l 0)) ∧ Below w.heap.size w w' := by
 have eg := enters_of Tryd.func136 (t23) rfl
 have HC := Aside0.mk hC
 have HQ := Aside0.mk hc
 clear hC hc
 go_enter Tryd.func135, Tryd.ntmps135
 go_wp2
 go_loopg [5, 8] l.length (fun gg _ s8 wr => ∃ kk : Nat, kk ≤ l.length ∧ l.length - kk ≤ gg ∧ s8 = .int .i64 kk ∧ Aside0 (Below w.heap.size w wr) ∧ Aside0 (idxU u l 0 = idxU u (l.drop kk) kk))
 case atStart => exact ⟨0, Nat.zero_le _, by omega, rfl, ⟨Below.refl _ w⟩, ⟨rfl⟩⟩
 case round =>
  obtain ⟨kk, hkk, hg, rfl, BW, AI⟩ := hrel
  by_cases hlt : kk < l.length
  ·have hltz : (kk : Int) < (l.length : Int) := by omega
   have h0 : 0 ≤ (kk : Int) := by omega
   obtain ⟨ad, e, hx0, hx1, hx2⟩ := at_T67 HC.out kk h0 hltz
   cases e
   simp only [Int.toNat_natCast] at hx0 hx1 hx2
   replace hx0 := (BW.out.cell (World.block_lt_of_cell? w _ hx0)).trans hx0
   replace hx1 := (BW.out.cell (World.block_lt_of_cell? w _ hx1)).trans hx1
   replace hx2 := (BW.out.cell (World.block_lt_of_cell? w _ hx2)).trans hx2
   have hstep := idxU_drop u l kk hlt
   have hcall := mailIs (rd_T67 l (kk : Int)).f0 (rd_T67 l (kk : Int)).f1 (rd_T67 l (kk : Int)).f2 B u wr (Nat.lt_of_lt_of_le hB BW.out.size) ((BW.out.cell (p := ⟨B, 0, none⟩) hB).trans HQ.out)
   by_cases hq : (rd_T67 l (kk : Int)).f0 = u
   ·rw [if_pos hq] at hstep
    rw [show ((rd_T67 l (kk : Int)).f0 == u) = true from beq_iff_eq.mpr hq] at hcall
    have HS := Aside0.mk hstep
    clear hstep hq
    go_wp2_with (go_at_call 136; refine hcall.mono ?_; rintro e w' ⟨rfl, hb'⟩)
    go_ret
    exact ⟨by rw [AI.out, HS.out]; rfl, Below.trans BW.out (hb'.mono BW.out.size)⟩
   ·rw [if_neg hq] at hstep
    rw [show ((rd_T67 l (kk : Int)).f0 == u) = false from beq_eq_false_iff_ne.mpr hq] at hcall
    have HS := Aside0.mk hstep
    clear hstep hq
    go_wp2_with (go_at_call 136; refine hcall.mono ?_; rintro e w' ⟨rfl, hb'⟩)
    go_roundg (l.length - (kk + 1))
    case measure => omega
    case rel => exact ⟨kk + 1, by omega, by omega, by go_num, ⟨Below.trans BW.out (hb'.mono BW.out.size)⟩, ⟨AI.out.trans HS.out⟩⟩
  ·have hltz : ¬ (kk : Int) < (l.length : Int) := by omega
   obtain rfl : kk = l.length := by omega
   go_wp2
   go_ret
   exact ⟨by rw [AI.out, List.drop_of_length_le (Nat.le_refl _)]; rfl, BW.out⟩
def impl_Box_mailIndex.f (s0 : ByteArray) (s1 s2 : Int) (s3 : List S67) (s4 : List ByteArray) (u : Int) : Option (Int × ByteArray × Int × Int) := if s3.length ≤ 1099511627776 then some (idxU u s3 0, s0, s1, s2) else none
set_option maxHeartbeats 8000000 in
set_option maxRecDepth 100000 in
theorem impl_Box_mailIndex.calls (g : Nat) (s0 : ByteArray) (s1 s2 : Int) (s3 : List S67) (s4 : List ByteArray) (u : Int) (r : Int) (r3 : ByteArray) (r4 r5 : Int) (w0 w : World) (hI : IsS32 w0 w g s0 s1 s2 s3 s4) (hB : Below w0.heap.size w0 w) (h : impl_Box_mailIndex.f s0 s1 s2 s3 s4 u = some (r, r3, r4, r5)) :
  Calls Tryd.prog 90 #[.pointer (some ⟨g, 0, none⟩), .int .i64 u] w fun e w' => e = .returned (.int .i64 r) ∧ IsS32 w0 w' g r3 r4 r5 s3 s4 ∧ Below w0.heap.size w0 w' ∧ KeepBut w w' g none := by
 unfold impl_Box_mailIndex.f at h
 by_cases hl : s3.length ≤ 1099511627776
 ·rw [if_pos hl] at h
  simp only [Option.some.injEq, Prod.mk.injEq] at h
  obtain ⟨rfl, rfl, rfl, rfl⟩ := h
  have HI := Aside0.mk hI
  have HB := Aside0.mk hB
  have hlt := hI.lt
  obtain ⟨A3, c3, A4, c4, hb, hge, hr3, hr4⟩ := hI
  have hC : Kd.C k67 w A3 s3.length s3 := Kd.C_below hr3 hB
  have HC := Aside0.mk (Kd.C_alloc hC (.cells #[.int .i64 u] 3))
  have hf3 : (w.alloc (.cells #[.int .i64 u] 3)).cell? ⟨g, 3, none⟩ = some (.slice A3 s3.length c3) := (World.cell?_alloc_past _ _ _ hlt).trans ((blk_cell hb 3).trans rfl)
  clear hb hr3 hr4 hC hB
  go_enter Tryd.func90, Tryd.ntmps90
  go_wp2_with (go_at_call 135; refine (mailsIndex A3 c3 s3 u w.heap.size _ HC.out (t50) (by simp [go_sem]) hl).mono ?_; rintro e w' ⟨rfl, hb'⟩)
  go_ret
  have B' : Below w.heap.size w w' := Below.trans (Below.alloc (Below.refl _ _) (Nat.le_refl _) _) (hb'.mono (t50))
  exact ⟨rfl, HI.out.below B', Below.trans HB.out (B'.mono HB.out.size), ⟨B'.size, fun k hk _ _ => B'.block k hk⟩⟩
 ·rw [if_neg hl] at h; cases h

-- EXTERNAL: function 60 (strings_Join)

/-! ### impl_line: function 91 -/
def impl_line.f (l0 : List ByteArray) : Option (ByteArray) := (strings_Join.f l0 (⟨#[32]⟩ : ByteArray)).bind fun t229 => (if t229.size + 2 ≤ 9223372036854775807 then (some (t229 ++ (⟨#[13, 10]⟩ : ByteArray))) else (none))
set_option maxHeartbeats 40000000 in
set_option maxRecDepth 100000 in
theorem impl_line.calls (A0 : Option Addr) (c0 : Nat) (l0 : List ByteArray) (r : ByteArray) (w : World) (hr0 : Kd.C Kd.string w A0 l0.length l0) (hc0 : l0.length ≤ c0) (h : impl_line.f l0 = some r) :
  Calls Tryd.prog 91 #[.slice A0 l0.length c0] w fun e w' => e = .returned (.string r) ∧ Below w.heap.size w w' := by
 have HR0 := Aside0.mk hr0
 have HC0 := Aside0.mk hc0
 clear hr0 hc0
 have HB := Aside0.mk (Below.refl w.heap.size w)
 have H : ((strings_Join.f l0 (⟨#[32]⟩ : ByteArray)).bind fun t229 => (if t229.size + 2 ≤ 9223372036854775807 then (some (t229 ++ (⟨#[13, 10]⟩ : ByteArray))) else (none))) = some r := h
 clear h
 replace H := Option.bind_eq_some_iff.mp H
 obtain ⟨t229, A20, H⟩ := H
 replace H : (if t229.size + 2 ≤ 9223372036854775807 then (some (t229 ++ (⟨#[13, 10]⟩ : ByteArray))) else (none)) = some r := H
 have A2 := Aside0.mk A20
 clear A20
 by_cases c3 : t229.size + 2 ≤ 9223372036854775807
 ·rw [if_pos c3] at H
  have c3b0 := eq_true c3
  have c3b1 : decide (t229.size + 2 ≤ 9223372036854775807) = true := decide_eq_true c3
  try have c3b2 : (9223372036854775807 < t229.size + 2) = False := eq_false (Nat.not_lt.2 c3)
  obtain rfl := Option.some.inj H
  go_enter Tryd.func91, Tryd.ntmps91
  go_wp2_with (first | ((with_reducible refine gate_callee (f := 60) rfl ?_); refine goesL_ (some 4) rfl rfl Tryd.func60 (t23) rfl #[.slice A0 l0.length c0, .string (⟨#[32]⟩ : ByteArray)] rfl (t2) ?_; (with_reducible refine (strings_Join.calls _ _ l0 (⟨#[32]⟩ : ByteArray) t229 _ ?side1 ?side2 A2.out).mono ?_); (case side1 => repeat (first | exact HR0.out | (with_reducible refine Kd.C_alloc ?_ _) | (with_reducible refine Kd.C_drewN ?_ _) | (with_reducible refine Kd.C_drew ?_))); (case side2 => exact HC0.out); rintro e w4 ⟨rfl, hb⟩; refine ⟨_, rfl, ?_⟩; have n0_ := Aside0.mk (below_step (t1) hb); clear HB; have HB := n0_; clear n0_; (try clear hb); (try clear hb2); (try clear hk); (try clear hi)))
  go_ret
  exact ⟨t4, by repeat (first | (with_reducible first | exact HB.out | apply below_alloc | apply pw_below_drewN | apply below_drew1) | exact HB.out)⟩
 ·rw [if_neg c3] at H
  exact absurd H (t50)

-- EXTERNAL: function 92 (strconv_Itoa)

/-! ### impl_updates: function 51 -/
mutual
def impl_updates.l0 : Nat → ByteArray → List Int → List Int → Int → Int → ByteArray → Int → Int → List (S67) → List ByteArray → Option (ByteArray × List Int × ByteArray × Int × Int)
 | 0, _, _, _, _, _, _, _, _, _, _ => none
 | k + 1, x6, x7, x15, x16, x17, x1000, x1001, x1002, x1003, x1004 => if x17 < x16 then (if 0 ≤ x17 then (if x17 < (x15.length : Int) then ((impl_Box_mailIndex.f x1000 x1001 x1002 x1003 x1004 (rd x15 x17)).bind fun bt234 => (if bt234.1 < 0 then ((strconv_Itoa.f (wrap64 ((x7.length : Int) + 1))).bind fun t238 => ((impl_line.f (([(⟨#[42]⟩ : ByteArray), t238, (⟨#[69, 88, 80, 85, 78, 71, 69]⟩ : ByteArray)] : List ByteArray))).bind fun t242 => (if x6.size + t242.size ≤ 9223372036854775807 then (impl_updates.l0 k (x6 ++ t242) x7 x15 x16 (wrap64 (x17 + 1)) bt234.2.1 bt234.2.2.1 bt234.2.2.2 x1003 x1004) else (none)))) else (if x7.length < 17592186044416 then (impl_updates.l0 k x6 (x7 ++ [rd x15 x17]) x15 x16 (wrap64 (x17 + 1)) bt234.2.1 bt234.2.2.1 bt234.2.2.2 x1003 x1004) else (none)))) else (none)) else (none)) else (if (x7.length : Int) > 0 then (if 0 ≤ (wrap64 ((x7.length : Int) - 1)) then (if (wrap64 ((x7.length : Int) - 1)) < (x7.length : Int) then (impl_updates.j1 k x6 x7 (rd x7 (wrap64 ((x7.length : Int) - 1))) false x1000 x1001 x1002 x1003 x1004) else (none)) else (none)) else (impl_updates.j1 k x6 x7 0 false x1000 x1001 x1002 x1003 x1004))
def impl_updates.j1 : Nat → ByteArray → List Int → Int → Bool → ByteArray → Int → Int → List (S67) → List ByteArray → Option (ByteArray × List Int × ByteArray × Int × Int)
 | 0, _, _, _, _, _, _, _, _, _ => none
 | k + 1, x6, x7, x10, x11, x1000, x1001, x1002, x1003, x1004 => impl_updates.l1 k x6 x7 x10 x11 x1003 (x1003.length : Int) 0 x1000 x1001 x1002 x1003 x1004
def impl_updates.l1 : Nat → ByteArray → List Int → Int → Bool → List (S67) → Int → Int → ByteArray → Int → Int → List (S67) → List ByteArray → Option (ByteArray × List Int × ByteArray × Int × Int)
 | 0, _, _, _, _, _, _, _, _, _, _, _, _ => none
 | k + 1, x6, x7, x10, x11, x50, x51, x52, x1000, x1001, x1002, x1003, x1004 => if x52 < x51 then (if 0 ≤ x52 then (if x52 < (x50.length : Int) then (if ((rd_T67 x50 x52).f0) > x10 then (if x7.length < 17592186044416 then (impl_updates.l1 k x6 (x7 ++ [(rd_T67 x50 x52).f0]) x10 true x50 x51 (wrap64 (x52 + 1)) x1000 x1001 x1002 x1003 x1004) else (none)) else (impl_updates.l1 k x6 x7 x10 x11 x50 x51 (wrap64 (x52 + 1)) x1000 x1001 x1002 x1003 x1004)) else (none)) else (none)) else (if x11 = true then ((strconv_Itoa.f (x7.length : Int)).bind fun t252 => ((impl_line.f (([(⟨#[42]⟩ : ByteArray), t252, (⟨#[69, 88, 73, 83, 84, 83]⟩ : ByteArray)] : List ByteArray))).bind fun t256 => (if x6.size + t256.size ≤ 9223372036854775807 then (some (x6 ++ t256, x7, x1000, x1001, x1002)) else (none)))) else (some (x6, x7, x1000, x1001, x1002)))
end
def impl_updates.f (k : Nat) (s0_0 : ByteArray) (s0_1 : Int) (s0_2 : Int) (s0_3 : List (S67)) (s0_4 : List ByteArray) (l1 : List Int) : Option (ByteArray × List Int × ByteArray × Int × Int) := impl_updates.l0 k (⟨#[]⟩ : ByteArray) (([] : List Int)) l1 (l1.length : Int) 0 s0_0 s0_1 s0_2 s0_3 s0_4
theorem impl_updates.mono_l : ∀ k, (∀ y0 y1 y2 y3 y4 y5 y6 y7 y8 y9, LeO (impl_updates.l0 k y0 y1 y2 y3 y4 y5 y6 y7 y8 y9) (impl_updates.l0 (k + 1) y0 y1 y2 y3 y4 y5 y6 y7 y8 y9)) ∧ (∀ y0 y1 y2 y3 y4 y5 y6 y7 y8, LeO (impl_updates.j1 k y0 y1 y2 y3 y4 y5 y6 y7 y8) (impl_updates.j1 (k + 1) y0 y1 y2 y3 y4 y5 y6 y7 y8)) ∧ (∀ y0 y1 y2 y3 y4 y5 y6 y7 y8 y9 y10 y11, LeO (impl_updates.l1 k y0 y1 y2 y3 y4 y5 y6 y7 y8 y9 y10 y11) (impl_updates.l1 (k + 1) y0 y1 y2 y3 y4 y5 y6 y7 y8 y9 y10 y11))
 | 0 => ⟨fun _ _ _ _ _ _ _ _ _ _ r h => by simp [impl_updates.l0] at h, fun _ _ _ _ _ _ _ _ _ r h => by simp [impl_updates.j1] at h, fun _ _ _ _ _ _ _ _ _ _ _ _ r h => by simp [impl_updates.l1] at h⟩
 | k + 1 => by
  obtain ⟨ih0, ih1, ih2⟩ := impl_updates.mono_l k
  refine ⟨?_, ?_, ?_⟩
  ·intro y0 y1 y2 y3 y4 y5 y6 y7 y8 y9
   unfold impl_updates.l0
   repeat' first
   | (with_reducible exact ih0 _ _ _ _ _ _ _ _ _ _)
   | (with_reducible exact ih1 _ _ _ _ _ _ _ _ _)
   | (with_reducible exact ih2 _ _ _ _ _ _ _ _ _ _ _ _)
   | (with_reducible exact LeO.refl _)
   | (with_reducible exact LeO.none _)
   | (with_reducible refine LeO.ite ?_ ?_)
   | (with_reducible refine LeO.bind ?_ (fun _ => ?_))
   | exact ih0 _ _ _ _ _ _ _ _ _ _
   | exact ih1 _ _ _ _ _ _ _ _ _
   | exact ih2 _ _ _ _ _ _ _ _ _ _ _ _
   | exact LeO.none _
   | refine LeO.ite ?_ ?_
   | refine LeO.bind ?_ (fun _ => ?_)
  ·intro y0 y1 y2 y3 y4 y5 y6 y7 y8
   unfold impl_updates.j1
   repeat' first
   | (with_reducible exact ih0 _ _ _ _ _ _ _ _ _ _)
   | (with_reducible exact ih1 _ _ _ _ _ _ _ _ _)
   | (with_reducible exact ih2 _ _ _ _ _ _ _ _ _ _ _ _)
   | (with_reducible exact LeO.refl _)
   | (with_reducible exact LeO.none _)
   | (with_reducible refine LeO.ite ?_ ?_)
   | (with_reducible refine LeO.bind ?_ (fun _ => ?_))
   | exact ih0 _ _ _ _ _ _ _ _ _ _
   | exact ih1 _ _ _ _ _ _ _ _ _
   | exact ih2 _ _ _ _ _ _ _ _ _ _ _ _
   | exact LeO.none _
   | refine LeO.ite ?_ ?_
   | refine LeO.bind ?_ (fun _ => ?_)
  ·intro y0 y1 y2 y3 y4 y5 y6 y7 y8 y9 y10 y11
   unfold impl_updates.l1
   repeat' first
   | (with_reducible exact ih0 _ _ _ _ _ _ _ _ _ _)
   | (with_reducible exact ih1 _ _ _ _ _ _ _ _ _)
   | (with_reducible exact ih2 _ _ _ _ _ _ _ _ _ _ _ _)
   | (with_reducible exact LeO.refl _)
   | (with_reducible exact LeO.none _)
   | (with_reducible refine LeO.ite ?_ ?_)
   | (with_reducible refine LeO.bind ?_ (fun _ => ?_))
   | exact ih0 _ _ _ _ _ _ _ _ _ _
   | exact ih1 _ _ _ _ _ _ _ _ _
   | exact ih2 _ _ _ _ _ _ _ _ _ _ _ _
   | exact LeO.none _
   | refine LeO.ite ?_ ?_
   | refine LeO.bind ?_ (fun _ => ?_)
theorem impl_updates.mono : ∀ a0 a1 a2 a3 a4 a5 k, LeO (impl_updates.f k a0 a1 a2 a3 a4 a5) (impl_updates.f (k + 1) a0 a1 a2 a3 a4 a5) := by
 intro a0 a1 a2 a3 a4 a5 k
 obtain ⟨ih0, ih1, ih2⟩ := impl_updates.mono_l k
 unfold impl_updates.f
 repeat' first
   | (with_reducible exact ih0 _ _ _ _ _ _ _ _ _ _)
   | (with_reducible exact ih1 _ _ _ _ _ _ _ _ _)
   | (with_reducible exact ih2 _ _ _ _ _ _ _ _ _ _ _ _)
   | (with_reducible exact LeO.refl _)
   | (with_reducible exact LeO.none _)
   | (with_reducible refine LeO.ite ?_ ?_)
   | (with_reducible refine LeO.bind ?_ (fun _ => ?_))
   | exact ih0 _ _ _ _ _ _ _ _ _ _
   | exact ih1 _ _ _ _ _ _ _ _ _
   | exact ih2 _ _ _ _ _ _ _ _ _ _ _ _
   | exact LeO.none _
   | refine LeO.ite ?_ ?_
   | refine LeO.bind ?_ (fun _ => ?_)
set_option maxHeartbeats 40000000 in
set_option maxRecDepth 100000 in
theorem impl_updates.calls (k : Nat) (g : Nat) (s0_0 : ByteArray) (s0_1 : Int) (s0_2 : Int) (s0_3 : List (S67)) (s0_4 : List ByteArray) (A1 : Option Addr) (c1 : Nat) (l1 : List Int) (r1 : ByteArray) (r2 : List Int) (r3 : ByteArray) (r4 : Int) (r5 : Int) (w0 w : World) (hI : IsS32 w0 w g s0_0 s0_1 s0_2 s0_3 s0_4) (hB : Below w0.heap.size w0 w) (hr1 : Kd.C (Kd.int .i64) w A1 l1.length l1) (hc1 : l1.length ≤ c1) (hf1 : ∀ ad, A1 = some ad → 0 < l1.length → ad.block ≠ g) (HG : Aside0 (Glob w0)) (h : impl_updates.f k s0_0 s0_1 s0_2 s0_3 s0_4 l1 = some (r1, r2, r3, r4, r5)) :
  Calls Tryd.prog 51 #[.pointer (some ⟨g, 0, none⟩), .slice A1 l1.length c1] w fun e w' => ∃ v1_ : Value, e = .returned (.tuple #[.string r1, v1_]) ∧ Kd.R (Kd.int .i64) 3 w' w.heap.size (fun _ => True) v1_ r2 ∧ IsS32 w0 w' g r3 r4 r5 s0_3 s0_4 ∧ Below w0.heap.size w0 w' ∧ KeepBut w w' g none := by
 have hu67 := Tryd.underlying67
 have HR1 := Aside0.mk hr1
 have HC1 := Aside0.mk hc1
 clear hr1 hc1
 have HI0 := Aside0.mk hI
 have HK := Aside0.mk (KeepBut.refl w g none)
 have HL := Aside0.mk hB.size
 clear hI
 have HW0 := Aside0.mk hB.size
 have HB := Aside0.mk hB
 clear hB
 have H : (impl_updates.l0 k (⟨#[]⟩ : ByteArray) (([] : List Int)) l1 (l1.length : Int) 0 s0_0 s0_1 s0_2 s0_3 s0_4) = some (r1, r2, r3, r4, r5) := h
 clear h
 obtain ⟨y230, hy230⟩ : ∃ y_ : List Int, y_ = (([] : List Int)) := ⟨_, rfl⟩
 replace H : (impl_updates.l0 k (⟨#[]⟩ : ByteArray) y230 l1 (l1.length : Int) 0 s0_0 s0_1 s0_2 s0_3 s0_4) = some (r1, r2, r3, r4, r5) := by first | (rw [hy230]; with_reducible exact H) | (have H2_ := (Option.bind_some _ _).symm.trans H; rw [hy230]; with_reducible exact H2_) | (have H2_ := (Option.bind_some _ _).symm.trans H; with_reducible exact H2_) | with_reducible exact H | (rw [hy230]; exact H) | exact H
 have Ny230 := Aside0.mk hy230
 clear hy230
 have H' := Aside0.mk H
 clear H
 go_enter Tryd.func51, Tryd.ntmps51
 go_wp2_with (first | ((with_reducible refine gate_dst (N := 14) rfl ?_); refine Kd.R_lit (Kd.int .i64) _ 3 ?hg (N := 14) ?hd (xs := ([] : List Int)) (inner := []) (ok := fun _ => True) (okp := fun _ => True) ?hr ?hp (fun _ hk => hk) trivial (Below.refl _ _) (Nat.le_refl _) (t50) ?_; (case hd => rfl); (case hg => rfl); (case hr => first | (go_simp; done) | (go_simp; rfl)); (case hp => exact (Reps.none _ _)); intro v231 w3 ho4 hb hg_ hnew_; clear hg_ hnew_; (first | rw [← Ny230.out] at ho4 | (simp only [Int.reduceToNat] at ho4; rw [← Ny230.out] at ho4)); have n0_ := Aside0.mk (Kd.R_lower ho4 (keep_size (w := w) (g := g) (row := none) (t12))); have n1_ := Aside0.mk (IsS32.below (t15) hb); have n2_ := Aside0.mk (KeepBut.trans (t12) (KeepBut.of_below hb g none) (.inl rfl)); have n3_ := Aside0.mk (below_step (t18) hb); clear HI0; clear HK; clear HB; have HO232 := n0_; have HI0 := n1_; have HK := n2_; have HB := n3_; clear n0_ n1_ n2_ n3_; clear hb ho4))
 go_loopg [6, 7, 17] k (fun kq v6 v7 v17 w' => ∃ (x6_1 : ByteArray) (x7_1 : List Int) (x17_1 : Int) (x1000_1 : ByteArray) (x1001_1 : Int) (x1002_1 : Int), v6 = .string x6_1 ∧ v17 = .int .i64 x17_1 ∧ Aside0 (impl_updates.l0 kq x6_1 x7_1 l1 (l1.length : Int) x17_1 x1000_1 x1001_1 x1002_1 s0_3 s0_4 = some (r1, r2, r3, r4, r5)) ∧ Aside0 (kq ≤ k) ∧ Aside0 (Kd.R (Kd.int .i64) 3 w' w.heap.size (fun _ => True) v7 x7_1) ∧ Aside0 (IsS32 w0 w' g x1000_1 x1001_1 x1002_1 s0_3 s0_4) ∧ Aside0 (KeepBut w w' g none) ∧ Aside0 (Below w0.heap.size w0 w'))
 case atStart => exact ⟨((⟨#[]⟩ : ByteArray)), (y230), (0), (s0_0), (s0_1), (s0_2), (t0), (t0), H', ⟨Nat.le_refl _⟩, ⟨by (with_reducible repeat (first | apply Kd.R_alloc | apply Kd.R_drewN | apply Kd.R_drew)); exact HO232.out⟩, ⟨t15⟩, ⟨t12⟩, ⟨t18⟩⟩
 case round =>
  clear H'
  try clear c1
  try clear p2
  obtain ⟨x6_1, x7_1, x17_1, x1000_1, x1001_1, x1002_1, rfl, rfl, HA, HK1, HO_7, HI0, HK, HB⟩ := hrel
  cases gk with
  | zero => exact absurd HA.out (by simp [impl_updates.l0])
  | succ k1 =>
   have H := HA.out
   clear HA
   simp only [impl_updates.l0] at H
   by_cases c5 : x17_1 < (l1.length : Int)
   ·rw [if_pos c5] at H
    have c5b0 : decide (x17_1 < (l1.length : Int)) = true := decide_eq_true c5
    clear c5
    by_cases c6 : 0 ≤ x17_1
    ·rw [if_pos c6] at H
     have c6b0 : decide (0 ≤ x17_1) = true := decide_eq_true c6
     clear c6
     by_cases c7 : x17_1 < (l1.length : Int)
     ·rw [if_pos c7] at H
      have c7b0 : decide (x17_1 < (l1.length : Int)) = true := decide_eq_true c7
      clear c7
      replace H := Option.bind_eq_some_iff.mp H
      obtain ⟨⟨t234, t235, t236, t237⟩, A80, H⟩ := H
      replace H : (if t234 < 0 then ((strconv_Itoa.f (wrap64 ((x7_1.length : Int) + 1))).bind fun t238 => ((impl_line.f (([(⟨#[42]⟩ : ByteArray), t238, (⟨#[69, 88, 80, 85, 78, 71, 69]⟩ : ByteArray)] : List ByteArray))).bind fun t242 => (if x6_1.size + t242.size ≤ 9223372036854775807 then (impl_updates.l0 k1 (x6_1 ++ t242) x7_1 l1 (l1.length : Int) (wrap64 (x17_1 + 1)) t235 t236 t237 s0_3 s0_4) else (none)))) else (if x7_1.length < 17592186044416 then (impl_updates.l0 k1 x6_1 (x7_1 ++ [rd l1 x17_1]) l1 (l1.length : Int) (wrap64 (x17_1 + 1)) t235 t236 t237 s0_3 s0_4) else (none))) = some (r1, r2, r3, r4, r5) := H
      have A8 := Aside0.mk A80
      clear A80
      by_cases c9 : t234 < 0
      ·rw [if_pos c9] at H
       have c9b0 : decide (t234 < 0) = true := decide_eq_true c9
       clear c9
       replace H := Option.bind_eq_some_iff.mp H
       obtain ⟨t238, A100, H⟩ := H
       replace H : ((impl_line.f (([(⟨#[42]⟩ : ByteArray), t238, (⟨#[69, 88, 80, 85, 78, 71, 69]⟩ : ByteArray)] : List ByteArray))).bind fun t242 => (if x6_1.size + t242.size ≤ 9223372036854775807 then (impl_updates.l0 k1 (x6_1 ++ t242) x7_1 l1 (l1.length : Int) (wrap64 (x17_1 + 1)) t235 t236 t237 s0_3 s0_4) else (none))) = some (r1, r2, r3, r4, r5) := H
       have A10 := Aside0.mk A100
       clear A100
       obtain ⟨y239, hy239⟩ : ∃ y_ : List ByteArray, y_ = (([(⟨#[42]⟩ : ByteArray), t238, (⟨#[69, 88, 80, 85, 78, 71, 69]⟩ : ByteArray)] : List ByteArray)) := ⟨_, rfl⟩
       replace H : ((impl_line.f y239).bind fun t242 => (if x6_1.size + t242.size ≤ 9223372036854775807 then (impl_updates.l0 k1 (x6_1 ++ t242) x7_1 l1 (l1.length : Int) (wrap64 (x17_1 + 1)) t235 t236 t237 s0_3 s0_4) else (none))) = some (r1, r2, r3, r4, r5) := by first | (rw [hy239]; with_reducible exact H) | (have H2_ := (Option.bind_some _ _).symm.trans H; rw [hy239]; with_reducible exact H2_) | (have H2_ := (Option.bind_some _ _).symm.trans H; with_reducible exact H2_) | with_reducible exact H | (rw [hy239]; exact H) | exact H
       have Ny239 := Aside0.mk hy239
       clear hy239
       replace H := Option.bind_eq_some_iff.mp H
       obtain ⟨t242, A110, H⟩ := H
       replace H : (if x6_1.size + t242.size ≤ 9223372036854775807 then (impl_updates.l0 k1 (x6_1 ++ t242) x7_1 l1 (l1.length : Int) (wrap64 (x17_1 + 1)) t235 t236 t237 s0_3 s0_4) else (none)) = some (r1, r2, r3, r4, r5) := H
       have A11 := Aside0.mk A110
       clear A110
       by_cases c12 : x6_1.size + t242.size ≤ 9223372036854775807
       ·rw [if_pos c12] at H
        have c12b0 := eq_true c12
        have c12b1 : decide (x6_1.size + t242.size ≤ 9223372036854775807) = true := decide_eq_true c12
        try have c12b2 : (9223372036854775807 < x6_1.size + t242.size) = False := eq_false (Nat.not_lt.2 c12)
        have H' := Aside0.mk H
        clear H
        have p233 : 0 ≤ (x17_1 : Int) := of_decide_eq_true (t3)
        have q233 : x17_1 < (l1.length : Int) := of_decide_eq_true (t3)
        obtain ⟨ad233, e233, hx233_0⟩ := Kd.at_int HR1.out x17_1 p233 q233
        cases e233
        replace hx233_0 := keep_cell HK.out hx233_0 (by first | (rw [add_block]; exact hf1 _ rfl (t70)) | exact hf1 _ rfl (t70) | exact hf1 ad233 rfl (t70))
        replace p233 := eq_true p233
        replace q233 := eq_true q233
        go_wp2_with (first | ((with_reducible refine gate_callee (f := 90) rfl ?_); refine goesL_ (some 23) rfl rfl Tryd.func90 (t23) rfl #[.pointer (some ⟨g, 0, none⟩), .int .i64 (rd l1 x17_1)] rfl (t2) ?_; (with_reducible refine (impl_Box_mailIndex.calls g x1000_1 x1001_1 x1002_1 s0_3 s0_4 (rd l1 x17_1) t234 t235 t236 t237 w0 _ ?side1 ?side2 A8.out).mono ?_); (case side1 => repeat (first | (with_reducible first | exact HI0.out | apply IsS32.alloc | apply IsS32.drewN | apply IsS32.drew | apply IsS32.set_0 | apply IsS32.set_1 | apply IsS32.set_2) | exact HI0.out)); (case side2 => repeat (first | (with_reducible first | exact HB.out | apply below_alloc | apply pw_below_drewN | apply below_drew1 | refine below_set ?_ (IsS32.ge HI0.out)) | exact HB.out)); rintro e w13 ⟨rfl, hi, hb, hk⟩; refine ⟨_, rfl, ?_⟩; have n0_ := Aside0.mk (Kd.R_mono (Kd.R_keep (IsS32.apart (show IsS32 w0 _ g x1000_1 x1001_1 x1002_1 s0_3 s0_4 from by repeat (first | (with_reducible first | exact HI0.out | apply IsS32.alloc | apply IsS32.drewN | apply IsS32.drew | apply IsS32.set_0 | apply IsS32.set_1 | apply IsS32.set_2) | exact HI0.out)) (t9) (t49)) hk (fun _ h => h.2)) (fun _ h => h.1)); have n1_ := Aside0.mk (KeepBut.trans (t12) hk (.inl rfl)); have n2_ := Aside0.mk (hb); have n3_ := Aside0.mk (hi); clear HO_7; clear HK; clear HB; clear HI0; have HO_7 := n0_; have HK := n1_; have HB := n2_; have HI0 := n3_; clear n0_ n1_ n2_ n3_; (try clear hb); (try clear hb2); (try clear hk); (try clear hi); obtain ⟨Ao14, co14, eo14⟩ := Kd.R_slice HO_7.out; subst eo14) | ((with_reducible refine gate_callee (f := 92) rfl ?_); refine goesL_ (some 29) rfl rfl Tryd.func92 (t23) rfl #[.int .i64 (wrap64 ((x7_1.length : Int) + 1))] rfl (t2) ?_; (with_reducible refine (strconv_Itoa.calls (wrap64 ((x7_1.length : Int) + 1)) t238 _ ?side1 A10.out).mono ?_); (case side1 => first | exact HG | exact ⟨HG.out.of rfl⟩ | (refine ⟨HG.out.on ?_⟩; (repeat (first | (with_reducible first | exact HB.out | apply below_alloc | apply pw_below_drewN | apply below_drew1 | refine below_set ?_ (IsS32.ge HI0.out)) | exact HB.out)); done) | exact ⟨HG.out.on HBW.out⟩); rintro e w15 ⟨rfl, hb⟩; refine ⟨_, rfl, ?_⟩; have n0_ := Aside0.mk (Kd.R_below (t9) hb); have n1_ := Aside0.mk (IsS32.below (t15) hb); have n2_ := Aside0.mk (KeepBut.trans (t12) (KeepBut.of_below hb g none) (.inl rfl)); have n3_ := Aside0.mk (below_step (t18) hb); clear HO_7; clear HI0; clear HK; clear HB; have HO_7 := n0_; have HI0 := n1_; have HK := n2_; have HB := n3_; clear n0_ n1_ n2_ n3_; (try clear hb); (try clear hb2); (try clear hk); (try clear hi)) | ((with_reducible refine gate_dst (N := 30) rfl ?_); refine Kd.R_lit Kd.string _ 9 ?hg (N := 30) ?hd (xs := ([(⟨#[42]⟩ : ByteArray), t238, (⟨#[69, 88, 80, 85, 78, 71, 69]⟩ : ByteArray)] : List ByteArray)) (inner := [.string (⟨#[42]⟩ : ByteArray), .string t238, .string (⟨#[69, 88, 80, 85, 78, 71, 69]⟩ : ByteArray)]) (ok := fun _ => True) (okp := fun _ => True) ?hr ?hp (fun _ hk => hk) trivial (Below.refl _ _) (Nat.le_refl _) (t50) ?_; (case hd => rfl); (case hg => rfl); (case hr => first | (go_simp; done) | (go_simp; rfl)); (case hp => exact (Reps.one (show Kd.M Kd.string _ _ _ (⟨#[42]⟩ : ByteArray) [.string (⟨#[42]⟩ : ByteArray)] from rfl) (Reps.one (show Kd.M Kd.string _ _ _ t238 [.string t238] from rfl) (Reps.one (show Kd.M Kd.string _ _ _ (⟨#[69, 88, 80, 85, 78, 71, 69]⟩ : ByteArray) [.string (⟨#[69, 88, 80, 85, 78, 71, 69]⟩ : ByteArray)] from rfl) (Reps.none _ _))))); intro v240 w16 ho17 hb hg_ hnew_; clear hg_ hnew_; (first | rw [← Ny239.out] at ho17 | (simp only [Int.reduceToNat] at ho17; rw [← Ny239.out] at ho17)); have n0_ := Aside0.mk (Kd.R_below (t9) hb); have n1_ := Aside0.mk (Kd.R_lower ho17 (keep_size (w := w) (g := g) (row := none) (t12))); have n2_ := Aside0.mk (IsS32.below (t15) hb); have n3_ := Aside0.mk (KeepBut.trans (t12) (KeepBut.of_below hb g none) (.inl rfl)); have n4_ := Aside0.mk (below_step (t18) hb); clear HO_7; clear HI0; clear HK; clear HB; have HO_7 := n0_; have HO241 := n1_; have HI0 := n2_; have HK := n3_; have HB := n4_; clear n0_ n1_ n2_ n3_ n4_; clear hb ho17; obtain ⟨Ao18, co18, eo18⟩ := Kd.R_slice HO241.out; subst eo18) | ((with_reducible refine gate_callee (f := 91) rfl ?_); refine goesL_ (some 31) rfl rfl Tryd.func91 (t23) rfl #[.slice Ao18 y239.length co18] rfl (t2) ?_; (with_reducible refine (impl_line.calls _ _ y239 t242 _ ?side1 ?side2 A11.out).mono ?_); (case side1 => repeat (first | exact (Kd.R_reads' HO241.out).2.2 | (with_reducible refine Kd.C_alloc ?_ _) | (with_reducible refine Kd.C_drewN ?_ _) | (with_reducible refine Kd.C_drew ?_))); (case side2 => exact (Kd.R_reads' HO241.out).2.1); rintro e w19 ⟨rfl, hb⟩; refine ⟨_, rfl, ?_⟩; have n0_ := Aside0.mk (Kd.R_below (t9) hb); have n1_ := Aside0.mk (Kd.R_below (by (with_reducible repeat (first | apply Kd.R_alloc | apply Kd.R_drewN | apply Kd.R_drew)); exact HO241.out) hb); have n2_ := Aside0.mk (IsS32.below (t15) hb); have n3_ := Aside0.mk (KeepBut.trans (t12) (KeepBut.of_below hb g none) (.inl rfl)); have n4_ := Aside0.mk (below_step (t18) hb); clear HO_7; clear HO241; clear HI0; clear HK; clear HB; have HO_7 := n0_; have HO241 := n1_; have HI0 := n2_; have HK := n3_; have HB := n4_; clear n0_ n1_ n2_ n3_ n4_; (try clear hb); (try clear hb2); (try clear hk); (try clear hi)))
        go_roundg k1
        case measure => have := HK1.out; omega
        case rel => exact ⟨(x6_1 ++ t242), (x7_1), (wrap64 (x17_1 + 1)), (t235), (t236), (t237), (t0), (t0), H', ⟨t59⟩, ⟨t9⟩, ⟨t15⟩, ⟨t12⟩, ⟨t18⟩⟩
       ·rw [if_neg c12] at H
        exact absurd H (t50)
      ·rw [if_neg c9] at H
       have c9b0 : decide (t234 < 0) = false := decide_eq_false c9
       clear c9
       by_cases c20 : x7_1.length < 17592186044416
       ·rw [if_pos c20] at H
        have LMc20 := Aside0.mk c20
        clear c20
        obtain ⟨y243, hy243⟩ : ∃ y_ : List Int, y_ = (x7_1 ++ [rd l1 x17_1]) := ⟨_, rfl⟩
        replace H : (impl_updates.l0 k1 x6_1 y243 l1 (l1.length : Int) (wrap64 (x17_1 + 1)) t235 t236 t237 s0_3 s0_4) = some (r1, r2, r3, r4, r5) := by first | (rw [hy243]; with_reducible exact H) | (have H2_ := (Option.bind_some _ _).symm.trans H; rw [hy243]; with_reducible exact H2_) | (have H2_ := (Option.bind_some _ _).symm.trans H; with_reducible exact H2_) | with_reducible exact H | (rw [hy243]; exact H) | exact H
        have Ny243 := Aside0.mk hy243
        clear hy243
        have H' := Aside0.mk H
        clear H
        have p233 : 0 ≤ (x17_1 : Int) := of_decide_eq_true (t3)
        have q233 : x17_1 < (l1.length : Int) := of_decide_eq_true (t3)
        obtain ⟨ad233, e233, hx233_0⟩ := Kd.at_int HR1.out x17_1 p233 q233
        cases e233
        replace hx233_0 := keep_cell HK.out hx233_0 (by first | (rw [add_block]; exact hf1 _ rfl (t70)) | exact hf1 _ rfl (t70) | exact hf1 ad233 rfl (t70))
        replace p233 := eq_true p233
        replace q233 := eq_true q233
        go_wp2_with (first | ((with_reducible refine gate_callee (f := 90) rfl ?_); refine goesL_ (some 23) rfl rfl Tryd.func90 (t23) rfl #[.pointer (some ⟨g, 0, none⟩), .int .i64 (rd l1 x17_1)] rfl (t2) ?_; (with_reducible refine (impl_Box_mailIndex.calls g x1000_1 x1001_1 x1002_1 s0_3 s0_4 (rd l1 x17_1) t234 t235 t236 t237 w0 _ ?side1 ?side2 A8.out).mono ?_); (case side1 => repeat (first | (with_reducible first | exact HI0.out | apply IsS32.alloc | apply IsS32.drewN | apply IsS32.drew | apply IsS32.set_0 | apply IsS32.set_1 | apply IsS32.set_2) | exact HI0.out)); (case side2 => repeat (first | (with_reducible first | exact HB.out | apply below_alloc | apply pw_below_drewN | apply below_drew1 | refine below_set ?_ (IsS32.ge HI0.out)) | exact HB.out)); rintro e w21 ⟨rfl, hi, hb, hk⟩; refine ⟨_, rfl, ?_⟩; have n0_ := Aside0.mk (Kd.R_mono (Kd.R_keep (IsS32.apart (show IsS32 w0 _ g x1000_1 x1001_1 x1002_1 s0_3 s0_4 from by repeat (first | (with_reducible first | exact HI0.out | apply IsS32.alloc | apply IsS32.drewN | apply IsS32.drew | apply IsS32.set_0 | apply IsS32.set_1 | apply IsS32.set_2) | exact HI0.out)) (t9) (t49)) hk (fun _ h => h.2)) (fun _ h => h.1)); have n1_ := Aside0.mk (KeepBut.trans (t12) hk (.inl rfl)); have n2_ := Aside0.mk (hb); have n3_ := Aside0.mk (hi); clear HO_7; clear HK; clear HB; clear HI0; have HO_7 := n0_; have HK := n1_; have HB := n2_; have HI0 := n3_; clear n0_ n1_ n2_ n3_; (try clear hb); (try clear hb2); (try clear hk); (try clear hi)) | ((with_reducible refine gate_builtin (b := .append) (xs := #[.tmp 33, .tmp 35]) rfl ?_); at_builtin; refine Kd.R_append (Kd.int .i64) w.heap.size rfl (.tmp 33) (.tmp 35) 26 3 (.int .i64 0) 8 rfl Tryd.underlying26 info3 rfl (t49) (t70) u7 x7_1 (rd l1 x17_1) [.int .i64 (rd l1 x17_1)] (fun _ => True) (fun _ => False) rfl rfl ?aP (fun _ hk => hk.elim) ?aF ?aO (Below.refl _ _) ?aS ?aL ?_; (case aP => exact rfl); (case aF => exact (fun _ _ => trivial)); (case aO => exact (t9)); (case aS => exact (keep_size (w := w) (g := g) (row := none) (t12))); (case aL => have := LMc20.out; omega); intro v244 w22 ho hb hg hat; rw [← Ny243.out] at ho; have n0_ := Aside0.mk (IsS32.grown (t15) hg (IsS32.own_ne HI0.out HO_7.out (t49))); have n1_ := Aside0.mk (below_weaken (t18) HL.out hb); have n2_ := Aside0.mk (KeepBut.trans (t12) (KeepBut.of_grown hg g) (Kd.R_base2 HO_7.out)); have n3_ := Aside0.mk (ho); clear HI0; clear HB; clear HK; clear HO_7; have HI0 := n0_; have HB := n1_; have HK := n2_; have HO245 := n3_; clear n0_ n1_ n2_ n3_; clear ho hb hg hat))
        go_roundg k1
        case measure => have := HK1.out; omega
        case rel => exact ⟨(x6_1), (y243), (wrap64 (x17_1 + 1)), (t235), (t236), (t237), (t0), (t0), H', ⟨t59⟩, ⟨by (with_reducible repeat (first | apply Kd.R_alloc | apply Kd.R_drewN | apply Kd.R_drew)); exact HO245.out⟩, ⟨t15⟩, ⟨t12⟩, ⟨t18⟩⟩
       ·rw [if_neg c20] at H
        exact absurd H (t50)
     ·rw [if_neg c7] at H
      exact absurd H (t50)
    ·rw [if_neg c6] at H
     exact absurd H (t50)
   ·rw [if_neg c5] at H
    have c5b0 : decide (x17_1 < (l1.length : Int)) = false := decide_eq_false c5
    clear c5
    have HC23 := Aside0.mk H
    clear H
    obtain ⟨Ao24, co24, eo24⟩ := Kd.R_slice HO_7.out
    subst eo24
    go_upto_if 40 with (fail)
    go_cut [10] (fun v10 wc => ∃ (kq : Nat) (x10_22 : Int), v10 = .int .i64 x10_22 ∧ Aside0 (impl_updates.j1 kq x6_1 x7_1 x10_22 false x1000_1 x1001_1 x1002_1 s0_3 s0_4 = some (r1, r2, r3, r4, r5)) ∧ Aside0 (kq ≤ k1) ∧ Aside0 (Kd.R (Kd.int .i64) 3 wc w.heap.size (fun _ => True) (.slice Ao24 x7_1.length co24) x7_1) ∧ Aside0 (IsS32 w0 wc g x1000_1 x1001_1 x1002_1 s0_3 s0_4) ∧ Aside0 (KeepBut w wc g none) ∧ Aside0 (Below w0.heap.size w0 wc))
    case first =>
     have H := HC23.out
     clear HC23
     by_cases c25 : (x7_1.length : Int) > 0
     ·rw [if_pos c25] at H
      have c25b0 : decide (0 < (x7_1.length : Int)) = true := decide_eq_true c25
      have c25b1 : decide (0 < x7_1.length) = true := decide_eq_true (t70)
      clear c25
      (first | rw [c25b0] | rw [c25b1] | (simp only [i64_w, i32_w]; rw [c25b0]) | skip)
      obtain ⟨ji26, hji26⟩ : ∃ j_ : Int, (wrap64 ((x7_1.length : Int) - 1)) = j_ := ⟨_, rfl⟩
      replace H : (if 0 ≤ (ji26) then (if (ji26) < (x7_1.length : Int) then (impl_updates.j1 k1 x6_1 x7_1 (rd x7_1 (ji26)) false x1000_1 x1001_1 x1002_1 s0_3 s0_4) else (none)) else (none)) = some (r1, r2, r3, r4, r5) := by first | (rw [hji26] at H; exact H) | (simp only [hji26] at H ⊢; exact H)
      have hji26w : (IntKind.i64.wrap ((x7_1.length : Int) - 1)) = ji26 := (i64_w _).trans hji26
      by_cases c27 : 0 ≤ (ji26)
      ·rw [if_pos c27] at H
       have c27b0 : decide (0 ≤ (ji26)) = true := decide_eq_true c27
       clear c27
       by_cases c28 : (ji26) < (x7_1.length : Int)
       ·rw [if_pos c28] at H
        have c28b0 : decide ((ji26) < (x7_1.length : Int)) = true := decide_eq_true c28
        clear c28
        have H' := Aside0.mk H
        clear H
        have p246 : 0 ≤ ((ji26) : Int) := of_decide_eq_true (t3)
        have q246 : (ji26) < (x7_1.length : Int) := of_decide_eq_true (t3)
        obtain ⟨ad246, e246, hx246_0⟩ := Kd.at_int (Kd.R_reads' HO_7.out).2.2 (ji26) p246 q246
        cases e246
        replace p246 := eq_true p246
        replace q246 := eq_true q246
        go_wp2
        go_meet
        case rel => exact ⟨_, (rd x7_1 (ji26)), (by first | rfl | (simp; done) | (simp only [← hji26] <;> (first | rfl | simp)) | (simp [*]; done)), H', ⟨by have := HK1.out; first | omega | exact Nat.le_refl _⟩, ⟨t9⟩, ⟨t15⟩, ⟨t12⟩, ⟨t18⟩⟩
       ·rw [if_neg c28] at H
        exact absurd H (t50)
      ·rw [if_neg c27] at H
       exact absurd H (t50)
     ·rw [if_neg c25] at H
      have c25b0 : decide (0 < (x7_1.length : Int)) = false := decide_eq_false c25
      have c25b1 : decide (0 < x7_1.length) = false := decide_eq_false (t70)
      clear c25
      (first | rw [c25b0] | rw [c25b1] | (simp only [i64_w, i32_w]; rw [c25b0]) | skip)
      have H' := Aside0.mk H
      clear H
      go_wp2
      go_meet
      case rel => exact ⟨_, (0), (t0), H', ⟨by have := HK1.out; first | omega | exact Nat.le_refl _⟩, ⟨t9⟩, ⟨t15⟩, ⟨t12⟩, ⟨t18⟩⟩
    case rest =>
     clear HC23
     try clear c1
     try clear c2
     try clear p2
     try clear q2
     try clear hx2
     try clear c5
     try clear c5b0
     try clear c6
     try clear c6b0
     try clear p6
     try clear c7
     try clear c7b0
     try clear c9
     try clear c9b0
     try clear c12
     try clear c12b0
     try clear c12b1
     try clear c12b2
     try clear c20
     try clear p23
     try clear q23
     try clear hx23
     try clear p24
     try clear q24
     try clear hx24
     try clear c25
     try clear c25b0
     try clear c25b1
     try clear c27
     try clear c27b0
     try clear c28
     try clear c28b0
     try clear hx233_0
     try clear hx246_0
     try clear p2
     try clear p233
     try clear p246
     try clear q233
     try clear q246
     obtain ⟨kq, x10_22, rfl, HA, HJ22, HO_7, HI0, HK, HB⟩ := hcut
     cases kq with
     | zero => exact absurd HA.out (by simp [impl_updates.j1])
     | succ kj22 =>
      have H := HA.out
      clear HA
      simp only [impl_updates.j1] at H
      have H' := Aside0.mk H
      clear H
      obtain ⟨ASz29_3, cSz29_3, ASz29_4, cSz29_4, HGz29, hgz29, HSz29_3, HSz29_4⟩ := HI0.out
      have hcz29_0 := cellS32_0 HGz29
      have hcz29_1 := cellS32_1 HGz29
      have hcz29_2 := cellS32_2 HGz29
      have hcz29_3 := cellS32_3 HGz29
      have hcz29_4 := cellS32_4 HGz29
      have hfz29_0 := blk_frozen HGz29 0
      have hfz29_1 := blk_frozen HGz29 1
      have hfz29_2 := blk_frozen HGz29 2
      clear HGz29 hgz29
      go_wp2
      go_loopg [7, 11, 52] kj22 (fun kq v7 v11 v52 w' => ∃ (x7_3 : List Int) (x11_3 : Bool) (x52_3 : Int), v11 = .bool x11_3 ∧ v52 = .int .i64 x52_3 ∧ Aside0 (impl_updates.l1 kq x6_1 x7_3 x10_22 x11_3 s0_3 (s0_3.length : Int) x52_3 x1000_1 x1001_1 x1002_1 s0_3 s0_4 = some (r1, r2, r3, r4, r5)) ∧ Aside0 (kq ≤ kj22) ∧ Aside0 (Kd.R (Kd.int .i64) 3 w' w.heap.size (fun _ => True) v7 x7_3) ∧ Aside0 (IsS32 w0 w' g x1000_1 x1001_1 x1002_1 s0_3 s0_4) ∧ Aside0 (KeepBut w w' g none) ∧ Aside0 (Below w0.heap.size w0 w'))
      case atStart => exact ⟨(x7_1), (false), (0), (t0), (t0), H', ⟨Nat.le_refl _⟩, ⟨t9⟩, ⟨t15⟩, ⟨t12⟩, ⟨t18⟩⟩
      case round =>
       clear H'
       try clear c1
       try clear c2
       try clear p2
       try clear q2
       try clear hx2
       try clear c5
       try clear c5b0
       try clear c6
       try clear c6b0
       try clear p6
       try clear c7
       try clear c7b0
       try clear c9
       try clear c9b0
       try clear c12
       try clear c12b0
       try clear c12b1
       try clear c12b2
       try clear c20
       try clear p23
       try clear q23
       try clear hx23
       try clear p24
       try clear q24
       try clear hx24
       try clear c25
       try clear c25b0
       try clear c25b1
       try clear c27
       try clear c27b0
       try clear c28
       try clear c28b0
       try clear hcz29_0
       try clear hcz29_1
       try clear hcz29_2
       try clear hcz29_3
       try clear hcz29_4
       try clear hfz29_0
       try clear hfz29_1
       try clear hfz29_2
       try clear hx233_0
       try clear hx246_0
       try clear p2
       try clear p23
       try clear p233
       try clear p24
       try clear p246
       try clear p6
       try clear q2
       try clear q23
       try clear q233
       try clear q24
       try clear q246
       obtain ⟨x7_3, x11_3, x52_3, rfl, rfl, HA, HK3, HO_7, HI0, HK, HB⟩ := hrel
       cases gk with
       | zero => exact absurd HA.out (by simp [impl_updates.l1])
       | succ k3 =>
        have H := HA.out
        clear HA
        simp only [impl_updates.l1] at H
        by_cases c30 : x52_3 < (s0_3.length : Int)
        ·rw [if_pos c30] at H
         have c30b0 : decide (x52_3 < (s0_3.length : Int)) = true := decide_eq_true c30
         clear c30
         by_cases c31 : 0 ≤ x52_3
         ·rw [if_pos c31] at H
          have c31b0 : decide (0 ≤ x52_3) = true := decide_eq_true c31
          clear c31
          by_cases c32 : x52_3 < (s0_3.length : Int)
          ·rw [if_pos c32] at H
           have c32b0 : decide (x52_3 < (s0_3.length : Int)) = true := decide_eq_true c32
           clear c32
           by_cases c33 : ((rd_T67 s0_3 x52_3).f0) > x10_22
           ·rw [if_pos c33] at H
            have c33b0 : decide (x10_22 < ((rd_T67 s0_3 x52_3).f0)) = true := decide_eq_true c33
            clear c33
            by_cases c34 : x7_3.length < 17592186044416
            ·rw [if_pos c34] at H
             have LMc34 := Aside0.mk c34
             clear c34
             obtain ⟨y249, hy249⟩ : ∃ y_ : List Int, y_ = (x7_3 ++ [(rd_T67 s0_3 x52_3).f0]) := ⟨_, rfl⟩
             replace H : (impl_updates.l1 k3 x6_1 y249 x10_22 true s0_3 (s0_3.length : Int) (wrap64 (x52_3 + 1)) x1000_1 x1001_1 x1002_1 s0_3 s0_4) = some (r1, r2, r3, r4, r5) := by first | (rw [hy249]; with_reducible exact H) | (have H2_ := (Option.bind_some _ _).symm.trans H; rw [hy249]; with_reducible exact H2_) | (have H2_ := (Option.bind_some _ _).symm.trans H; with_reducible exact H2_) | with_reducible exact H | (rw [hy249]; exact H) | exact H
             have Ny249 := Aside0.mk hy249
             clear hy249
             have H' := Aside0.mk H
             clear H
             obtain ⟨ASz35_3, cSz35_3, ASz35_4, cSz35_4, HGz35, hgz35, HSz35_3, HSz35_4⟩ := HI0.out
             have hcz35_0 := cellS32_0 HGz35
             have hcz35_1 := cellS32_1 HGz35
             have hcz35_2 := cellS32_2 HGz35
             have hcz35_3 := cellS32_3 HGz35
             have hcz35_4 := cellS32_4 HGz35
             have hfz35_0 := blk_frozen HGz35 0
             have hfz35_1 := blk_frozen HGz35 1
             have hfz35_2 := blk_frozen HGz35 2
             clear HGz35 hgz35
             have p247 : 0 ≤ (x52_3 : Int) := of_decide_eq_true (t3)
             have q247 : x52_3 < (s0_3.length : Int) := of_decide_eq_true (t3)
             obtain ⟨ad247, e247, hx247_0, hx247_1, hx247_2⟩ := at_T67 HSz29_3 x52_3 p247 q247
             cases e247
             replace hx247_0 := pw_cell_below HB.out hx247_0
             replace hx247_1 := pw_cell_below HB.out hx247_1
             replace hx247_2 := pw_cell_below HB.out hx247_2
             replace p247 := eq_true p247
             replace q247 := eq_true q247
             go_wp2_with (first | ((with_reducible refine gate_dst (N := 13) rfl ?_); refine box_event ?hg (N := 13) ?hd (cs := #[.int .i64 0, .int .i64 0, .string (⟨#[]⟩ : ByteArray)]) (t := 67) ?hr ?_; (case hd => rfl); (case hg => rfl); (case hr => first | (go_simp; done) | (go_simp; rfl)); intro gb248 hg w36 hbox hb; have n0_ := Aside0.mk (Kd.R_below (t9) hb); have n1_ := Aside0.mk (IsS32.below (t15) hb); have n2_ := Aside0.mk (KeepBut.trans (t12) (KeepBut.of_below hb g none) (.inl rfl)); have n3_ := Aside0.mk (below_step (t18) hb); have n4_ := Aside0.mk (hbox); have n5_ := Aside0.mk ((by rw [hg]; exact (keep_size (w := w) (g := g) (row := none) (t12)) : w.heap.size ≤ gb248)); have n6_ := Aside0.mk ((Nat.le_trans HW0.out (by rw [hg]; exact (keep_size (w := w) (g := g) (row := none) (t12)) : w.heap.size ≤ gb248) : w0.heap.size ≤ gb248)); have n7_ := Aside0.mk ((by rw [hg]; exact Nat.ne_of_lt (IsS32.lt (show IsS32 w0 _ g x1000_1 x1001_1 x1002_1 s0_3 s0_4 from by repeat (first | (with_reducible first | exact HI0.out | apply IsS32.alloc | apply IsS32.drewN | apply IsS32.drew | apply IsS32.set_0 | apply IsS32.set_1 | apply IsS32.set_2) | exact HI0.out))) : g ≠ gb248)); have n8_ := Aside0.mk ((by rw [hg]; exact Nat.ne_of_gt (IsS32.lt (show IsS32 w0 _ g x1000_1 x1001_1 x1002_1 s0_3 s0_4 from by repeat (first | (with_reducible first | exact HI0.out | apply IsS32.alloc | apply IsS32.drewN | apply IsS32.drew | apply IsS32.set_0 | apply IsS32.set_1 | apply IsS32.set_2) | exact HI0.out))) : gb248 ≠ g)); clear HO_7; clear HI0; clear HK; clear HB; have HO_7 := n0_; have HI0 := n1_; have HK := n2_; have HB := n3_; have BK248 := n4_; have GW248 := n5_; have GE248 := n6_; have NB0_248 := n7_; have NB248_0 := n8_; clear n0_ n1_ n2_ n3_ n4_ n5_ n6_ n7_ n8_; clear hb hbox hg; have hnb37 := NB248_0.out; have hnc37 := NB0_248.out; have hcz38_0 : w36.cell? ⟨gb248, 0, none⟩ = some (.int .i64 0) := (blk_cell BK248.out 0).trans rfl; have hcz38_1 : w36.cell? ⟨gb248, 1, none⟩ = some (.int .i64 0) := (blk_cell BK248.out 1).trans rfl; have hcz38_2 : w36.cell? ⟨gb248, 2, none⟩ = some (.string (⟨#[]⟩ : ByteArray)) := (blk_cell BK248.out 2).trans rfl; have hfz38_0 := blk_frozen BK248.out 0; have hfz38_1 := blk_frozen BK248.out 1; have hfz38_2 := blk_frozen BK248.out 2) | ((with_reducible refine gate_builtin (b := .append) (xs := #[.tmp 60, .tmp 63]) rfl ?_); at_builtin; refine Kd.R_append (Kd.int .i64) w.heap.size rfl (.tmp 60) (.tmp 63) 26 3 (.int .i64 0) 8 rfl Tryd.underlying26 info3 rfl (t49) (t70) u7 x7_3 ((rd_T67 s0_3 x52_3).f0) [.int .i64 ((rd_T67 s0_3 x52_3).f0)] (fun _ => True) (fun _ => False) rfl (by first | (go_simp; done) | (go_simp; rfl)) ?aP (fun _ hk => hk.elim) ?aF ?aO (Below.refl _ _) ?aS ?aL ?_; (case aP => exact rfl); (case aF => exact (fun _ _ => trivial)); (case aO => exact (t37)); (case aS => exact (keep_size (w := w) (g := g) (row := none) (t41))); (case aL => have := LMc34.out; omega); intro v250 w39 ho hb hg hat; rw [← Ny249.out] at ho; have n0_ := Aside0.mk (IsS32.grown (IsS32.far (p := ⟨gb248, 2, none⟩) (IsS32.far (p := ⟨gb248, 1, none⟩) (IsS32.far (p := ⟨gb248, 0, none⟩) HI0.out NB0_248.out _) NB0_248.out _) NB0_248.out _) hg (IsS32.own_ne HI0.out HO_7.out (t49))); have n1_ := Aside0.mk (blk_grown (g := gb248) (o := .cells #[.int .i64 ((rd_T67 s0_3 x52_3).f0), .int .i64 ((rd_T67 s0_3 x52_3).f1), .string ((rd_T67 s0_3 x52_3).f2)] 67 (0, 0)) (by (with_reducible repeat (first | refine blk_drewN ?_ _ | refine blk_drew ?_ | refine blk_alloc ?_ _)); refine blk_put (cs := #[.int .i64 ((rd_T67 s0_3 x52_3).f0), .int .i64 ((rd_T67 s0_3 x52_3).f1), .string (⟨#[]⟩ : ByteArray)]) ?_ 2 _ rfl; (with_reducible repeat (first | refine blk_drewN ?_ _ | refine blk_drew ?_ | refine blk_alloc ?_ _)); refine blk_put (cs := #[.int .i64 ((rd_T67 s0_3 x52_3).f0), .int .i64 0, .string (⟨#[]⟩ : ByteArray)]) ?_ 1 _ rfl; (with_reducible repeat (first | refine blk_drewN ?_ _ | refine blk_drew ?_ | refine blk_alloc ?_ _)); refine blk_put (cs := #[.int .i64 0, .int .i64 0, .string (⟨#[]⟩ : ByteArray)]) ?_ 0 _ rfl; (with_reducible repeat (first | refine blk_drewN ?_ _ | refine blk_drew ?_ | refine blk_alloc ?_ _)); exact BK248.out) hg (Kd.R_ne HO_7.out BK248.out (t49))); have n2_ := Aside0.mk (below_weaken (t51) HL.out hb); have n3_ := Aside0.mk (KeepBut.trans (t41) (KeepBut.of_grown hg g) (Kd.R_base2 HO_7.out)); have n4_ := Aside0.mk (ho); clear HI0; clear BK248; clear HB; clear HK; clear HO_7; have HI0 := n0_; have BK248 := n1_; have HB := n2_; have HK := n3_; have HO251 := n4_; clear n0_ n1_ n2_ n3_ n4_; clear ho hb hg hat))
             go_roundg k3
             case measure => have := HK1.out; have := HJ22.out; have := HK3.out; omega
             case rel => exact ⟨(y249), (true), (wrap64 (x52_3 + 1)), (t0), (t0), H', ⟨by have := HK1.out; have := HJ22.out; have := HK3.out; omega⟩, ⟨by (with_reducible repeat (first | apply Kd.R_alloc | apply Kd.R_drewN | apply Kd.R_drew)); exact HO251.out⟩, ⟨t74⟩, ⟨t41⟩, ⟨t51⟩⟩
            ·rw [if_neg c34] at H
             exact absurd H (t50)
           ·rw [if_neg c33] at H
            have c33b0 : decide (x10_22 < ((rd_T67 s0_3 x52_3).f0)) = false := decide_eq_false c33
            clear c33
            have H' := Aside0.mk H
            clear H
            obtain ⟨ASz40_3, cSz40_3, ASz40_4, cSz40_4, HGz40, hgz40, HSz40_3, HSz40_4⟩ := HI0.out
            have hcz40_0 := cellS32_0 HGz40
            have hcz40_1 := cellS32_1 HGz40
            have hcz40_2 := cellS32_2 HGz40
            have hcz40_3 := cellS32_3 HGz40
            have hcz40_4 := cellS32_4 HGz40
            have hfz40_0 := blk_frozen HGz40 0
            have hfz40_1 := blk_frozen HGz40 1
            have hfz40_2 := blk_frozen HGz40 2
            clear HGz40 hgz40
            have p247 : 0 ≤ (x52_3 : Int) := of_decide_eq_true (t3)
            have q247 : x52_3 < (s0_3.length : Int) := of_decide_eq_true (t3)
            obtain ⟨ad247, e247, hx247_0, hx247_1, hx247_2⟩ := at_T67 HSz29_3 x52_3 p247 q247
            cases e247
            replace hx247_0 := pw_cell_below HB.out hx247_0
            replace hx247_1 := pw_cell_below HB.out hx247_1
            replace hx247_2 := pw_cell_below HB.out hx247_2
            replace p247 := eq_true p247
            replace q247 := eq_true q247
            go_wp2_with (first | ((with_reducible refine gate_dst (N := 13) rfl ?_); refine box_event ?hg (N := 13) ?hd (cs := #[.int .i64 0, .int .i64 0, .string (⟨#[]⟩ : ByteArray)]) (t := 67) ?hr ?_; (case hd => rfl); (case hg => rfl); (case hr => first | (go_simp; done) | (go_simp; rfl)); intro gb248 hg w41 hbox hb; have n0_ := Aside0.mk (Kd.R_below (t9) hb); have n1_ := Aside0.mk (IsS32.below (t15) hb); have n2_ := Aside0.mk (KeepBut.trans (t12) (KeepBut.of_below hb g none) (.inl rfl)); have n3_ := Aside0.mk (below_step (t18) hb); have n4_ := Aside0.mk (hbox); have n5_ := Aside0.mk ((by rw [hg]; exact (keep_size (w := w) (g := g) (row := none) (t12)) : w.heap.size ≤ gb248)); have n6_ := Aside0.mk ((Nat.le_trans HW0.out (by rw [hg]; exact (keep_size (w := w) (g := g) (row := none) (t12)) : w.heap.size ≤ gb248) : w0.heap.size ≤ gb248)); have n7_ := Aside0.mk ((by rw [hg]; exact Nat.ne_of_lt (IsS32.lt (show IsS32 w0 _ g x1000_1 x1001_1 x1002_1 s0_3 s0_4 from by repeat (first | (with_reducible first | exact HI0.out | apply IsS32.alloc | apply IsS32.drewN | apply IsS32.drew | apply IsS32.set_0 | apply IsS32.set_1 | apply IsS32.set_2) | exact HI0.out))) : g ≠ gb248)); have n8_ := Aside0.mk ((by rw [hg]; exact Nat.ne_of_gt (IsS32.lt (show IsS32 w0 _ g x1000_1 x1001_1 x1002_1 s0_3 s0_4 from by repeat (first | (with_reducible first | exact HI0.out | apply IsS32.alloc | apply IsS32.drewN | apply IsS32.drew | apply IsS32.set_0 | apply IsS32.set_1 | apply IsS32.set_2) | exact HI0.out))) : gb248 ≠ g)); clear HO_7; clear HI0; clear HK; clear HB; have HO_7 := n0_; have HI0 := n1_; have HK := n2_; have HB := n3_; have BK248 := n4_; have GW248 := n5_; have GE248 := n6_; have NB0_248 := n7_; have NB248_0 := n8_; clear n0_ n1_ n2_ n3_ n4_ n5_ n6_ n7_ n8_; clear hb hbox hg; have hnb42 := NB248_0.out; have hnc42 := NB0_248.out; have hcz43_0 : w41.cell? ⟨gb248, 0, none⟩ = some (.int .i64 0) := (blk_cell BK248.out 0).trans rfl; have hcz43_1 : w41.cell? ⟨gb248, 1, none⟩ = some (.int .i64 0) := (blk_cell BK248.out 1).trans rfl; have hcz43_2 : w41.cell? ⟨gb248, 2, none⟩ = some (.string (⟨#[]⟩ : ByteArray)) := (blk_cell BK248.out 2).trans rfl; have hfz43_0 := blk_frozen BK248.out 0; have hfz43_1 := blk_frozen BK248.out 1; have hfz43_2 := blk_frozen BK248.out 2))
            go_roundg k3
            case measure => have := HK1.out; have := HJ22.out; have := HK3.out; omega
            case rel => exact ⟨(x7_3), (x11_3), (wrap64 (x52_3 + 1)), (t0), (t0), H', ⟨by have := HK1.out; have := HJ22.out; have := HK3.out; omega⟩, ⟨t37⟩, ⟨t74⟩, ⟨t41⟩, ⟨t51⟩⟩
          ·rw [if_neg c32] at H
           exact absurd H (t50)
         ·rw [if_neg c31] at H
          exact absurd H (t50)
        ·rw [if_neg c30] at H
         have c30b0 : decide (x52_3 < (s0_3.length : Int)) = false := decide_eq_false c30
         clear c30
         by_cases c44 : x11_3 = true
         ·subst c44
          have H1 : ((strconv_Itoa.f (x7_3.length : Int)).bind fun t252 => ((impl_line.f (([(⟨#[42]⟩ : ByteArray), t252, (⟨#[69, 88, 73, 83, 84, 83]⟩ : ByteArray)] : List ByteArray))).bind fun t256 => (if x6_1.size + t256.size ≤ 9223372036854775807 then (some (x6_1 ++ t256, x7_3, x1000_1, x1001_1, x1002_1)) else (none)))) = some (r1, r2, r3, r4, r5) := by rw [if_pos rfl] at H; exact H
          clear H
          have H := H1
          clear H1
          replace H := Option.bind_eq_some_iff.mp H
          obtain ⟨t252, A450, H⟩ := H
          replace H : ((impl_line.f (([(⟨#[42]⟩ : ByteArray), t252, (⟨#[69, 88, 73, 83, 84, 83]⟩ : ByteArray)] : List ByteArray))).bind fun t256 => (if x6_1.size + t256.size ≤ 9223372036854775807 then (some (x6_1 ++ t256, x7_3, x1000_1, x1001_1, x1002_1)) else (none))) = some (r1, r2, r3, r4, r5) := H
          have A45 := Aside0.mk A450
          clear A450
          obtain ⟨y253, hy253⟩ : ∃ y_ : List ByteArray, y_ = (([(⟨#[42]⟩ : ByteArray), t252, (⟨#[69, 88, 73, 83, 84, 83]⟩ : ByteArray)] : List ByteArray)) := ⟨_, rfl⟩
          replace H : ((impl_line.f y253).bind fun t256 => (if x6_1.size + t256.size ≤ 9223372036854775807 then (some (x6_1 ++ t256, x7_3, x1000_1, x1001_1, x1002_1)) else (none))) = some (r1, r2, r3, r4, r5) := by first | (rw [hy253]; with_reducible exact H) | (have H2_ := (Option.bind_some _ _).symm.trans H; rw [hy253]; with_reducible exact H2_) | (have H2_ := (Option.bind_some _ _).symm.trans H; with_reducible exact H2_) | with_reducible exact H | (rw [hy253]; exact H) | exact H
          have Ny253 := Aside0.mk hy253
          clear hy253
          replace H := Option.bind_eq_some_iff.mp H
          obtain ⟨t256, A460, H⟩ := H
          replace H : (if x6_1.size + t256.size ≤ 9223372036854775807 then (some (x6_1 ++ t256, x7_3, x1000_1, x1001_1, x1002_1)) else (none)) = some (r1, r2, r3, r4, r5) := H
          have A46 := Aside0.mk A460
          clear A460
          by_cases c47 : x6_1.size + t256.size ≤ 9223372036854775807
          ·rw [if_pos c47] at H
           have c47b0 := eq_true c47
           have c47b1 : decide (x6_1.size + t256.size ≤ 9223372036854775807) = true := decide_eq_true c47
           try have c47b2 : (9223372036854775807 < x6_1.size + t256.size) = False := eq_false (Nat.not_lt.2 c47)
           simp only [Option.some.injEq, Prod.mk.injEq] at H
           obtain ⟨rfl, rfl, rfl, rfl, rfl⟩ := H
           obtain ⟨Ao48, co48, eo48⟩ := Kd.R_slice HO_7.out
           subst eo48
           go_wp2_with (first | ((with_reducible refine gate_callee (f := 92) rfl ?_); refine goesL_ (some 70) rfl rfl Tryd.func92 (t23) rfl #[.int .i64 (x7_3.length : Int)] rfl (t2) ?_; (with_reducible refine (strconv_Itoa.calls (x7_3.length : Int) t252 _ ?side1 A45.out).mono ?_); (case side1 => first | exact HG | exact ⟨HG.out.of rfl⟩ | (refine ⟨HG.out.on ?_⟩; (repeat (first | (with_reducible first | exact HB.out | apply below_alloc | apply pw_below_drewN | apply below_drew1 | refine below_set ?_ (IsS32.ge HI0.out)) | exact HB.out)); done) | exact ⟨HG.out.on HBW.out⟩); rintro e w49 ⟨rfl, hb⟩; refine ⟨_, rfl, ?_⟩; have n0_ := Aside0.mk (Kd.R_below (t9) hb); have n1_ := Aside0.mk (IsS32.below (t15) hb); have n2_ := Aside0.mk (KeepBut.trans (t12) (KeepBut.of_below hb g none) (.inl rfl)); have n3_ := Aside0.mk (below_step (t18) hb); clear HO_7; clear HI0; clear HK; clear HB; have HO_7 := n0_; have HI0 := n1_; have HK := n2_; have HB := n3_; clear n0_ n1_ n2_ n3_; (try clear hb); (try clear hb2); (try clear hk); (try clear hi)) | ((with_reducible refine gate_dst (N := 71) rfl ?_); refine Kd.R_lit Kd.string _ 9 ?hg (N := 71) ?hd (xs := ([(⟨#[42]⟩ : ByteArray), t252, (⟨#[69, 88, 73, 83, 84, 83]⟩ : ByteArray)] : List ByteArray)) (inner := [.string (⟨#[42]⟩ : ByteArray), .string t252, .string (⟨#[69, 88, 73, 83, 84, 83]⟩ : ByteArray)]) (ok := fun _ => True) (okp := fun _ => True) ?hr ?hp (fun _ hk => hk) trivial (Below.refl _ _) (Nat.le_refl _) (t50) ?_; (case hd => rfl); (case hg => rfl); (case hr => first | (go_simp; done) | (go_simp; rfl)); (case hp => exact (Reps.one (show Kd.M Kd.string _ _ _ (⟨#[42]⟩ : ByteArray) [.string (⟨#[42]⟩ : ByteArray)] from rfl) (Reps.one (show Kd.M Kd.string _ _ _ t252 [.string t252] from rfl) (Reps.one (show Kd.M Kd.string _ _ _ (⟨#[69, 88, 73, 83, 84, 83]⟩ : ByteArray) [.string (⟨#[69, 88, 73, 83, 84, 83]⟩ : ByteArray)] from rfl) (Reps.none _ _))))); intro v254 w50 ho51 hb hg_ hnew_; clear hg_ hnew_; (first | rw [← Ny253.out] at ho51 | (simp only [Int.reduceToNat] at ho51; rw [← Ny253.out] at ho51)); have n0_ := Aside0.mk (Kd.R_below (t9) hb); have n1_ := Aside0.mk (Kd.R_lower ho51 (keep_size (w := w) (g := g) (row := none) (t12))); have n2_ := Aside0.mk (IsS32.below (t15) hb); have n3_ := Aside0.mk (KeepBut.trans (t12) (KeepBut.of_below hb g none) (.inl rfl)); have n4_ := Aside0.mk (below_step (t18) hb); clear HO_7; clear HI0; clear HK; clear HB; have HO_7 := n0_; have HO255 := n1_; have HI0 := n2_; have HK := n3_; have HB := n4_; clear n0_ n1_ n2_ n3_ n4_; clear hb ho51; obtain ⟨Ao52, co52, eo52⟩ := Kd.R_slice HO255.out; subst eo52) | ((with_reducible refine gate_callee (f := 91) rfl ?_); refine goesL_ (some 72) rfl rfl Tryd.func91 (t23) rfl #[.slice Ao52 y253.length co52] rfl (t2) ?_; (with_reducible refine (impl_line.calls _ _ y253 t256 _ ?side1 ?side2 A46.out).mono ?_); (case side1 => repeat (first | exact (Kd.R_reads' HO255.out).2.2 | (with_reducible refine Kd.C_alloc ?_ _) | (with_reducible refine Kd.C_drewN ?_ _) | (with_reducible refine Kd.C_drew ?_))); (case side2 => exact (Kd.R_reads' HO255.out).2.1); rintro e w53 ⟨rfl, hb⟩; refine ⟨_, rfl, ?_⟩; have n0_ := Aside0.mk (Kd.R_below (t9) hb); have n1_ := Aside0.mk (Kd.R_below (by (with_reducible repeat (first | apply Kd.R_alloc | apply Kd.R_drewN | apply Kd.R_drew)); exact HO255.out) hb); have n2_ := Aside0.mk (IsS32.below (t15) hb); have n3_ := Aside0.mk (KeepBut.trans (t12) (KeepBut.of_below hb g none) (.inl rfl)); have n4_ := Aside0.mk (below_step (t18) hb); clear HO_7; clear HO255; clear HI0; clear HK; clear HB; have HO_7 := n0_; have HO255 := n1_; have HI0 := n2_; have HK := n3_; have HB := n4_; clear n0_ n1_ n2_ n3_ n4_; (try clear hb); (try clear hb2); (try clear hk); (try clear hi)))
           go_ret2
           exact ⟨_, by first | rfl | (simp only [nil_beq, nil_bne]; rfl) | (simp [nil_beq, nil_bne]; done) | (simp [errW_none, errW_some] <;> rfl) | (simp [*, errW_none, errW_some] <;> rfl), by (with_reducible repeat (first | apply Kd.R_alloc | apply Kd.R_drewN | apply Kd.R_drew)); exact HO_7.out, by repeat (first | (with_reducible first | exact HI0.out | apply IsS32.alloc | apply IsS32.drewN | apply IsS32.drew | apply IsS32.set_0 | apply IsS32.set_1 | apply IsS32.set_2) | exact HI0.out), by repeat (first | (with_reducible first | exact HB.out | apply below_alloc | apply pw_below_drewN | apply below_drew1 | refine below_set ?_ (IsS32.ge HI0.out)) | exact HB.out), by repeat (first | (with_reducible first | exact HK.out | apply KeepBut.set_ | apply keep_drewN | apply keep_drew | apply keep_alloc) | exact HK.out)⟩
          ·rw [if_neg c47] at H
           exact absurd H (t50)
         ·replace c44 := Bool.eq_false_iff.mpr c44
          subst c44
          have H1 : (some (x6_1, x7_3, x1000_1, x1001_1, x1002_1)) = some (r1, r2, r3, r4, r5) := by rw [if_neg (show ¬ (false = true) by decide)] at H; exact H
          clear H
          have H := H1
          clear H1
          simp only [Option.some.injEq, Prod.mk.injEq] at H
          obtain ⟨rfl, rfl, rfl, rfl, rfl⟩ := H
          go_wp2
          go_ret2
          exact ⟨_, by first | rfl | (simp only [nil_beq, nil_bne]; rfl) | (simp [nil_beq, nil_bne]; done) | (simp [errW_none, errW_some] <;> rfl) | (simp [*, errW_none, errW_some] <;> rfl), by (with_reducible repeat (first | apply Kd.R_alloc | apply Kd.R_drewN | apply Kd.R_drew)); exact HO_7.out, by repeat (first | (with_reducible first | exact HI0.out | apply IsS32.alloc | apply IsS32.drewN | apply IsS32.drew | apply IsS32.set_0 | apply IsS32.set_1 | apply IsS32.set_2) | exact HI0.out), by repeat (first | (with_reducible first | exact HB.out | apply below_alloc | apply pw_below_drewN | apply below_drew1 | refine below_set ?_ (IsS32.ge HI0.out)) | exact HB.out), by repeat (first | (with_reducible first | exact HK.out | apply KeepBut.set_ | apply keep_drewN | apply keep_drew | apply keep_alloc) | exact HK.out)⟩

end Go.Proofs.YtnphhnhnmohfiaaDoor.PFnExactViewUpdates
