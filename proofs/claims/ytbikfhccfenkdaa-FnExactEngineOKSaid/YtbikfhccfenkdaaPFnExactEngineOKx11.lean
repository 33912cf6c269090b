/- Contracts of functions that a statement reaches (wip/x/xprint.py, short.py, compact.py). -/
import Derived.Test.YtbikfhccfenkdaaPFnExactEngineOKx0
namespace Go.Proofs.Ytbikfhccfenkdaa.PFnExactEngineOK
open Go.RowKit Go.Proofs.YtbikfhccfenkdaaW.PrintWords Go.Proofs.YtbikfhccfenkdaaW.PrintLast Go.Proofs.YtbikfhccfenkdaaW.PrintMore Go.Proofs.Ytbikfhccfenkdaa.Mac
attribute [local go_sem] max2_int min2_int max_two min_two max_three min_three max_four min_four
set_option linter.unusedVariables false
set_option linter.unusedSimpArgs false

/-- A state of type 59 at block g of W; what its slices lead to came in by w0. -/
def IsS59 (w0 W : World) (g : Nat) (f0 : ByteArray) (f1 : Int) (f2 : Int) (f3 : List (S71)) (f4 : List ByteArray) : Prop := ∃ A3 c3, ∃ A4 c4, W.heap[g]? = some (.cells #[.string f0, .int .i64 f1, .int .i64 f2, .slice A3 f3.length c3, .slice A4 f4.length c4] 59 (0, 0)) ∧ w0.heap.size ≤ g ∧ Kd.C k71 w0 A3 f3.length f3 ∧ Kd.C Kd.string w0 A4 f4.length f4
theorem IsS59.grown {w0 W : World} {g : Nat} {f0 : ByteArray} {f1 : Int} {f2 : Int} {f3 : List (S71)} {f4 : List ByteArray} {W1 : World} {row : Option Nat} (h : IsS59 w0 W g f0 f1 f2 f3 f4) (hw : W.grownBy W1 row) (hne : some g ≠ row) : IsS59 w0 W1 g f0 f1 f2 f3 f4 := by
 obtain ⟨A3, c3, A4, c4, hb, hg, hr3, hr4⟩ := h
 exact ⟨A3, c3, A4, c4, blk_grown hb hw hne, hg, hr3, hr4⟩
theorem IsS59.own_neN {w0 W : World} {g : Nat} {f0 : ByteArray} {f1 : Int} {f2 : Int} {f3 : List (S71)} {f4 : List ByteArray} {α : Type} {d : Kd α} {e : Nat} {base : Nat} {ok : Nat → Prop} {v : Value} {xs : List α} (h : IsS59 w0 W g f0 f1 f2 f3 f4) (ho : Kd.N d e W base ok v xs) (ht : e ≠ 59) : some g ≠ v.ownBlock := by
 obtain ⟨A3, c3, A4, c4, hb, hg, hr3, hr4⟩ := h
 exact Kd.N_ne ho hb ht
theorem IsS59.fresh {w0 W : World} {g : Nat} {f0 : ByteArray} {f1 : Int} {f2 : Int} {f3 : List (S71)} {f4 : List ByteArray} (h : IsS59 w0 W g f0 f1 f2 f3 f4) : ∀ k, W.heap.size ≤ k → k ≠ g := by
 obtain ⟨A3, c3, A4, c4, hb, hg, hr3, hr4⟩ := h
 exact Kd.freshB hb
theorem IsS59.kept {w0 W : World} {g : Nat} {f0 : ByteArray} {f1 : Int} {f2 : Int} {f3 : List (S71)} {f4 : List ByteArray} {W1 : World} {S : Nat → Prop} (h : IsS59 w0 W g f0 f1 f2 f3 f4) (hk : Kept W W1 S) (hne : ¬ S g) : IsS59 w0 W1 g f0 f1 f2 f3 f4 := by
 obtain ⟨A3, c3, A4, c4, hb, hg, hr3, hr4⟩ := h
 exact ⟨A3, c3, A4, c4, blk_kept hb hk hne, hg, hr3, hr4⟩
theorem IsS59.below {w0 W : World} {g : Nat} {f0 : ByteArray} {f1 : Int} {f2 : Int} {f3 : List (S71)} {f4 : List ByteArray} {W1 : World} (h : IsS59 w0 W g f0 f1 f2 f3 f4) (hw : Below W.heap.size W W1) : IsS59 w0 W1 g f0 f1 f2 f3 f4 := h.grown (grown_of_below hw none) (Z124)
theorem IsS59.alloc {w0 W : World} {g : Nat} {f0 : ByteArray} {f1 : Int} {f2 : Int} {f3 : List (S71)} {f4 : List ByteArray} (h : IsS59 w0 W g f0 f1 f2 f3 f4) (o : Obj) : IsS59 w0 (W.alloc o) g f0 f1 f2 f3 f4 := h.below (below_alloc (Below.refl _ _) o)
theorem IsS59.drewN {w0 W : World} {g : Nat} {f0 : ByteArray} {f1 : Int} {f2 : Int} {f3 : List (S71)} {f4 : List ByteArray} (h : IsS59 w0 W g f0 f1 f2 f3 f4) (m : Nat) : IsS59 w0 (W.drewN m) g f0 f1 f2 f3 f4 := h
theorem IsS59.drew {w0 W : World} {g : Nat} {f0 : ByteArray} {f1 : Int} {f2 : Int} {f3 : List (S71)} {f4 : List ByteArray} (h : IsS59 w0 W g f0 f1 f2 f3 f4) : IsS59 w0 W.drew g f0 f1 f2 f3 f4 := h
theorem IsS59.at_ {w0 W : World} {g : Nat} {f0 : ByteArray} {f1 : Int} {f2 : Int} {f3 : List (S71)} {f4 : List ByteArray} {w' : World} {m : Nat} (hq : W.drewN m = w') (h : IsS59 w0 W g f0 f1 f2 f3 f4) : IsS59 w0 w' g f0 f1 f2 f3 f4 := by subst hq; exact IsS59.drewN h m
theorem IsS59.apart {w0 W : World} {g : Nat} {f0 : ByteArray} {f1 : Int} {f2 : Int} {f3 : List (S71)} {f4 : List ByteArray} {α : Type} {d : Kd α} {e : Nat} {base : Nat} {ok : Nat → Prop} {v : Value} {xs : List α} (h : IsS59 w0 W g f0 f1 f2 f3 f4) (ho : d.R e W base ok v xs) (ht : ∀ q, q ∈ e :: d.E → q ≠ 59) : d.R e W base (fun k => ok k ∧ k ≠ g) v xs := by
 obtain ⟨A3, c3, A4, c4, hb, hg, hr3, hr4⟩ := h
 exact Kd.R_types ho hb ht
theorem IsS59.own_ne {w0 W : World} {g : Nat} {f0 : ByteArray} {f1 : Int} {f2 : Int} {f3 : List (S71)} {f4 : List ByteArray} {α : Type} {d : Kd α} {e : Nat} {base : Nat} {ok : Nat → Prop} {v : Value} {xs : List α} (h : IsS59 w0 W g f0 f1 f2 f3 f4) (ho : d.R e W base ok v xs) (ht : e ≠ 59) : some g ≠ v.ownBlock := by
 obtain ⟨A3, c3, A4, c4, hb, hg, hr3, hr4⟩ := h
 exact Kd.R_ne ho hb ht
theorem IsS59.apartQ {w0 W : World} {g : Nat} {f0 : ByteArray} {f1 : Int} {f2 : Int} {f3 : List (S71)} {f4 : List ByteArray} {α : Type} {d : Kd α} {e : Nat} {base : Nat} {ok : Nat → Prop} {v : Value} {xs : List α} (h : IsS59 w0 W g f0 f1 f2 f3 f4) (ho : d.Q e W base ok v xs) (ht : ∀ q, q ∈ e :: d.E → q ≠ 59) : d.Q e W base (fun k => ok k ∧ k ≠ g) v xs := by
 obtain ⟨A3, c3, A4, c4, hb, hg, hr3, hr4⟩ := h
 exact Kd.Q_types ho hb ht
theorem IsS59.own_neQ {w0 W : World} {g : Nat} {f0 : ByteArray} {f1 : Int} {f2 : Int} {f3 : List (S71)} {f4 : List ByteArray} {α : Type} {d : Kd α} {e : Nat} {base : Nat} {ok : Nat → Prop} {v : Value} {xs : List α} (h : IsS59 w0 W g f0 f1 f2 f3 f4) (ho : d.Q e W base ok v xs) (ht : e ≠ 59) : some g ≠ v.ownBlock := by
 obtain ⟨A3, c3, A4, c4, hb, hg, hr3, hr4⟩ := h
 exact Kd.Q_ne ho hb ht
theorem IsS59.apartS {w0 W : World} {g : Nat} {f0 : ByteArray} {f1 : Int} {f2 : Int} {f3 : List (S71)} {f4 : List ByteArray} {α : Type} {d : Kd α} {e : Nat} {base : Nat} {ok : Nat → Prop} {v : Value} {xs : List α} (h : IsS59 w0 W g f0 f1 f2 f3 f4) (ho : d.S e W base ok v xs) (ht : ∀ q, q ∈ e :: d.E → q ≠ 59) : d.S e W base (fun k => ok k ∧ k ≠ g) v xs := by
 obtain ⟨A3, c3, A4, c4, hb, hg, hr3, hr4⟩ := h
 exact Kd.S_types ho hb ht
theorem IsS59.own_neS {w0 W : World} {g : Nat} {f0 : ByteArray} {f1 : Int} {f2 : Int} {f3 : List (S71)} {f4 : List ByteArray} {α : Type} {d : Kd α} {e : Nat} {base : Nat} {ok : Nat → Prop} {v : Value} {xs : List α} (h : IsS59 w0 W g f0 f1 f2 f3 f4) (ho : d.S e W base ok v xs) (ht : e ≠ 59) : some g ≠ v.ownBlock := by
 obtain ⟨A3, c3, A4, c4, hb, hg, hr3, hr4⟩ := h
 exact Kd.S_ne ho hb ht
theorem IsS59.lt {w0 W : World} {g : Nat} {f0 : ByteArray} {f1 : Int} {f2 : Int} {f3 : List (S71)} {f4 : List ByteArray} (h : IsS59 w0 W g f0 f1 f2 f3 f4) : g < W.heap.size := by
 obtain ⟨A3, c3, A4, c4, hb, hg, hr3, hr4⟩ := h
 exact blk_lt hb
theorem IsS59.ge {w0 W : World} {g : Nat} {f0 : ByteArray} {f1 : Int} {f2 : Int} {f3 : List (S71)} {f4 : List ByteArray} (h : IsS59 w0 W g f0 f1 f2 f3 f4) : w0.heap.size ≤ g := by
 obtain ⟨A3, c3, A4, c4, hb, hg, hr3, hr4⟩ := h
 exact hg
theorem IsS59.ne_blk {w0 W : World} {g : Nat} {f0 : ByteArray} {f1 : Int} {f2 : Int} {f3 : List (S71)} {f4 : List ByteArray} {a : Nat} {cs : Array Value} {t : TypeId} {fr : Nat × Nat} (h : IsS59 w0 W g f0 f1 f2 f3 f4) (hb2 : W.heap[a]? = some (.cells cs t fr)) (ht : t ≠ 59) : g ≠ a := by
 obtain ⟨A3, c3, A4, c4, hb, hg, hr3, hr4⟩ := h
 rintro rfl
 rw [hb] at hb2
 injection hb2 with hb2
 injection hb2 with _ ht2
 exact ht ht2.symm
theorem IsS59.far {w0 W : World} {g : Nat} {f0 : ByteArray} {f1 : Int} {f2 : Int} {f3 : List (S71)} {f4 : List ByteArray} {p : Addr} (h : IsS59 w0 W g f0 f1 f2 f3 f4) (hne : g ≠ p.block) (u : Value) : IsS59 w0 (W.setCell p u) g f0 f1 f2 f3 f4 := by
 obtain ⟨A3, c3, A4, c4, hb, hg, hr3, hr4⟩ := h
 exact ⟨A3, c3, A4, c4, blk_far hb hne u, hg, hr3, hr4⟩
theorem cellS59_0 {W : World} {g : Nat} {A3 : Option Addr} {c3 : Nat} {A4 : Option Addr} {c4 : Nat} {f0 : ByteArray} {f1 : Int} {f2 : Int} {f3 : List (S71)} {f4 : List ByteArray} (h : W.heap[g]? = some (.cells #[.string f0, .int .i64 f1, .int .i64 f2, .slice A3 f3.length c3, .slice A4 f4.length c4] 59 (0, 0))) : W.cell? ⟨g, 0, none⟩ = some (.string f0) := (blk_cell h 0).trans rfl
theorem IsS59.set_0 {w0 W : World} {g : Nat} {f0 : ByteArray} {f1 : Int} {f2 : Int} {f3 : List (S71)} {f4 : List ByteArray} (h : IsS59 w0 W g f0 f1 f2 f3 f4) (x : ByteArray) : IsS59 w0 (W.setCell ⟨g, 0, none⟩ (.string x)) g x f1 f2 f3 f4 := by
 obtain ⟨A3, c3, A4, c4, hb, hg, hr3, hr4⟩ := h
 exact ⟨A3, c3, A4, c4, by simpa using blk_set hb 0 (.string x), hg, hr3, hr4⟩
theorem cellS59_1 {W : World} {g : Nat} {A3 : Option Addr} {c3 : Nat} {A4 : Option Addr} {c4 : Nat} {f0 : ByteArray} {f1 : Int} {f2 : Int} {f3 : List (S71)} {f4 : List ByteArray} (h : W.heap[g]? = some (.cells #[.string f0, .int .i64 f1, .int .i64 f2, .slice A3 f3.length c3, .slice A4 f4.length c4] 59 (0, 0))) : W.cell? ⟨g, 1, none⟩ = some (.int .i64 f1) := (blk_cell h 1).trans rfl
theorem IsS59.set_1 {w0 W : World} {g : Nat} {f0 : ByteArray} {f1 : Int} {f2 : Int} {f3 : List (S71)} {f4 : List ByteArray} (h : IsS59 w0 W g f0 f1 f2 f3 f4) (x : Int) : IsS59 w0 (W.setCell ⟨g, 1, none⟩ (.int .i64 x)) g f0 x f2 f3 f4 := by
 obtain ⟨A3, c3, A4, c4, hb, hg, hr3, hr4⟩ := h
 exact ⟨A3, c3, A4, c4, by simpa using blk_set hb 1 (.int .i64 x), hg, hr3, hr4⟩
theorem cellS59_2 {W : World} {g : Nat} {A3 : Option Addr} {c3 : Nat} {A4 : Option Addr} {c4 : Nat} {f0 : ByteArray} {f1 : Int} {f2 : Int} {f3 : List (S71)} {f4 : List ByteArray} (h : W.heap[g]? = some (.cells #[.string f0, .int .i64 f1, .int .i64 f2, .slice A3 f3.length c3, .slice A4 f4.length c4] 59 (0, 0))) : W.cell? ⟨g, 2, none⟩ = some (.int .i64 f2) := (blk_cell h 2).trans rfl
theorem IsS59.set_2 {w0 W : World} {g : Nat} {f0 : ByteArray} {f1 : Int} {f2 : Int} {f3 : List (S71)} {f4 : List ByteArray} (h : IsS59 w0 W g f0 f1 f2 f3 f4) (x : Int) : IsS59 w0 (W.setCell ⟨g, 2, none⟩ (.int .i64 x)) g f0 f1 x f3 f4 := by
 obtain ⟨A3, c3, A4, c4, hb, hg, hr3, hr4⟩ := h
 exact ⟨A3, c3, A4, c4, by simpa using blk_set hb 2 (.int .i64 x), hg, hr3, hr4⟩
theorem cellS59_3 {W : World} {g : Nat} {A3 : Option Addr} {c3 : Nat} {A4 : Option Addr} {c4 : Nat} {f0 : ByteArray} {f1 : Int} {f2 : Int} {f3 : List (S71)} {f4 : List ByteArray} (h : W.heap[g]? = some (.cells #[.string f0, .int .i64 f1, .int .i64 f2, .slice A3 f3.length c3, .slice A4 f4.length c4] 59 (0, 0))) : W.cell? ⟨g, 3, none⟩ = some (.slice A3 f3.length c3) := (blk_cell h 3).trans rfl
theorem cellS59_4 {W : World} {g : Nat} {A3 : Option Addr} {c3 : Nat} {A4 : Option Addr} {c4 : Nat} {f0 : ByteArray} {f1 : Int} {f2 : Int} {f3 : List (S71)} {f4 : List ByteArray} (h : W.heap[g]? = some (.cells #[.string f0, .int .i64 f1, .int .i64 f2, .slice A3 f3.length c3, .slice A4 f4.length c4] 59 (0, 0))) : W.cell? ⟨g, 4, none⟩ = some (.slice A4 f4.length c4) := (blk_cell h 4).trans rfl
theorem IsS59.new (w0 W : World) (A3 : Option Addr) (c3 : Nat) (A4 : Option Addr) (c4 : Nat) (f0 : ByteArray) (f1 : Int) (f2 : Int) (f3 : List (S71)) (f4 : List ByteArray) (hB : Below w0.heap.size w0 W) (hr3 : Kd.C k71 w0 A3 f3.length f3) (hr4 : Kd.C Kd.string w0 A4 f4.length f4) : IsS59 w0 (W.alloc (.cells #[.string f0, .int .i64 f1, .int .i64 f2, .slice A3 f3.length c3, .slice A4 f4.length c4] 59)) W.heap.size f0 f1 f2 f3 f4 := ⟨A3, c3, A4, c4, by simpa using heap_alloc_new W _, hB.size, hr3, hr4⟩
-- EXTERNAL: function 87 (impl_Box_mailIndex)
def idxU (u : Int) : List S71 → Int → Int
 | [], _ => -1
 | m :: r, i => if m.f0 = u then i else idxU u r (i + 1)
theorem idxU_drop (u : Int) (l : List S71) (k : Nat) (h : k < l.length) : idxU u (l.drop k) k = if (rd_T71 l (k : Int)).f0 = u then (k : Int) else idxU u (l.drop (k + 1)) ((k + 1 : Nat) : Int) := by
 rw [List.drop_eq_getElem_cons h, idxU]
 have e : rd_T71 l (k : Int) = l[k] := by unfold rd_T71; simp [List.getD, List.getElem?_eq_getElem h]
 rw [e]; rfl
theorem mailIs (x y : Int) (z : ByteArray) (B : Nat) (u : Int) (w : World) (hB : B < w.heap.size) (hc : w.cell? ⟨B, 0, none⟩ = some (.int .i64 u)) :
  Calls Try.prog 93 #[.agg #[.int .i64 x, .int .i64 y, .string z], .pointer (some ⟨B, 0, none⟩)] w fun e w' => e = .returned (.bool (x == u)) ∧ Below w.heap.size w w' := by
 have hc2 : ∀ o, (w.alloc o).cell? ⟨B, 0, none⟩ = some (.int .i64 u) := fun o => (World.cell?_alloc_past _ _ _ hB).trans hc
 go_enter Try.func93, Try.ntmps93
 go_wp2
 go_ret
 exact ⟨by first | rfl | (simp; done) | (simp [*]; done), Z6⟩
set_option maxHeartbeats 8000000 in
set_option maxRecDepth 100000 in
theorem mailsIndex (A : Option Addr) (c : Nat) (l : List S71) (u : Int) (B : Nat) (w : World) (hC : Kd.C k71 w A l.length l) (hB : B < w.heap.size) (hc : w.cell? ⟨B, 0, none⟩ = some (.int .i64 u)) (hl : l.length ≤ 1099511627776) :
  Calls Try.prog 88 #[.slice A l.length c, .func (.func 93) #[] #[.pointer (some ⟨B, 0, none⟩)]] w fun e w' => e = .returned (.int .i64 (idxU u l 0)) ∧ Below w.heap.size w w' := by
 have eg := enters_of Try.func93 (Z24) rfl
 have HC := Aside0.mk hC
 have HQ := Aside0.mk hc
 clear hC hc
 go_enter Try.func88, Try.ntmps88
 go_wp2
 go_loopg [5, 8] l.length (fun gg _ s8 wr => ∃ kk : Nat, kk ≤ l.length ∧ l.length - kk ≤ gg ∧ s8 = .int .i64 kk ∧ Aside0 (Below w.heap.size w wr) ∧ Aside0 (idxU u l 0 = idxU u (l.drop kk) kk))
 case atStart => exact ⟨0, Nat.zero_le _, Z43, rfl, ⟨Below.refl _ w⟩, ⟨rfl⟩⟩
 case round =>
  obtain ⟨kk, hkk, hg, rfl, BW, AI⟩ := hrel
  by_cases hlt : kk < l.length
  ·have hltz : (kk : Int) < (l.length : Int) := by omega
   have h0 : 0 ≤ (kk : Int) := by omega
   obtain ⟨ad, e, hx0, hx1, hx2⟩ := at_T71 HC.out kk h0 hltz
   cases e
   simp only [Int.toNat_natCast] at hx0 hx1 hx2
   replace hx0 := (BW.out.cell (World.block_lt_of_cell? w _ hx0)).trans hx0
   replace hx1 := (BW.out.cell (World.block_lt_of_cell? w _ hx1)).trans hx1
   replace hx2 := (BW.out.cell (World.block_lt_of_cell? w _ hx2)).trans hx2
   have hstep := idxU_drop u l kk hlt
   have hcall := mailIs (rd_T71 l (kk : Int)).f0 (rd_T71 l (kk : Int)).f1 (rd_T71 l (kk : Int)).f2 B u wr (Nat.lt_of_lt_of_le hB BW.out.size) ((BW.out.cell (p := ⟨B, 0, none⟩) hB).trans HQ.out)
   by_cases hq : (rd_T71 l (kk : Int)).f0 = u
   ·rw [if_pos hq] at hstep
    rw [show ((rd_T71 l (kk : Int)).f0 == u) = true from beq_iff_eq.mpr hq] at hcall
    have HS := Aside0.mk hstep
    clear hstep hq
    go_wp2_with (go_at_call 93; refine hcall.mono ?_; rintro e w' ⟨rfl, hb'⟩)
    go_ret
    exact ⟨by rw [AI.out, HS.out]; rfl, Below.trans BW.out (hb'.mono BW.out.size)⟩
   ·rw [if_neg hq] at hstep
    rw [show ((rd_T71 l (kk : Int)).f0 == u) = false from beq_eq_false_iff_ne.mpr hq] at hcall
    have HS := Aside0.mk hstep
    clear hstep hq
    go_wp2_with (go_at_call 93; refine hcall.mono ?_; rintro e w' ⟨rfl, hb'⟩)
    go_roundg (l.length - (kk + 1))
    case measure => omega
    case rel => exact ⟨kk + 1, Z43, Z43, by go_num, ⟨Below.trans BW.out (hb'.mono BW.out.size)⟩, ⟨AI.out.trans HS.out⟩⟩
  ·have hltz : ¬ (kk : Int) < (l.length : Int) := by omega
   obtain rfl : kk = l.length := by omega
   go_wp2
   go_ret
   exact ⟨Z145, BW.out⟩
def impl_Box_mailIndex.f (s0 : ByteArray) (s1 s2 : Int) (s3 : List S71) (s4 : List ByteArray) (u : Int) : Option (Int × ByteArray × Int × Int) := if s3.length ≤ 1099511627776 then some (idxU u s3 0, s0, s1, s2) else none
set_option maxHeartbeats 8000000 in
set_option maxRecDepth 100000 in
theorem impl_Box_mailIndex.calls (g : Nat) (s0 : ByteArray) (s1 s2 : Int) (s3 : List S71) (s4 : List ByteArray) (u : Int) (r : Int) (r3 : ByteArray) (r4 r5 : Int) (w0 w : World) (hI : IsS59 w0 w g s0 s1 s2 s3 s4) (hB : Below w0.heap.size w0 w) (h : impl_Box_mailIndex.f s0 s1 s2 s3 s4 u = some (r, r3, r4, r5)) :
  Calls Try.prog 87 #[.pointer (some ⟨g, 0, none⟩), .int .i64 u] w fun e w' => e = .returned (.int .i64 r) ∧ IsS59 w0 w' g r3 r4 r5 s3 s4 ∧ Below w0.heap.size w0 w' ∧ KeepBut w w' g none := by
 unfold impl_Box_mailIndex.f at h
 by_cases hl : s3.length ≤ 1099511627776
 ·rw [if_pos hl] at h
  simp only [Option.some.injEq, Prod.mk.injEq] at h
  obtain ⟨rfl, rfl, rfl, rfl⟩ := h
  have HI := Aside0.mk hI
  have HB := Aside0.mk hB
  have hlt := hI.lt
  obtain ⟨A3, c3, A4, c4, hb, hge, hr3, hr4⟩ := hI
  have hC : Kd.C k71 w A3 s3.length s3 := Kd.C_below hr3 hB
  have HC := Aside0.mk (Kd.C_alloc hC (.cells #[.int .i64 u] 3))
  have hf3 : (w.alloc (.cells #[.int .i64 u] 3)).cell? ⟨g, 3, none⟩ = some (.slice A3 s3.length c3) := (World.cell?_alloc_past _ _ _ hlt).trans ((blk_cell hb 3).trans rfl)
  clear hb hr3 hr4 hC hB
  go_enter Try.func87, Try.ntmps87
  go_wp2_with (go_at_call 88; refine (mailsIndex A3 c3 s3 u w.heap.size _ HC.out (Z124) (by simp [go_sem]) hl).mono ?_; rintro e w' ⟨rfl, hb'⟩)
  go_ret
  have B' : Below w.heap.size w w' := Below.trans (Below.alloc (Below.refl _ _) (Nat.le_refl _) _) (hb'.mono (Z124))
  exact ⟨rfl, HI.out.below B', Below.trans HB.out (B'.mono HB.out.size), ⟨B'.size, fun k hk _ _ => B'.block k hk⟩⟩
 ·rw [if_neg hl] at h; cases h

end Go.Proofs.Ytbikfhccfenkdaa.PFnExactEngineOK
