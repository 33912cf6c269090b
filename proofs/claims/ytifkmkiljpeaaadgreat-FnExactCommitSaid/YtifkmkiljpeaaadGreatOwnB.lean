/- Texts laid together: YtifkmkiljpeaaadGreatEv, YtifkmkiljpeaaadGreatAid, YtifkmkiljpeaaadGreatMac, YtifkmkiljpeaaadGreatNumPure. -/
import Derived.Test.YtifkmkiljpeaaadGreatWAll
import Derived.Test.YtifkmkiljpeaaadGreatOwnA
import Derived.Shelf.Abstract
import Derived.Outline
import Derived.Deep.QuietTactic
import Derived.BigQuiet
import Derived.Deep.RegionLaw
import Derived.BigRegion
import Derived.RegionTactic
import Derived.ChangeAlike
import Derived.Deep.RegionWith
import Derived.Deep.RegionHeld3
import Derived.StillTailTactics
import Derived.Lib.SliceRun
import Derived.Lib.AtoiAll
section
set_option linter.unusedVariables false
set_option linter.unusedSimpArgs false
namespace Go.Proofs.YtifkmkiljpeaaadGreat
open Go.RowKit Go.Proofs.YtifkmkiljpeaaadGreatW.PrintWords
theorem bp {α : Type} {c : Prop} [Decidable c] {t e : Nat -> Option α} {r : α} (h : c) (H : Ev t r) : Ev (fun k => if c then t k else e k) r := by
  obtain ⟨K, H⟩ := H; exact ⟨K, fun k hk => (if_pos h).trans (H k hk)⟩
theorem bv {α : Type} {c : Prop} [Decidable c] {t e : Nat -> Option α} {r : α} (h : ¬ c) (H : Ev e r) : Ev (fun k => if c then t k else e k) r := by
  obtain ⟨K, H⟩ := H; exact ⟨K, fun k hk => (if_neg h).trans (H k hk)⟩
theorem cj {α β : Type} {o : Option α} {f : Nat -> α -> Option β} {a : α} {r : β} (h : o = some a) (H : Ev (fun n => f n a) r) : Ev (fun n => o.bind (f n)) r := by
  subst h; exact H
theorem bq {α : Type} {a r : α} (h : a = r) : Ev (fun _ => some a) r := by subst h; exact Ev.now a
theorem ev_one {α : Type} {g : Nat -> Option α} {r r' : α} (h : Ev g r) (h' : Ev g r') : r = r' := by
  obtain ⟨K, h⟩ := h; obtain ⟨K', h'⟩ := h'
  have := (h (max K K') (by omega)).symm.trans (h' (max K K') (by omega))
  exact Option.some.inj this
theorem ev_to {α : Type} {g : Nat -> Option α} {r r' : α} (e : r = r') (h : Ev g r) : Ev g r' := e ▸ h
theorem w64 {x : Int} (h0 : -9223372036854775808 <= x) (h1 : x < 9223372036854775808) : wrap64 x = x := by unfold wrap64; omega
theorem w64n {k : Nat} (h : k < 9223372036854775807) : wrap64 ((k : Int) + 1) = ((k + 1 : Nat) : Int) := by unfold wrap64; omega
theorem bt_bs (l : Bytes) (k : Nat) (h : k < l.length) : bt (bs l) (k : Int) = (l[k].toNat : Int) := by
  have hs : (bs l).size = l.length := ee l
  unfold bt
  rw [dif_pos (by simp only [Int.toNat_natCast]; omega)]
  simp only [Int.toNat_natCast]
  rw [bs_getElem]
theorem bt_zero (l : Bytes) (h : 0 < l.length) : bt (bs l) 0 = (l[0].toNat : Int) := bt_bs l 0 h
theorem drop_cons (l : Bytes) (k : Nat) (h : k < l.length) : l.drop k = l[k] :: l.drop (k + 1) := List.drop_eq_getElem_cons h
theorem rdOf_nat {α : Type} (d : α) (l : List α) (k : Nat) (h : k < l.length) : gb d l (k : Int) = l[k] := by
  unfold gb; simp [List.getElem?_eq_getElem h]
end Go.Proofs.YtifkmkiljpeaaadGreat
end
section
end
section
set_option linter.unusedVariables false
namespace Go.Proofs.YtifkmkiljpeaaadGreat.Mac
open Go.RowKit Go.Proofs.YtifkmkiljpeaaadGreatW.PrintWords Go.Proofs.YtifkmkiljpeaaadGreatW.PrintLast
section
variable {P : Program} {ops : Array Oper} {Q : Exit -> Act -> World -> Prop} {md : Region.Mode} {S : World -> Prop} {ds : List Nat}
theorem pA {oi : Oper} {v : Value} {fuel : Nat} {l l' : Array Bool} {a a' : Act} {w : World} (i n : Nat)
    (h : cu P md ops Q S ds fuel l' a' w)
    (hl : l.setIfInBounds i true = l' := by simp only [List.setIfInBounds_toArray, List.set_cons_zero, List.set_cons_succ] <;> rfl)
    (hi : ops[i]? = some oi := by exact rfl) (hN : oi.dst = some n := by exact rfl)
    (hc : anyB md ops l l' i = true := by first | exact any_of HT_.out (by kernel_rfl) | kernel_rfl)
    (hy : Yields P ops oi v a := by (refine Or.inl ⟨by rfl, ?_⟩); intro w'; go_simp; with_reducible rfl)
    (ha : a.put (some n) v = a' := by simp only [Act.put, List.setIfInBounds_toArray, List.set_cons_zero, List.set_cons_succ, i64_w, i32_w] <;> rfl)
    (hQ : ∀ c a w, Q (.panic c) (a.put oi.dst v) w -> Q (.panic c) a w := by exact fun _ _ _ h => h) : cu P md ops Q S ds (fuel + 1) l a w := pure_ l' hi hN hc hQ hy ha h
theorem pU {oi : Oper} {fuel : Nat} {l l' : Array Bool} {a a' : Act} {w : World} (i n : Nat)
    (h : cu P md ops Q S ds fuel l' a' w)
    (hl : l.setIfInBounds i true = l' := by simp only [List.setIfInBounds_toArray, List.set_cons_zero, List.set_cons_succ] <;> rfl)
    (hi : ops[i]? = some oi := by exact rfl) (hN : oi.dst = some n := by exact rfl)
    (hc : anyB md ops l l' i = true := by first | exact any_of HT_.out (by kernel_rfl) | kernel_rfl)
    (hy : Yields P ops oi undef a := by exact Or.inr ⟨by rfl, rfl⟩)
    (ha : a.put (some n) undef = a' := by simp only [Act.put, List.setIfInBounds_toArray, List.set_cons_zero, List.set_cons_succ, i64_w, i32_w] <;> rfl)
    (hQ : ∀ c a w, Q (.panic c) (a.put oi.dst undef) w -> Q (.panic c) a w := by exact fun _ _ _ h => h) : cu P md ops Q S ds (fuel + 1) l a w := pure_ l' hi hN hc hQ hy ha h
theorem tA {oi : Oper} {v : Value} {fuel : Nat} {l l' : Array Bool} {a a' : Act} {w : World} (i n : Nat)
    (h : cu P md ops Q S ds fuel l' a' w)
    (hl : l.setIfInBounds i true = l' := by simp only [List.setIfInBounds_toArray, List.set_cons_zero, List.set_cons_succ] <;> rfl)
    (hi : ops[i]? = some oi := by exact rfl) (hN : oi.dst = some n := by exact rfl)
    (hc : takeB md ops ds l l' i = true := by first | exact take_ofW HT_.out HW_.out (by kernel_rfl) | kernel_rfl)
    (hy : YieldsIf P ops S oi v a := by (refine Or.inl ⟨by rfl, ?_⟩); intro w' hS_; (repeat (have s_ := hS_.1; replace hS_ := hS_.2)); go_simp; with_reducible rfl)
    (hS : S w := by exact hHeld)
    (ha : a.put (some n) v = a' := by simp only [Act.put, List.setIfInBounds_toArray, List.set_cons_zero, List.set_cons_succ, i64_w, i32_w] <;> rfl)
    (hQ : ∀ c a w, Q (.panic c) (a.put oi.dst v) w -> Q (.panic c) a w := by exact fun _ _ _ h => h) : cu P md ops Q S ds (fuel + 1) l a w := take_ l' hi hN hc hQ hy hS ha h
theorem oA {oi : Oper} {fuel : Nat} {l l' : Array Bool} {a : Act} {w : World} (i n : Nat)
    (h : ∀ K : Act -> World -> Prop, Shut (∀ a' w', S w' -> (S w' -> cu P md ops Q S ds fuel l' a' w') -> K a' w') -> if Region.wanted oi (yielded ops a.tmps) = true then Oper.wp P oi a w K Q else K (a.put (some n) undef) w)
    (hl : l.setIfInBounds i true = l' := by simp only [List.setIfInBounds_toArray, List.set_cons_zero, List.set_cons_succ] <;> rfl)
    (hi : ops[i]? = some oi := by exact rfl) (hN : oi.dst = some n := by exact rfl)
    (hc : readyB md ops l l' i = true := by first | exact one_of HT_.out (by kernel_rfl) | kernel_rfl)
    (hd : i ∉ ds := by decide) : cu P md ops Q S ds (fuel + 1) l a w := one_ l' hi hN hc hd h
theorem nB {fuel : Nat} {l : Array Bool} {a a' : Act} {w : World} (n : Nat) (h : cu P md ops Q S ds fuel l a' w)
    (ha : a = a' := by show Act.put _ (some _) _ = _; simp only [Act.put, List.setIfInBounds_toArray, List.set_cons_zero, List.set_cons_succ, i64_w, i32_w] <;> rfl) : cu P md ops Q S ds fuel l a w := norm_ ha h
end
abbrev qc2 (g : Nat) (x0 x1 : Value) (w : World) : Prop := w.cell? ⟨g, 0, none⟩ = some x0 /\ w.cell? ⟨g, 1, none⟩ = some x1
abbrev qa2 (p : Addr) (x0 x1 : Value) (w : World) : Prop := w.cell? p = some x0 /\ w.cell? ⟨p.block, p.off + 1, none⟩ = some x1
abbrev Qa2 (p : Addr) (x0 x1 : Value) (R : Prop) (w : World) : Prop := w.cell? p = some x0 /\ w.cell? ⟨p.block, p.off + 1, none⟩ = some x1 /\ R
abbrev qc3 (g : Nat) (x0 x1 x2 : Value) (w : World) : Prop := w.cell? ⟨g, 0, none⟩ = some x0 /\ w.cell? ⟨g, 1, none⟩ = some x1 /\ w.cell? ⟨g, 2, none⟩ = some x2
abbrev Qc3 (g : Nat) (x0 x1 x2 : Value) (R : Prop) (w : World) : Prop := w.cell? ⟨g, 0, none⟩ = some x0 /\ w.cell? ⟨g, 1, none⟩ = some x1 /\ w.cell? ⟨g, 2, none⟩ = some x2 /\ R
abbrev qa3 (p : Addr) (x0 x1 x2 : Value) (w : World) : Prop := w.cell? p = some x0 /\ w.cell? ⟨p.block, p.off + 1, none⟩ = some x1 /\ w.cell? ⟨p.block, p.off + 2, none⟩ = some x2
abbrev Qa3 (p : Addr) (x0 x1 x2 : Value) (R : Prop) (w : World) : Prop := w.cell? p = some x0 /\ w.cell? ⟨p.block, p.off + 1, none⟩ = some x1 /\ w.cell? ⟨p.block, p.off + 2, none⟩ = some x2 /\ R
abbrev qc5 (g : Nat) (x0 x1 x2 x3 x4 : Value) (w : World) : Prop := w.cell? ⟨g, 0, none⟩ = some x0 /\ w.cell? ⟨g, 1, none⟩ = some x1 /\ w.cell? ⟨g, 2, none⟩ = some x2 /\ w.cell? ⟨g, 3, none⟩ = some x3 /\ w.cell? ⟨g, 4, none⟩ = some x4
abbrev Qc5 (g : Nat) (x0 x1 x2 x3 x4 : Value) (R : Prop) (w : World) : Prop := w.cell? ⟨g, 0, none⟩ = some x0 /\ w.cell? ⟨g, 1, none⟩ = some x1 /\ w.cell? ⟨g, 2, none⟩ = some x2 /\ w.cell? ⟨g, 3, none⟩ = some x3 /\ w.cell? ⟨g, 4, none⟩ = some x4 /\ R
abbrev qa5 (p : Addr) (x0 x1 x2 x3 x4 : Value) (w : World) : Prop := w.cell? p = some x0 /\ w.cell? ⟨p.block, p.off + 1, none⟩ = some x1 /\ w.cell? ⟨p.block, p.off + 2, none⟩ = some x2 /\ w.cell? ⟨p.block, p.off + 3, none⟩ = some x3 /\ w.cell? ⟨p.block, p.off + 4, none⟩ = some x4
abbrev Qa5 (p : Addr) (x0 x1 x2 x3 x4 : Value) (R : Prop) (w : World) : Prop := w.cell? p = some x0 /\ w.cell? ⟨p.block, p.off + 1, none⟩ = some x1 /\ w.cell? ⟨p.block, p.off + 2, none⟩ = some x2 /\ w.cell? ⟨p.block, p.off + 3, none⟩ = some x3 /\ w.cell? ⟨p.block, p.off + 4, none⟩ = some x4 /\ R
abbrev qc6 (g : Nat) (x0 x1 x2 x3 x4 x5 : Value) (w : World) : Prop := w.cell? ⟨g, 0, none⟩ = some x0 /\ w.cell? ⟨g, 1, none⟩ = some x1 /\ w.cell? ⟨g, 2, none⟩ = some x2 /\ w.cell? ⟨g, 3, none⟩ = some x3 /\ w.cell? ⟨g, 4, none⟩ = some x4 /\ w.cell? ⟨g, 5, none⟩ = some x5
abbrev Qc6 (g : Nat) (x0 x1 x2 x3 x4 x5 : Value) (R : Prop) (w : World) : Prop := w.cell? ⟨g, 0, none⟩ = some x0 /\ w.cell? ⟨g, 1, none⟩ = some x1 /\ w.cell? ⟨g, 2, none⟩ = some x2 /\ w.cell? ⟨g, 3, none⟩ = some x3 /\ w.cell? ⟨g, 4, none⟩ = some x4 /\ w.cell? ⟨g, 5, none⟩ = some x5 /\ R
theorem cz {α β : Type} {o : Option α} {f : α -> Option β} {r : β} (h : o.bind f = some r) : ∃ t, ap (o = some t) /\ f t = some r := by
  obtain ⟨t, h1, h2⟩ := Option.bind_eq_some_iff.mp h
  exact ⟨t, ⟨h1⟩, h2⟩
theorem ifT {α : Type} {i : Decidable (true = true)} {t e r : α} (h : (@ite α (true = true) i t e) = r) : t = r := (if_pos rfl).symm.trans h
theorem ifF {α : Type} {i : Decidable (false = true)} {t e r : α} (h : (@ite α (false = true) i t e) = r) : e = r := (if_neg Bool.false_ne_true).symm.trans h
theorem ifS {α : Type} {c : Prop} {i : Decidable c} {t : Option α} {r : α} (h : (@ite (Option α) c i t none) = some r) : c /\ t = some r := by
  by_cases hc : c
  · rw [if_pos hc] at h; exact ⟨hc, h⟩
  rw [if_neg hc] at h; cases h
theorem tC {Q : Prop} (q : Q := by repeat (first | exact h_ | (with_reducible refine Kd.C_alloc ?_ _) | (with_reducible refine Kd.C_drewN ?_ _) | (with_reducible refine Kd.C_drew ?_))) : Q := q
section
variable {w W : World} {g : Nat} {t : TypeId} {R : Prop}
theorem kB {W0 W1 W2 : World} {o : Obj} (_b : ap (W0.heap[g]? = some o)) (h : W1.heap[g]? = some o) (hb : Below W1.heap.size W1 W2) : W2.heap[g]? = some o := ai h hb
theorem nL {W0 W1 : World} {o : Obj} {g2 : Nat} (_b : ap (W0.heap[g]? = some o)) (hg : g2 = W1.heap.size) (h : W1.heap[g]? = some o) : g ≠ g2 := by rw [hg]; exact Nat.ne_of_lt (en h)
theorem nG {W0 W1 : World} {o : Obj} {g2 : Nat} (_b : ap (W0.heap[g]? = some o)) (hg : g2 = W1.heap.size) (h : W1.heap[g]? = some o) : g2 ≠ g := by rw [hg]; exact Nat.ne_of_gt (en h)
theorem cB {p : Addr} {v : Value} (hb : Below w.heap.size w W) (h : w.cell? p = some v) : W.cell? p = some v := (hb.cell (World.block_lt_of_cell? w _ h)).trans h
theorem szE (w : World) {W : World} {g : Nat} (hg : g = W.heap.size) (h : Below w.heap.size w W) : w.heap.size <= g := by rw [hg]; exact ct h
theorem oI {α : Type} {a b : α} (h : some a = some b) : a = b := Option.some.inj h
theorem aM {P : Prop} (h : P) : ap P := ⟨h⟩
theorem bD2 {x1 x2 : Value} {Q : Prop} (h : ap (w.heap[g]? = some (.cells #[x1, x2] t (0, 0)))) (k : w.cell? ⟨g, 0, none⟩ = some x1 -> w.cell? ⟨g, 1, none⟩ = some x2 -> w.frozen? ⟨g, 0, none⟩ = false -> w.frozen? ⟨g, 1, none⟩ = false -> Q) : Q := k ((al h.out 0).trans rfl) ((al h.out 1).trans rfl) (am h.out 0) (am h.out 1)
theorem bD3 {x1 x2 x3 : Value} {Q : Prop} (h : ap (w.heap[g]? = some (.cells #[x1, x2, x3] t (0, 0)))) (k : w.cell? ⟨g, 0, none⟩ = some x1 -> w.cell? ⟨g, 1, none⟩ = some x2 -> w.cell? ⟨g, 2, none⟩ = some x3 -> w.frozen? ⟨g, 0, none⟩ = false -> w.frozen? ⟨g, 1, none⟩ = false -> w.frozen? ⟨g, 2, none⟩ = false -> Q) : Q := k ((al h.out 0).trans rfl) ((al h.out 1).trans rfl) ((al h.out 2).trans rfl) (am h.out 0) (am h.out 1) (am h.out 2)
theorem bD4 {x1 x2 x3 x4 : Value} {Q : Prop} (h : ap (w.heap[g]? = some (.cells #[x1, x2, x3, x4] t (0, 0)))) (k : w.cell? ⟨g, 0, none⟩ = some x1 -> w.cell? ⟨g, 1, none⟩ = some x2 -> w.cell? ⟨g, 2, none⟩ = some x3 -> w.cell? ⟨g, 3, none⟩ = some x4 -> w.frozen? ⟨g, 0, none⟩ = false -> w.frozen? ⟨g, 1, none⟩ = false -> w.frozen? ⟨g, 2, none⟩ = false -> w.frozen? ⟨g, 3, none⟩ = false -> Q) : Q := k ((al h.out 0).trans rfl) ((al h.out 1).trans rfl) ((al h.out 2).trans rfl) ((al h.out 3).trans rfl) (am h.out 0) (am h.out 1) (am h.out 2) (am h.out 3)
theorem bD5 {x1 x2 x3 x4 x5 : Value} {Q : Prop} (h : ap (w.heap[g]? = some (.cells #[x1, x2, x3, x4, x5] t (0, 0)))) (k : w.cell? ⟨g, 0, none⟩ = some x1 -> w.cell? ⟨g, 1, none⟩ = some x2 -> w.cell? ⟨g, 2, none⟩ = some x3 -> w.cell? ⟨g, 3, none⟩ = some x4 -> w.cell? ⟨g, 4, none⟩ = some x5 -> w.frozen? ⟨g, 0, none⟩ = false -> w.frozen? ⟨g, 1, none⟩ = false -> w.frozen? ⟨g, 2, none⟩ = false -> w.frozen? ⟨g, 3, none⟩ = false -> w.frozen? ⟨g, 4, none⟩ = false -> Q) : Q := k ((al h.out 0).trans rfl) ((al h.out 1).trans rfl) ((al h.out 2).trans rfl) ((al h.out 3).trans rfl) ((al h.out 4).trans rfl) (am h.out 0) (am h.out 1) (am h.out 2) (am h.out 3) (am h.out 4)
theorem bD6 {x1 x2 x3 x4 x5 x6 : Value} {Q : Prop} (h : ap (w.heap[g]? = some (.cells #[x1, x2, x3, x4, x5, x6] t (0, 0)))) (k : w.cell? ⟨g, 0, none⟩ = some x1 -> w.cell? ⟨g, 1, none⟩ = some x2 -> w.cell? ⟨g, 2, none⟩ = some x3 -> w.cell? ⟨g, 3, none⟩ = some x4 -> w.cell? ⟨g, 4, none⟩ = some x5 -> w.cell? ⟨g, 5, none⟩ = some x6 -> w.frozen? ⟨g, 0, none⟩ = false -> w.frozen? ⟨g, 1, none⟩ = false -> w.frozen? ⟨g, 2, none⟩ = false -> w.frozen? ⟨g, 3, none⟩ = false -> w.frozen? ⟨g, 4, none⟩ = false -> w.frozen? ⟨g, 5, none⟩ = false -> Q) : Q := k ((al h.out 0).trans rfl) ((al h.out 1).trans rfl) ((al h.out 2).trans rfl) ((al h.out 3).trans rfl) ((al h.out 4).trans rfl) ((al h.out 5).trans rfl) (am h.out 0) (am h.out 1) (am h.out 2) (am h.out 3) (am h.out 4) (am h.out 5)
def Bz (w : World) (g : Nat) (t : TypeId) (f : Array Value -> Array Value) (cs' : Array Value) : Prop := ∃ cs, w.heap[g]? = some (.cells cs t (0, 0)) /\ f cs = cs'
section
variable {f : Array Value -> Array Value} {cs' : Array Value}
theorem zs0 (h : Bz w g t (fun c => c) cs') : w.heap[g]? = some (.cells cs' t (0, 0)) := by obtain ⟨cs, h, e⟩ := h; exact e ▸ h
theorem zs1 (h : Bz w g t f cs') : Bz w.drew g t f cs' := by obtain ⟨cs, h, e⟩ := h; exact ⟨cs, ag h, e⟩
theorem zs2 (h : Bz w g t f cs') (n : Nat) : Bz (w.drewN n) g t f cs' := by obtain ⟨cs, h, e⟩ := h; exact ⟨cs, aj h n, e⟩
theorem zs3 (h : Bz w g t f cs') (o : Obj) : Bz (w.alloc o) g t f cs' := by obtain ⟨cs, h, e⟩ := h; exact ⟨cs, ah h o, e⟩
theorem zs4 {i : Nat} {u : Value} (h : Bz w g t (fun c => f (c.setIfInBounds i u)) cs') : Bz (w.setCell ⟨g, i, none⟩ u) g t f cs' := by obtain ⟨cs, h, e⟩ := h; exact ⟨_, blk_set h i u, e⟩
theorem zs5 {p : Addr} {u : Value} (h : Bz w g t f cs') (n : g ≠ p.block) : Bz (w.setCell p u) g t f cs' := by obtain ⟨cs, h, e⟩ := h; exact ⟨cs, blk_far h n u, e⟩
end
theorem zB {Q : Prop} (h : Q := by refine zs0 ?_; (repeat (first | (with_reducible refine zs2 ?_ _) | (with_reducible refine zs1 ?_) | (with_reducible refine zs3 ?_ _) | (with_reducible refine zs4 ?_) | (refine zs5 ?_ (ap.out (by first | (with_reducible assumption) | assumption))))); refine ⟨_, ap.out (by first | (with_reducible assumption) | assumption), ?_⟩; exact rfl) : Q := h
theorem cF {p a : Addr} {u x : Value} (h : ap (a.block ≠ p.block)) (hc : W.cell? a = some x) : (W.setCell p u).cell? a = some x := (cell_far h.out u).trans hc
theorem cE {a : Addr} {x : Value} (g i : Nat) (h : a.block ≠ g) (u : Value) (hc : W.cell? a = some x) : (W.setCell ⟨g, i, none⟩ u).cell? a = some x := (cell_far (p := ⟨g, i, none⟩) h u).trans hc
theorem bc2 {x1 x2 : Value} (h : w.heap[g]? = some (.cells #[x1, x2] t (0, 0))) : w.cell? ⟨g, 0, none⟩ = some x1 /\ w.cell? ⟨g, 1, none⟩ = some x2 := ⟨(al h 0).trans rfl, (al h 1).trans rfl⟩
theorem bc3 {x1 x2 x3 : Value} (h : w.heap[g]? = some (.cells #[x1, x2, x3] t (0, 0))) : w.cell? ⟨g, 0, none⟩ = some x1 /\ w.cell? ⟨g, 1, none⟩ = some x2 /\ w.cell? ⟨g, 2, none⟩ = some x3 := ⟨(al h 0).trans rfl, (al h 1).trans rfl, (al h 2).trans rfl⟩
theorem bk3 {x1 x2 x3 : Value} (h : w.heap[g]? = some (.cells #[x1, x2, x3] t (0, 0))) (r : R) : w.cell? ⟨g, 0, none⟩ = some x1 /\ w.cell? ⟨g, 1, none⟩ = some x2 /\ w.cell? ⟨g, 2, none⟩ = some x3 /\ R := ⟨(al h 0).trans rfl, (al h 1).trans rfl, (al h 2).trans rfl, r⟩
theorem bc5 {x1 x2 x3 x4 x5 : Value} (h : w.heap[g]? = some (.cells #[x1, x2, x3, x4, x5] t (0, 0))) : w.cell? ⟨g, 0, none⟩ = some x1 /\ w.cell? ⟨g, 1, none⟩ = some x2 /\ w.cell? ⟨g, 2, none⟩ = some x3 /\ w.cell? ⟨g, 3, none⟩ = some x4 /\ w.cell? ⟨g, 4, none⟩ = some x5 := ⟨(al h 0).trans rfl, (al h 1).trans rfl, (al h 2).trans rfl, (al h 3).trans rfl, (al h 4).trans rfl⟩
theorem bf5 {x1 x2 x3 x4 x5 : Value} (h : w.heap[g]? = some (.cells #[x1, x2, x3, x4, x5] t (0, 0))) : w.frozen? ⟨g, 0, none⟩ = false /\ w.frozen? ⟨g, 1, none⟩ = false /\ w.frozen? ⟨g, 2, none⟩ = false /\ w.frozen? ⟨g, 3, none⟩ = false /\ w.frozen? ⟨g, 4, none⟩ = false := ⟨am h 0, am h 1, am h 2, am h 3, am h 4⟩
theorem bk5 {x1 x2 x3 x4 x5 : Value} (h : w.heap[g]? = some (.cells #[x1, x2, x3, x4, x5] t (0, 0))) (r : R) : w.cell? ⟨g, 0, none⟩ = some x1 /\ w.cell? ⟨g, 1, none⟩ = some x2 /\ w.cell? ⟨g, 2, none⟩ = some x3 /\ w.cell? ⟨g, 3, none⟩ = some x4 /\ w.cell? ⟨g, 4, none⟩ = some x5 /\ R := ⟨(al h 0).trans rfl, (al h 1).trans rfl, (al h 2).trans rfl, (al h 3).trans rfl, (al h 4).trans rfl, r⟩
theorem bc6 {x1 x2 x3 x4 x5 x6 : Value} (h : w.heap[g]? = some (.cells #[x1, x2, x3, x4, x5, x6] t (0, 0))) : w.cell? ⟨g, 0, none⟩ = some x1 /\ w.cell? ⟨g, 1, none⟩ = some x2 /\ w.cell? ⟨g, 2, none⟩ = some x3 /\ w.cell? ⟨g, 3, none⟩ = some x4 /\ w.cell? ⟨g, 4, none⟩ = some x5 /\ w.cell? ⟨g, 5, none⟩ = some x6 := ⟨(al h 0).trans rfl, (al h 1).trans rfl, (al h 2).trans rfl, (al h 3).trans rfl, (al h 4).trans rfl, (al h 5).trans rfl⟩
theorem bk6 {x1 x2 x3 x4 x5 x6 : Value} (h : w.heap[g]? = some (.cells #[x1, x2, x3, x4, x5, x6] t (0, 0))) (r : R) : w.cell? ⟨g, 0, none⟩ = some x1 /\ w.cell? ⟨g, 1, none⟩ = some x2 /\ w.cell? ⟨g, 2, none⟩ = some x3 /\ w.cell? ⟨g, 3, none⟩ = some x4 /\ w.cell? ⟨g, 4, none⟩ = some x5 /\ w.cell? ⟨g, 5, none⟩ = some x6 /\ R := ⟨(al h 0).trans rfl, (al h 1).trans rfl, (al h 2).trans rfl, (al h 3).trans rfl, (al h 4).trans rfl, (al h 5).trans rfl, r⟩
end
section
variable {P : Program} {ops : Array Oper} {rest : List Oper} {o : Oper} {a : Act} {Q : Exit -> Act -> World -> Prop}
theorem bxE {W : World} (N : Tmp) (cs : Array Value) (t : TypeId)
    (h : ∀ g, g = W.heap.size -> ∀ w1, w1.heap[g]? = some (.cells cs t (0, 0)) -> Below W.heap.size W w1 -> wpList P ops Q rest (a.put o.dst (.pointer (some ⟨g, 0, none⟩))) w1)
    (hd : o.dst = some N := by rfl) (hgd : o.guard = none := by rfl)
    (hrun : (execOp a.eval o).run P W = .ok (.value (.pointer (some ⟨W.heap.size, 0, none⟩))) (W.alloc (.cells cs t (0, 0))) := by first | (go_simp; done) | (go_simp; rfl)) : wpList P ops Q (o :: rest) a W := box_event hgd hd hrun h
theorem bxF {W : World} (w0 : World) (N : Tmp) (cs : Array Value) (t : TypeId) (hB : Below w0.heap.size w0 W)
    (h : ∀ g, g = W.heap.size -> ∀ w1, ap (w1.heap[g]? = some (.cells cs t (0, 0))) -> ap (w0.heap.size <= g) -> ap (w0.heap.size <= g) -> ap (Below w0.heap.size w0 w1) -> Below W.heap.size W w1 -> wpList P ops Q rest (a.put o.dst (.pointer (some ⟨g, 0, none⟩))) w1)
    (hd : o.dst = some N := by rfl) (hgd : o.guard = none := by rfl)
    (hrun : (execOp a.eval o).run P W = .ok (.value (.pointer (some ⟨W.heap.size, 0, none⟩))) (W.alloc (.cells cs t (0, 0))) := by first | (go_simp; done) | (go_simp; rfl)) : wpList P ops Q (o :: rest) a W :=
  box_event hgd hd hrun (fun g hg w1 hb hl => h g hg w1 ⟨hb⟩ ⟨szE w0 hg hB⟩ ⟨szE w0 hg hB⟩ ⟨ae hB hl⟩ hl)
theorem gL {oi : Oper} (n : Tmp) {f : FuncId} {fn : Func} {ao : Array Operand} {ts : Array TypeId} (hf : P.funcs[f]? = some fn) (args : Array Value) {w : World}
    (h : Calls P f args w fun e w' => ∃ v, e = .returned v /\ wpList P ops Q rest (a.put (some n) v) w') (hd : oi.dst = some n := by rfl) (hg : oi.guard = none := by rfl)
    (hname : (fn.name == "runtime.NumGoroutine") = false := by kernel_rfl) (hb : fn.body.isSome = true := by rfl)
    (hop : oi.op = .call { callee := .value (.func f), args := ao, argTypes := ts } := by rfl) (hargs : ao.map a.eval = args := by (try simp only [List.map_toArray, List.map_cons, List.map_nil]); first | done | rfl | (simp only [List.length_drop, List.length_take]; rfl)) : wpList P ops Q (oi :: rest) a w := goesL_ (some n) hd hg hf hname hb args hop hargs h
theorem gC (f : FuncId) {ao : Array Operand} {ts : Array TypeId} {W : World} (h : wpList P ops Q (o :: rest) a W) (_ho : o.op = .call { callee := .value (.func f), args := ao, argTypes := ts } := by rfl) : wpList P ops Q (o :: rest) a W := h
theorem gD (N : Tmp) {W : World} (h : wpList P ops Q (o :: rest) a W) (_hN : o.dst = some N := by rfl) : wpList P ops Q (o :: rest) a W := h
theorem rF {α : Type} {K : Kd α} {t : TypeId} {w : World} {base : Nat} {A : Nat -> Prop} {g : Nat} {v u : Value} {xs : List α} (i : Nat) (h : Kd.R K t w base (fun k => A k /\ k ≠ g) v xs) : Kd.R K t (w.setCell ⟨g, i, none⟩ u) base (fun k => A k /\ k ≠ g) v xs := Kd.R_far (p := ⟨g, i, none⟩) h (fun _ hk => hk.2) u
theorem sF {α : Type} {K : Kd α} {t : TypeId} {w : World} {base : Nat} {A : Nat -> Prop} {g : Nat} {v u : Value} {xs : List α} (i : Nat) (h : Kd.S K t w base (fun k => A k /\ k ≠ g) v xs) : Kd.S K t (w.setCell ⟨g, i, none⟩ u) base (fun k => A k /\ k ≠ g) v xs := Kd.S_far (p := ⟨g, i, none⟩) h (fun _ hk => hk.2) u
end
/-- The first cells of a block. -/
theorem cl1 {w : World} {g : Nat} {x0 : Value} {l : List Value} {t : TypeId} (h : w.heap[g]? = some (.cells (List.toArray (x0 :: l)) t (0, 0))) : w.cell? ⟨g, 0, none⟩ = some x0 := (al h 0).trans rfl
theorem cl2 {w : World} {g : Nat} {x0 x1 : Value} {l : List Value} {t : TypeId} (h : w.heap[g]? = some (.cells (List.toArray (x0 :: x1 :: l)) t (0, 0))) : w.cell? ⟨g, 0, none⟩ = some x0 /\ w.cell? ⟨g, 1, none⟩ = some x1 := ⟨(al h 0).trans rfl, (al h 1).trans rfl⟩
theorem cl3 {w : World} {g : Nat} {x0 x1 x2 : Value} {l : List Value} {t : TypeId} (h : w.heap[g]? = some (.cells (List.toArray (x0 :: x1 :: x2 :: l)) t (0, 0))) : w.cell? ⟨g, 0, none⟩ = some x0 /\ w.cell? ⟨g, 1, none⟩ = some x1 /\ w.cell? ⟨g, 2, none⟩ = some x2 := ⟨(al h 0).trans rfl, (al h 1).trans rfl, (al h 2).trans rfl⟩
theorem cl4 {w : World} {g : Nat} {x0 x1 x2 x3 : Value} {l : List Value} {t : TypeId} (h : w.heap[g]? = some (.cells (List.toArray (x0 :: x1 :: x2 :: x3 :: l)) t (0, 0))) : w.cell? ⟨g, 0, none⟩ = some x0 /\ w.cell? ⟨g, 1, none⟩ = some x1 /\ w.cell? ⟨g, 2, none⟩ = some x2 /\ w.cell? ⟨g, 3, none⟩ = some x3 := ⟨(al h 0).trans rfl, (al h 1).trans rfl, (al h 2).trans rfl, (al h 3).trans rfl⟩
theorem cl5 {w : World} {g : Nat} {x0 x1 x2 x3 x4 : Value} {l : List Value} {t : TypeId} (h : w.heap[g]? = some (.cells (List.toArray (x0 :: x1 :: x2 :: x3 :: x4 :: l)) t (0, 0))) : w.cell? ⟨g, 0, none⟩ = some x0 /\ w.cell? ⟨g, 1, none⟩ = some x1 /\ w.cell? ⟨g, 2, none⟩ = some x2 /\ w.cell? ⟨g, 3, none⟩ = some x3 /\ w.cell? ⟨g, 4, none⟩ = some x4 := ⟨(al h 0).trans rfl, (al h 1).trans rfl, (al h 2).trans rfl, (al h 3).trans rfl, (al h 4).trans rfl⟩
theorem cl6 {w : World} {g : Nat} {x0 x1 x2 x3 x4 x5 : Value} {l : List Value} {t : TypeId} (h : w.heap[g]? = some (.cells (List.toArray (x0 :: x1 :: x2 :: x3 :: x4 :: x5 :: l)) t (0, 0))) : w.cell? ⟨g, 0, none⟩ = some x0 /\ w.cell? ⟨g, 1, none⟩ = some x1 /\ w.cell? ⟨g, 2, none⟩ = some x2 /\ w.cell? ⟨g, 3, none⟩ = some x3 /\ w.cell? ⟨g, 4, none⟩ = some x4 /\ w.cell? ⟨g, 5, none⟩ = some x5 := ⟨(al h 0).trans rfl, (al h 1).trans rfl, (al h 2).trans rfl, (al h 3).trans rfl, (al h 4).trans rfl, (al h 5).trans rfl⟩
theorem cl7 {w : World} {g : Nat} {x0 x1 x2 x3 x4 x5 x6 : Value} {l : List Value} {t : TypeId} (h : w.heap[g]? = some (.cells (List.toArray (x0 :: x1 :: x2 :: x3 :: x4 :: x5 :: x6 :: l)) t (0, 0))) : w.cell? ⟨g, 0, none⟩ = some x0 /\ w.cell? ⟨g, 1, none⟩ = some x1 /\ w.cell? ⟨g, 2, none⟩ = some x2 /\ w.cell? ⟨g, 3, none⟩ = some x3 /\ w.cell? ⟨g, 4, none⟩ = some x4 /\ w.cell? ⟨g, 5, none⟩ = some x5 /\ w.cell? ⟨g, 6, none⟩ = some x6 := ⟨(al h 0).trans rfl, (al h 1).trans rfl, (al h 2).trans rfl, (al h 3).trans rfl, (al h 4).trans rfl, (al h 5).trans rfl, (al h 6).trans rfl⟩
theorem cl8 {w : World} {g : Nat} {x0 x1 x2 x3 x4 x5 x6 x7 : Value} {l : List Value} {t : TypeId} (h : w.heap[g]? = some (.cells (List.toArray (x0 :: x1 :: x2 :: x3 :: x4 :: x5 :: x6 :: x7 :: l)) t (0, 0))) : w.cell? ⟨g, 0, none⟩ = some x0 /\ w.cell? ⟨g, 1, none⟩ = some x1 /\ w.cell? ⟨g, 2, none⟩ = some x2 /\ w.cell? ⟨g, 3, none⟩ = some x3 /\ w.cell? ⟨g, 4, none⟩ = some x4 /\ w.cell? ⟨g, 5, none⟩ = some x5 /\ w.cell? ⟨g, 6, none⟩ = some x6 /\ w.cell? ⟨g, 7, none⟩ = some x7 := ⟨(al h 0).trans rfl, (al h 1).trans rfl, (al h 2).trans rfl, (al h 3).trans rfl, (al h 4).trans rfl, (al h 5).trans rfl, (al h 6).trans rfl, (al h 7).trans rfl⟩
theorem dT {p : Prop} [Decidable p] (h : decide p = true) : p := of_decide_eq_true h
/-- Short names. -/
theorem az {p : Prop} [Decidable p] (h : p) : decide p = true := decide_eq_true h
theorem ba {p : Prop} [Decidable p] (h : ¬p) : decide p = false := decide_eq_false h
theorem bb {α : Type} [BEq α] [LawfulBEq α] {a b : α} (h : a ≠ b) : (a == b) = false := beq_eq_false_iff_ne.mpr h
theorem bc {α : Type} [BEq α] [LawfulBEq α] {a b : α} (h : a = b) : (a != b) = false := bne_eq_false_iff_eq.mpr h
theorem be {b : Bool} (h : b ≠ true) : b = false := Bool.eq_false_iff.mpr h
theorem bf {α : Type} [BEq α] [LawfulBEq α] {a b : α} (h : a = b) : (a == b) = true := beq_iff_eq.mpr h
theorem bg {α : Type} [BEq α] [LawfulBEq α] {a b : α} (h : a ≠ b) : (a != b) = true := bne_iff_ne.mpr h
theorem bh {p : Prop} (h : p) : p = True := eq_true h
theorem bi (b : Nat) (w : World) : Below b w w := Below.refl b w
theorem bj (n : Nat) : n <= n := Nat.le_refl n
end Go.Proofs.YtifkmkiljpeaaadGreat.Mac
end
section
set_option linter.unusedVariables false
set_option linter.unusedSimpArgs false
namespace Go.Proofs.YtifkmkiljpeaaadGreat
open Go.RowKit
def isD (c : UInt8) : Bool := 48 <= c.toNat && c.toNat <= 57
theorem isD_iff {c : UInt8} : isD c = true ↔ 48 <= c.toNat /\ c.toNat <= 57 := by simp [isD]
end Go.Proofs.YtifkmkiljpeaaadGreat
end
