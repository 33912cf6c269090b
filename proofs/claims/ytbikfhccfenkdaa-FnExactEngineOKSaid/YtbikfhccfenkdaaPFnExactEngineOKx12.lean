/- Contracts of functions that a statement reaches (wip/x/xprint.py, short.py, compact.py). -/
import Derived.Test.YtbikfhccfenkdaaPFnExactEngineOKx0
import Derived.Test.YtbikfhccfenkdaaPFnExactEngineOKx3
import Derived.Test.YtbikfhccfenkdaaPFnExactEngineOKx10
import Derived.Test.YtbikfhccfenkdaaPFnExactEngineOKx11
namespace Go.Proofs.Ytbikfhccfenkdaa.PFnExactEngineOK
open Go.RowKit Go.Proofs.YtbikfhccfenkdaaW.PrintWords Go.Proofs.YtbikfhccfenkdaaW.PrintLast Go.Proofs.YtbikfhccfenkdaaW.PrintMore Go.Proofs.Ytbikfhccfenkdaa.Mac
attribute [local go_sem] max2_int min2_int max_two min_two max_three min_three max_four min_four
set_option linter.unusedVariables false
set_option linter.unusedSimpArgs false

-- EXTERNAL: function 41 (impl_mutate)
/-- What a call keeps, and the streams too. -/
structure KeptA (w W : World) (S : Nat → Prop) : Prop where
 size : w.heap.size ≤ W.heap.size
 block : ∀ i, i < w.heap.size → ¬ S i → W.heap[i]? = w.heap[i]?
 os : W.os = w.os
 tape : W.tape = w.tape
 output : W.output = w.output
section
variable {w W W2 : World} {S S2 S' : Nat → Prop}
theorem KeptA.refl (w : World) (S : Nat → Prop) : KeptA w w S := ⟨Nat.le_refl _, fun _ _ _ => rfl, rfl, rfl, rfl⟩
theorem KeptA.of_below (h : Below w.heap.size w W) (S : Nat → Prop) : KeptA w W S := ⟨h.size, fun i hi _ => h.block i hi, h.os, h.tape, h.output⟩
theorem KeptA.mono (h : KeptA w W S) (hs : ∀ k, S k → S' k) : KeptA w W S' := ⟨h.1, fun i hi hn => h.2 i hi (fun hk => hn (hs i hk)), h.os, h.tape, h.output⟩
theorem KeptA.then_ (h : KeptA w W S) (k : KeptA W W2 S2) (hs : ∀ k, S2 k → S k ∨ w.heap.size ≤ k) : KeptA w W2 S :=
 ⟨Nat.le_trans h.1 k.1, fun i hi hn => (k.2 i (Nat.lt_of_lt_of_le hi h.1) (fun h2 => (hs i h2).elim hn (fun h3 => by omega))).trans (h.2 i hi hn), k.os.trans h.os, k.tape.trans h.tape, k.output.trans h.output⟩
theorem KeptA.of_grown {row : Option Nat} (hg : W.grownBy W2 row) (h : KeptA w W S) (hr : ∀ k, row = some k → S k ∨ w.heap.size ≤ k) : KeptA w W2 S :=
 h.then_ (S2 := fun k => row = some k) ⟨hg.size, fun i hi hn => hg.block i hi (fun he => hn he.symm), hg.os, hg.tape, hg.output⟩ hr
theorem KeptA.below (h : KeptA w W S) (hb : Below W.heap.size W W2) : KeptA w W2 S := h.then_ (KeptA.of_below hb (fun _ => False)) (fun _ hk => hk.elim)
theorem KeptA.alloc (h : KeptA w W S) (o : Obj) : KeptA w (W.alloc o) S := h.below (below_alloc (Below.refl _ _) o)
theorem KeptA.drew (h : KeptA w W S) : KeptA w W.drew S := ⟨h.size, h.block, h.os, h.tape, h.output⟩
theorem KeptA.drewN (h : KeptA w W S) (m : Nat) : KeptA w (W.drewN m) S := ⟨h.size, h.block, h.os, h.tape, h.output⟩
theorem KeptA.setCell (h : KeptA w W S) {p : Addr} (hp : S p.block ∨ w.heap.size ≤ p.block) (u : Value) : KeptA w (W.setCell p u) S :=
 h.then_ (S2 := fun k => k = p.block) ⟨by simp [World.setCell], fun i _ hn => Below.heap_setCell W p u i hn, rfl, rfl, rfl⟩ (fun k hk => by rw [hk]; exact hp)
theorem KeptA.is_below {N : Nat} (h : KeptA w W S) (hN : N ≤ w.heap.size) (hS : ∀ k, S k → N ≤ k) : Below N w W :=
 ⟨h.os, h.tape, h.output, h.size, fun k hk => h.block k (Z43) (fun hs => by have := hS k hs; omega)⟩
end
def hasB (l : List ByteArray) (x : ByteArray) : Bool := l.any (fun y => decide (y = x))
theorem hasB_cons (a : ByteArray) (l : List ByteArray) (x : ByteArray) : hasB (a :: l) x = (decide (a = x) || hasB l x) := rfl
theorem toList_inj {a b : ByteArray} : a.toList = b.toList ↔ a = b := by
 constructor
 ·intro h; rw [ByteArray.toList_eq, ByteArray.toList_eq] at h; rw [← bs_of a, ← bs_of b, h]
 ·rintro rfl; rfl
theorem hasS_ev (l : List ByteArray) (x : ByteArray) (hl : l.length ≤ 1099511627776) : Ev (fun k => spec_l06Has.f k l x) (hasB l x) := by
 have loop : ∀ (m i : Nat), i + m = l.length → Ev (fun k => spec_l06Has.l0 k l x i) (hasB (l.drop i) x) := by
  intro m
  induction m with
  | zero => intro i hi; rw [List.drop_of_length_le (Z43)]; exact Ev.step (fun _ => spec_l06Has.l0.eq_2 ..) (ev_neg (Z43) (ev_some rfl))
  | succ m ih =>
   intro i hi
   have hlt : i < l.length := by omega
   refine Ev.step (fun _ => spec_l06Has.l0.eq_2 ..) (ev_pos (Z43) (ev_pos (Z43) ?_))
   rw [rdOf_nat _ l i hlt, List.drop_eq_getElem_cons hlt, w64n (Z43)]
   by_cases h : l[i] = x
   ·exact ev_pos (toList_inj.mpr h) (ev_some (by rw [hasB_cons, decide_eq_true h]; rfl))
   ·refine ev_neg (fun e => h (toList_inj.mp e)) (ev_to ?_ (ih (i + 1) (Z43)))
    rw [hasB_cons, decide_eq_false h, Bool.false_or]
 unfold spec_l06Has.f
 exact loop l.length 0 (Z43)
theorem hasI_ev (l : List ByteArray) (x : ByteArray) (hl : l.length ≤ 1099511627776) : Ev (fun k => slices_Contains_string_string.f k l x) (hasB l x) := by
 have loop : ∀ (m i : Nat), i + m = l.length → ∃ r : Int, Ev (fun k => slices_Index_string_string.l0 k l x (l.length : Int) i) r ∧ decide (r ≥ 0) = hasB (l.drop i) x := by
  intro m
  induction m with
  | zero => intro i hi; rw [List.drop_of_length_le (Z43)]; exact ⟨-1, Ev.step (fun _ => slices_Index_string_string.l0.eq_2 ..) (ev_neg (Z43) (ev_some rfl)), rfl⟩
  | succ m ih =>
   intro i hi
   have hlt : i < l.length := by omega
   rw [List.drop_eq_getElem_cons hlt]
   by_cases h : l[i] = x
   ·refine ⟨i, Ev.step (fun _ => slices_Index_string_string.l0.eq_2 ..) (ev_pos (Z43) (ev_pos (Z43) (ev_pos (Z43) ?_))), ?_⟩
    ·rw [rdOf_nat _ l i hlt]
     exact ev_pos (toList_inj.mpr h.symm) (ev_some rfl)
    ·rw [decide_eq_true (by omega : (i : Int) ≥ 0), hasB_cons, decide_eq_true h]; rfl
   ·obtain ⟨r, h1, h2⟩ := ih (i + 1) (Z43)
    refine ⟨r, Ev.step (fun _ => slices_Index_string_string.l0.eq_2 ..) (ev_pos (Z43) (ev_pos (Z43) (ev_pos (Z43) ?_))), ?_⟩
    ·rw [rdOf_nat _ l i hlt, w64n (Z43)]
     exact ev_neg (fun e => h (toList_inj.mp e).symm) h1
    ·rw [h2, hasB_cons, decide_eq_false h, Bool.false_or]
 obtain ⟨r, h1, h2⟩ := loop l.length 0 (Z43)
 unfold slices_Contains_string_string.f slices_Index_string_string.f
 exact Ev.bind h1 (ev_some (by rw [h2, List.drop_zero]))
/-! A row of boxes of one's own of which one is lent: its cells may be written, its rows grow. -/
def Lent (base : Nat) (ok : Nat → Prop) (w : World) (g n cap : Nat) (xs : List S59) (i : Nat) (b : S59) (vM vK : Value) : Prop :=
 i < n ∧ ∃ oki : Nat → Prop, (∀ k, w.heap.size ≤ k → oki k) ∧ ¬ oki g ∧ Kd.H k59 59 w base ok (.slice (some ⟨g, 0, none⟩) n cap) xs (i : Int) oki [.string b.f0, .int .i64 b.f1, .int .i64 b.f2, vM, vK] ∧
  Kd.R k71 71 w base oki vM b.f3 ∧ Kd.R Kd.string 9 w base oki vK b.f4
section
variable {base g n cap i : Nat} {ok : Nat → Prop} {w w1 : World} {xs : List S59} {b : S59} {vM vK : Value}
theorem Lent.of_S (h : Kd.S k59 59 w base ok (.slice (some ⟨g, 0, none⟩) n cap) xs) (hi : i < n) (hnew : ∀ k, w.heap.size ≤ k → ok k) : ∃ vM vK, Lent base ok w g n cap xs i (rd_T59 xs (i : Int)) vM vK := by
 obtain ⟨oki, c, hcl, hM, hcc, hoki, hH⟩ := Kd.S_lend h z59 (i : Int) (Z43) (Z43)
 obtain ⟨vM, vK, rfl, hM3, hM4⟩ := k59_openM hM
 have hlt : g < w.heap.size := Kd.S_lt h g (by simp [Value.ownBlock])
 refine ⟨vM, vK, hi, fun k => oki k ∨ ok k ∧ w.heap.size ≤ k, fun k hk => .inr ⟨hnew k hk, hk⟩, fun hk => hk.elim (fun h => (hoki g h).2 rfl) (fun h => by omega), Kd.H_widen hH, Kd.R_mono hM3 (fun _ h => .inl h), Kd.R_mono hM4 (fun _ h => .inl h)⟩
theorem Lent.back (h : Lent base ok w g n cap xs i b vM vK) : Kd.S k59 59 w base ok (.slice (some ⟨g, 0, none⟩) n cap) (xs.set i b) := by
 obtain ⟨hi, oki, h1, h2, hH, h3, h4⟩ := h
 have := Kd.H_back hH (x' := b) (k59_mkM _ _ _ b h3 h4) (fun _ h => h)
 simpa using this
theorem Lent.cells (h : Lent base ok w g n cap xs i b vM vK) : w.cell? ⟨g, i * 5, none⟩ = some (.string b.f0) ∧ w.cell? ⟨g, i * 5 + 1, none⟩ = some (.int .i64 b.f1) ∧ w.cell? ⟨g, i * 5 + 2, none⟩ = some (.int .i64 b.f2) ∧ w.cell? ⟨g, i * 5 + 3, none⟩ = some vM ∧ w.cell? ⟨g, i * 5 + 4, none⟩ = some vK := by
 obtain ⟨hi, oki, h1, h2, hH, h3, h4⟩ := h
 obtain ⟨rows, _, _, _, _, hcc, _⟩ := Kd.H_raw hH (Z43) (Z43)
 have hs : k59.sz = 5 := rfl
 rw [hs, Int.toNat_natCast] at hcc
 exact ⟨hcc 0 _ rfl, hcc 1 _ rfl, hcc 2 _ rfl, hcc 3 _ rfl, hcc 4 _ rfl⟩
theorem Lent.frozen (h : Lent base ok w g n cap xs i b vM vK) (o : Nat) : w.frozen? ⟨g, o, none⟩ = false := by
 obtain ⟨hi, oki, h1, h2, ⟨_, f, hR⟩, h3, h4⟩ := h
 obtain ⟨cells, hc⟩ := Kd.R_typed hR g (by simp [Value.ownBlock])
 exact blk_frozen hc o
theorem Lent.lt (h : Lent base ok w g n cap xs i b vM vK) : g < w.heap.size := by
 obtain ⟨hi, oki, h1, h2, ⟨_, f, hR⟩, h3, h4⟩ := h
 exact Kd.R_lt hR g (by simp [Value.ownBlock])
theorem Lent.mails (h : Lent base ok w g n cap xs i b vM vK) : ∃ A c, vM = .slice A b.f3.length c ∧ b.f3.length ≤ c ∧ Kd.C k71 w A b.f3.length b.f3 := by
 obtain ⟨hi, oki, h1, h2, hH, h3, h4⟩ := h
 exact Kd.R_reads h3
theorem Lent.keys (h : Lent base ok w g n cap xs i b vM vK) : ∃ A c, vK = .slice A b.f4.length c ∧ b.f4.length ≤ c ∧ Kd.C Kd.string w A b.f4.length b.f4 := by
 obtain ⟨hi, oki, h1, h2, hH, h3, h4⟩ := h
 exact Kd.R_reads h4
theorem Lent.below (h : Lent base ok w g n cap xs i b vM vK) (hb : Below w.heap.size w w1) : Lent base ok w1 g n cap xs i b vM vK := by
 obtain ⟨hi, oki, h1, h2, hH, h3, h4⟩ := h
 exact ⟨hi, oki, fun k hk => h1 k (Nat.le_trans hb.size hk), h2, Kd.H_below hH hb, Kd.R_below h3 hb, Kd.R_below h4 hb⟩
/-- Its number is set. -/
theorem Lent.setNext (h : Lent base ok w g n cap xs i b vM vK) (x : Int) : Lent base ok (w.setCell ⟨g, i * 5 + 2, none⟩ (.int .i64 x)) g n cap xs i ⟨b.f0, b.f1, x, b.f3, b.f4⟩ vM vK := by
 obtain ⟨hi, oki, h1, h2, hH, h3, h4⟩ := h
 obtain ⟨hH', hg⟩ := Kd.H_seg hH (Z43) (Z43) (seg := [.int .i64 x]) (j := 2) (show 3 ≤ 5 by decide) (by simp [Value.oneCell'])
 have hs : k59.sz = 5 := rfl
 rw [hs, Int.toNat_natCast] at hH' hg
 have hne : ∀ k, oki k → some k ≠ some g := fun k hk e => h2 (by injection e with e; rwa [e] at hk)
 exact ⟨hi, oki, fun k hk => h1 k (by simpa using hk), h2, hH', Kd.R_grown h3 hg hne, Kd.R_grown h4 hg hne⟩
end
section
variable {base g n cap i : Nat} {ok oki : Nat → Prop} {W w1 : World} {xs : List S59} {b : S59} {vM vK v1 : Value}
/-- Its mails have grown, and lie in its cell. -/
theorem lent_mails {ms : List S71} (hi : i < n) (h1 : ∀ k, W.heap.size ≤ k → oki k) (h2 : ¬ oki g) (hH : Kd.H k59 59 W base ok (.slice (some ⟨g, 0, none⟩) n cap) xs (i : Int) oki [.string b.f0, .int .i64 b.f1, .int .i64 b.f2, vM, vK])
  (h3 : Kd.R k71 71 W base oki vM b.f3) (h4 : Kd.R Kd.string 9 W base oki vK b.f4) (hg : W.grownBy w1 vM.ownBlock) (h3' : Kd.R k71 71 w1 base oki v1 ms) :
  Lent base ok (w1.setCell ⟨g, i * 5 + 3, none⟩ v1) g n cap xs i ⟨b.f0, b.f1, b.f2, ms, b.f4⟩ v1 vK := by
 have hH1 := Kd.H_grown hH hg (fun k hk => h3.1 k hk)
 have h41 := Kd.R_over h4 h3 (Z79) hg
 obtain ⟨hH', hg'⟩ := Kd.H_seg hH1 (Z43) (Z43) (seg := [v1]) (j := 3) (show 4 ≤ 5 by decide) (by simpa using (Kd.R_val h3').2)
 have hs : k59.sz = 5 := rfl
 rw [hs, Int.toNat_natCast] at hH' hg'
 have hne : ∀ k, oki k → some k ≠ some g := fun k hk e => h2 (by injection e with e; rwa [e] at hk)
 have hz := hg.size
 exact ⟨hi, oki, fun k hk => h1 k (by have h_ : (w1.setCell ⟨g, i * 5 + 3, none⟩ v1).heap.size = w1.heap.size := (Z124); omega), h2, hH', Kd.R_grown h3' hg' hne, Kd.R_grown h41 hg' hne⟩
/-- Its keys have grown, and lie in its cell. -/
theorem lent_keys {ks : List ByteArray} (hi : i < n) (h1 : ∀ k, W.heap.size ≤ k → oki k) (h2 : ¬ oki g) (hH : Kd.H k59 59 W base ok (.slice (some ⟨g, 0, none⟩) n cap) xs (i : Int) oki [.string b.f0, .int .i64 b.f1, .int .i64 b.f2, vM, vK])
  (h3 : Kd.R k71 71 W base oki vM b.f3) (h4 : Kd.R Kd.string 9 W base oki vK b.f4) (hg : W.grownBy w1 vK.ownBlock) (h4' : Kd.R Kd.string 9 w1 base oki v1 ks) :
  Lent base ok (w1.setCell ⟨g, i * 5 + 4, none⟩ v1) g n cap xs i ⟨b.f0, b.f1, b.f2, b.f3, ks⟩ vM v1 := by
 have hH1 := Kd.H_grown hH hg (fun k hk => h4.1 k hk)
 have h31 := Kd.R_over h3 h4 (Z79) hg
 obtain ⟨hH', hg'⟩ := Kd.H_seg hH1 (Z43) (Z43) (seg := [v1]) (j := 4) (show 5 ≤ 5 by decide) (by simpa using (Kd.R_val h4').2)
 have hs : k59.sz = 5 := rfl
 rw [hs, Int.toNat_natCast] at hH' hg'
 have hne : ∀ k, oki k → some k ≠ some g := fun k hk e => h2 (by injection e with e; rwa [e] at hk)
 have hz := hg.size
 exact ⟨hi, oki, fun k hk => h1 k (by have h_ : (w1.setCell ⟨g, i * 5 + 4, none⟩ v1).heap.size = w1.heap.size := (Z124); omega), h2, hH', Kd.R_grown h31 hg' hne, Kd.R_grown h4' hg' hne⟩
/-- A cell of the block g, behind an append to another row. -/
theorem grown_cell {row : Option Nat} (hg : W.grownBy w1 row) (hlt : g < W.heap.size) (hne : some g ≠ row) (o : Nat) : w1.cell? ⟨g, o, none⟩ = W.cell? ⟨g, o, none⟩ ∧ w1.frozen? ⟨g, o, none⟩ = W.frozen? ⟨g, o, none⟩ := by
 have := hg.block g hlt hne
 exact ⟨World.cell?_of_block (w := W) this, by unfold World.frozen?; rw [this]⟩
end
/-- A call that has done something to the box that is lent. -/
def BoxRet (base : Nat) (ok : Nat → Prop) (w : World) (g n cap i : Nat) (xs : List S59) (q : S59 × Int) (e : Ending) (w' : World) : Prop :=
 ∃ vM vK, e = .returned (.int .i64 q.2) ∧ Lent base ok w' g n cap xs i q.1 vM vK ∧ KeptA w w' ok
section
variable {base g n cap i : Nat} {ok : Nat → Prop} {w : World} {xs : List S59} {b : S59} {vM vK : Value}
/-- Where its mails lie, if there are some. -/
theorem Lent.form (h : Lent base ok w g n cap xs i b vM vK) (hp : 0 < b.f3.length) : ∃ gm c, vM = .slice (some ⟨gm, 0, none⟩) b.f3.length c ∧ gm < w.heap.size ∧ gm ≠ g ∧ ok gm := by
 obtain ⟨hi, oki, h1, h2, hH, h3, h4⟩ := h
 obtain ⟨gm, c, e, -, hlt, -⟩ := Kd.R_form h3 hp
 have ho : oki gm := h3.1 gm (by rw [e]; simp [Value.ownBlock])
 exact ⟨gm, c, e, hlt, fun e => h2 (e ▸ ho), hH.1 gm ho⟩
theorem Lent.mail {gm c : Nat} (h : Lent base ok w g n cap xs i b (.slice (some ⟨gm, 0, none⟩) b.f3.length c) vK) (k : Nat) (hk : k < b.f3.length) :
  w.cell? ⟨gm, k * 3, none⟩ = some (.int .i64 b.f3[k].f0) ∧ w.cell? ⟨gm, k * 3 + 1, none⟩ = some (.int .i64 b.f3[k].f1) ∧ w.cell? ⟨gm, k * 3 + 2, none⟩ = some (.string b.f3[k].f2) ∧ ∀ j, w.frozen? ⟨gm, k * 3 + j, none⟩ = false := by
 obtain ⟨hi, oki, h1, h2, hH, h3, h4⟩ := h
 obtain ⟨ce, hcl, hM, hcc, hfr⟩ := Kd.R_elem h3 z71 (k : Int) (Z43) (Z43)
 have hg : b.f3.getD (k : Int).toNat z71 = b.f3[k] := by simp [List.getD, List.getElem?_eq_getElem hk]
 rw [hg] at hM
 obtain rfl := k71_openM hM
 exact ⟨hcc 0 _ rfl, hcc 1 _ rfl, hcc 2 _ rfl, hfr⟩
end
/-- What a MuAdd does to a box, and its code. -/
def addL (b : S59) : List S86 → S59 × Int
 | [] => (b, 0)
 | x :: r => if hasB b.f4 x.f0 then (b, 9) else if b.f4.length = 60 then (b, 17) else if b.f3.length = 30 then (b, 7)
  else addL ⟨b.f0, b.f1, wrap64 (b.f2 + 1), b.f3 ++ [⟨b.f2, 0, x.f1⟩], b.f4 ++ [x.f0]⟩ r
theorem addL_drop (b : S59) (l : List S86) (k : Nat) (h : k < l.length) : addL b (l.drop k) = if hasB b.f4 (rd_T86 l (k : Int)).f0 then (b, 9) else if b.f4.length = 60 then (b, 17) else if b.f3.length = 30 then (b, 7)
  else addL ⟨b.f0, b.f1, wrap64 (b.f2 + 1), b.f3 ++ [⟨b.f2, 0, (rd_T86 l (k : Int)).f1⟩], b.f4 ++ [(rd_T86 l (k : Int)).f0]⟩ (l.drop (k + 1)) := by
 rw [List.drop_eq_getElem_cons h, addL, rdItem l k h]
set_option maxHeartbeats 16000000 in
set_option maxRecDepth 100000 in
theorem box_add (base : Nat) (ok : Nat → Prop) (g n cap i : Nat) (xs : List S59) (b : S59) (vM vK : Value) (A : Option Addr) (c : Nat) (l : List S86) (w : World) (HL : Lent base ok w g n cap xs i b vM vK) (hbase : base ≤ w.heap.size) (hokg : ok g)
  (hit : ∀ W', KeptA w W' ok → Kd.C k86 W' A l.length l) (hM : b.f3.length ≤ 1048576) (hK : b.f4.length ≤ 1048576) (hl : l.length ≤ 1048576) :
  Calls Try.prog 70 #[.pointer (some ⟨g, i * 5, none⟩), .slice A l.length c] w (BoxRet base ok w g n cap i xs (addL b l)) := by
 have HIT := Aside0.mk hit
 have HL0 := Aside0.mk HL
 clear hit HL
 go_enter Try.func70, Try.ntmps70
 go_wp2
 go_loopg [6, 9, 13, 21, 28] l.length (fun gg s6 s9 s13 s21 s28 wr => ∃ (kk : Nat) (b' : S59) (vM' vK' : Value), kk ≤ l.length ∧ l.length - kk ≤ gg ∧ s9 = .int .i64 kk ∧ Aside0 (Lent base ok wr g n cap xs i b' vM' vK') ∧ Aside0 (addL b l = addL b' (l.drop kk)) ∧ Aside0 (KeptA w wr ok) ∧ Aside0 (b'.f3.length ≤ 1048576 + kk ∧ b'.f4.length ≤ 1048576 + kk))
 case atStart => exact ⟨0, b, vM, vK, Nat.zero_le _, Z43, rfl, HL0, ⟨rfl⟩, ⟨KeptA.refl _ _⟩, ⟨Z43, Z43⟩⟩
 case round =>
  obtain ⟨kk, b', vM', vK', hkk, hgg, rfl, HB, HA, HK, HZ⟩ := hrel
  by_cases hlt : kk < l.length
  ·have hltz : (kk : Int) < (l.length : Int) := by omega
   have h0 : 0 ≤ (kk : Int) := by omega
   obtain ⟨ad, e, hx0, hx1⟩ := at_T86 (HIT.out wr HK.out) kk h0 hltz
   cases e
   simp only [Int.toNat_natCast] at hx0 hx1
   have hstep := Aside0.mk (addL_drop b' l kk hlt)
   have hgl := HB.out.lt
   obtain ⟨A4, c4, rfl, hc4, hC4⟩ := HB.out.keys
   obtain ⟨A3, c3, rfl, hc3, hC3⟩ := HB.out.mails
   have hq := hasI_ev b'.f4 (rd_T86 l (kk : Int)).f0 (by have := HZ.out; omega)
   obtain ⟨k1, hk1⟩ := hq.rounds
   have HQ := Aside0.mk hk1
   have HB1 := Aside0.mk (HB.out.below (below_alloc (Below.refl _ _) (.cells #[.string (rd_T86 l (kk : Int)).f0, .string (rd_T86 l (kk : Int)).f1] 86)))
   have HK1 := Aside0.mk (HK.out.alloc (.cells #[.string (rd_T86 l (kk : Int)).f0, .string (rd_T86 l (kk : Int)).f1] 86))
   have HC1 := Aside0.mk (Kd.C_alloc hC4 (.cells #[.string (rd_T86 l (kk : Int)).f0, .string (rd_T86 l (kk : Int)).f1] 86))
   have BX := Aside0.mk (show (wr.alloc (.cells #[.string (rd_T86 l (kk : Int)).f0, .string (rd_T86 l (kk : Int)).f1] 86)).heap[wr.heap.size]? = some (.cells #[.string (rd_T86 l (kk : Int)).f0, .string (rd_T86 l (kk : Int)).f1] 86 (0, 0)) from by simpa using heap_alloc_new wr _)
   clear hC4 hC3 hk1 hq
   go_upto_region 4 with (fail)
   clear hx0 hx1
   generalize hW1 : wr.alloc (.cells #[.string (rd_T86 l (kk : Int)).f0, .string (rd_T86 l (kk : Int)).f1] 86) = W1 at HB1 HK1 HC1 BX ⊢
   clear hW1 HB HK
   generalize wr.heap.size = x0 at BX ⊢
   generalize (rd_T86 l (kk : Int)).f0 = q0 at *
   generalize (rd_T86 l (kk : Int)).f1 = q1 at *
   obtain ⟨z0, z1, z2, z3, z4⟩ := HB1.out.cells
   have y0 : W1.cell? ⟨x0, 0, none⟩ = some (.string q0) := (blk_cell BX.out 0).trans rfl
   have y1 : W1.cell? ⟨x0, 1, none⟩ = some (.string q1) := (blk_cell BX.out 1).trans rfl
   cases hh : hasB b'.f4 q0 with
   | true =>
    rw [hh] at HQ
    go_quiet (first | (go_at_call 61; refine (slices_Contains_string_string.calls k1 A4 c4 b'.f4 q0 true _ (Kd.C_drewN HC1.out _) hc4 HQ.out).mono ?_; rintro e w' ⟨rfl, ⟨nd, rfl⟩⟩; exact ⟨rfl, _, World.drewN_drewN _ _ _⟩))
    go_wp2
    go_ret
    have e1 : addL b l = (b', 9) := by rw [HA.out, hstep.out, hh]; rfl
    exact ⟨_, _, (by rw [e1]; rfl), by rw [e1]; exact HB1.out.below (below_drewN (Below.refl _ _) _), HK1.out.drewN _⟩
   | false =>
    rw [hh] at HQ
    have hs1 := Aside0.mk (HA.out.trans hstep.out)
    rw [hh] at hs1
    clear hstep
    go_quiet (first | (go_at_call 61; refine (slices_Contains_string_string.calls k1 A4 c4 b'.f4 q0 false _ (Kd.C_drewN HC1.out _) hc4 HQ.out).mono ?_; rintro e w' ⟨rfl, ⟨nd, rfl⟩⟩; exact ⟨rfl, _, World.drewN_drewN _ _ _⟩))
    by_cases h60 : b'.f4.length = 60
    ·have t60 : ((b'.f4.length : Int) == 60) = true := beq_iff_eq.mpr (Z43)
     have HX := Aside0.mk h60
     clear h60
     go_wp2
     go_ret
     have e1 : addL b l = (b', 17) := by rw [hs1.out, if_neg (Z124), if_pos HX.out]
     exact ⟨_, _, (by rw [e1]; rfl), by rw [e1]; exact HB1.out.below (below_drewN (Below.refl _ _) _), HK1.out.drewN _⟩
    have t60 : ((b'.f4.length : Int) == 60) = false := beq_eq_false_iff_ne.mpr (Z43)
    have HX := Aside0.mk h60
    clear h60
    by_cases h30 : b'.f3.length = 30
    ·have t30 : ((b'.f3.length : Int) == 30) = true := beq_iff_eq.mpr (Z43)
     have HY := Aside0.mk h30
     clear h30
     go_wp2
     go_ret
     have e1 : addL b l = (b', 7) := by rw [hs1.out, if_neg (Z124), if_neg HX.out, if_pos HY.out]
     exact ⟨_, _, (by rw [e1]; rfl), by rw [e1]; exact HB1.out.below (below_drewN (Below.refl _ _) _), HK1.out.drewN _⟩
    have t30 : ((b'.f3.length : Int) == 30) = false := beq_eq_false_iff_ne.mpr (Z43)
    have e1 := Aside0.mk (by rw [hs1.out, if_neg (Z124), if_neg HX.out, if_neg h30] : addL b l = addL ⟨b'.f0, b'.f1, wrap64 (b'.f2 + 1), b'.f3 ++ [⟨b'.f2, 0, q1⟩], b'.f4 ++ [q0]⟩ (l.drop (kk + 1)))
    clear h30 HX hs1 HA HQ
    go_upto_region 10 with (fail)
    go_cut [50] (fun v50 wc => ∃ (vM1 : Value), Aside0 (Lent base ok wc g n cap xs i ⟨b'.f0, b'.f1, b'.f2, b'.f3 ++ [⟨b'.f2, 0, q1⟩], b'.f4⟩ vM1 (.slice A4 b'.f4.length c4)) ∧ Aside0 (KeptA w wc ok) ∧ Aside0 (wc.heap[x0]? = some (.cells #[.string q0, .string q1] 86 (0, 0))))
    case first =>
     obtain ⟨hin, oki, p1, p2, pH, p3, p4⟩ := HB1.out
     have HP := Aside0.mk (And.intro p1 (And.intro p2 (And.intro pH (And.intro p3 p4))))
     have HZ2 := HZ.out
     clear p1 p2 pH p3 p4
     have hgl1 := HB1.out.lt
     have hfz3 := HB1.out.frozen (i * 5 + 3)
     have hgx : x0 ≠ g := by
      rintro rfl
      obtain ⟨cs, hc⟩ := Kd.R_typed HP.out.2.2.1.2.choose_spec x0 (by simp [Value.ownBlock])
      have := hc.symm.trans BX.out
      injection this with this
      injection this with _ this
      exact absurd this (Z79)
     go_region_law (refine Kd.R_append_step k71 base (Z102) (.tmp 39) (.tmp 47) 57 71 (.agg #[.int .i64 0, .int .i64 0, .string ⟨#[]⟩]) 32 rfl Try.underlying57 info71 rfl (Z79) (Z43) (.slice A3 b'.f3.length c3) b'.f3 (⟨b'.f2, 0, q1⟩ : S71) [.int .i64 b'.f2, .int .i64 0, .string q1] oki (fun _ => False) rfl rfl (k71_mkM _ _ _ _) (fun _ hk => hk.elim) (fun k hk => HP.out.1 k (by simpa using hk)) (by (with_reducible repeat (first | apply Kd.R_alloc | apply Kd.R_drewN | apply Kd.R_drew)); exact HP.out.2.2.2.1) (Below.refl _ _) (by have := HK1.out.1; simp; omega) (Z43) ?_; intro v1 w1 ho hb hg hat; obtain ⟨A1, c1, hv⟩ := Kd.R_slice ho; rw [List.length_append, List.length_singleton] at hv; subst hv; have hne : some g ≠ (Value.slice A3 b'.f3.length c3).ownBlock := (by intro e; exact HP.out.2.1 (HP.out.2.2.2.1.1 g e.symm)); have q3 := grown_cell hg (g := g) (by simpa using hgl1) hne (i * 5 + 3); have q4 := q3.1.trans z3; have q5 := q3.2.trans hfz3; have R1 := Aside0.mk (lent_mails (b := b') hin (fun k hk => HP.out.1 k (by simpa using hk)) HP.out.2.1 (Kd.H_below HP.out.2.2.1 (Z64)) (Kd.R_below HP.out.2.2.2.1 (Z64)) (Kd.R_below HP.out.2.2.2.2 (Z64)) hg ho); have R2 := Aside0.mk (KeptA.setCell (p := ⟨g, i * 5 + 3, none⟩) (KeptA.of_grown hg (by (with_reducible repeat (first | apply KeptA.drewN | apply KeptA.drew)); exact HK1.out) (fun k e => .inl (HP.out.2.2.1.1 k (HP.out.2.2.2.1.1 k e)))) (.inl hokg) (.slice A1 (b'.f3.length + 1) c1)); have R3 := Aside0.mk (blk_far (p := ⟨g, i * 5 + 3, none⟩) (blk_grown (by (with_reducible repeat (first | refine blk_drewN ?_ _ | refine blk_drew ?_)); exact BX.out) hg (Kd.R_ne HP.out.2.2.2.1 BX.out (Z79))) hgx (.slice A1 (b'.f3.length + 1) c1)); clear hb hat ho q3)
     all_goals (go_wp2; go_meet; exact ⟨_, R1, R2, R3⟩)
    case rest =>
     obtain ⟨vM1, HB2, HK2, BX2⟩ := hcut
     clear z0 z1 z2 z3 z4 y0 y1 HB1 HK1 HC1 BX
     obtain ⟨z0, z1, z2, z3, z4⟩ := HB2.out.cells
     have y0 : wc.cell? ⟨x0, 0, none⟩ = some (.string q0) := (blk_cell BX2.out 0).trans rfl
     obtain ⟨A3', c3', rfl, hc3', -⟩ := HB2.out.mails
     go_upto_region 11 with (fail)
     go_cut [68] (fun v68 we => ∃ (vK1 : Value), Aside0 (Lent base ok we g n cap xs i ⟨b'.f0, b'.f1, b'.f2, b'.f3 ++ [⟨b'.f2, 0, q1⟩], b'.f4 ++ [q0]⟩ (.slice A3' (b'.f3 ++ [(⟨b'.f2, 0, q1⟩ : S71)]).length c3') vK1) ∧ Aside0 (KeptA w we ok))
     case first =>
      obtain ⟨hin, oki, p1, p2, pH, p3, p4⟩ := HB2.out
      have HP := Aside0.mk (And.intro p1 (And.intro p2 (And.intro pH (And.intro p3 p4))))
      have HZ2 := HZ.out
      clear p1 p2 pH p3 p4
      have hgl1 := HB2.out.lt
      have hfz3 := HB2.out.frozen (i * 5 + 4)
      go_region_law (refine Kd.R_append_step Kd.string (w0 := wc.drew) (W := wc.drew) base (Z102) (.tmp 55) (.tmp 58) 40 9 (.string ⟨#[]⟩) 16 rfl Try.underlying40 info9 rfl (Z79) (Z43) (.slice A4 b'.f4.length c4) b'.f4 q0 [.string q0] oki (fun _ => False) rfl rfl rfl (fun _ hk => hk.elim) (fun k hk => HP.out.1 k (by simpa using hk)) (by (with_reducible repeat (first | apply Kd.R_alloc | apply Kd.R_drewN | apply Kd.R_drew)); exact HP.out.2.2.2.2) (Below.refl _ _) (by have := HK2.out.1; simp; omega) (Z43) ?_; intro v1 w1 ho hb hg hat; obtain ⟨A1, c1, hv⟩ := Kd.R_slice ho; rw [List.length_append, List.length_singleton] at hv; subst hv; have hne : some g ≠ (Value.slice A4 b'.f4.length c4).ownBlock := (by intro e; exact HP.out.2.1 (HP.out.2.2.2.2.1 g e.symm)); have q3 := grown_cell hg (g := g) (by simpa using hgl1) hne (i * 5 + 4); have q4 := q3.1.trans z4; have q5 := q3.2.trans hfz3; have R1 := Aside0.mk (lent_keys (b := ⟨b'.f0, b'.f1, b'.f2, b'.f3 ++ [⟨b'.f2, 0, q1⟩], b'.f4⟩) hin (fun k hk => HP.out.1 k (by simpa using hk)) HP.out.2.1 (Kd.H_below HP.out.2.2.1 (Z64)) (Kd.R_below HP.out.2.2.2.1 (Z64)) (Kd.R_below HP.out.2.2.2.2 (Z64)) hg ho); have R2 := Aside0.mk (KeptA.setCell (p := ⟨g, i * 5 + 4, none⟩) (KeptA.of_grown hg (by (with_reducible repeat (first | apply KeptA.drewN | apply KeptA.drew)); exact HK2.out) (fun k e => .inl (HP.out.2.2.1.1 k (HP.out.2.2.2.2.1 k e)))) (.inl hokg) (.slice A1 (b'.f4.length + 1) c1)); clear hb hat ho q3)
      all_goals (go_wp2; go_meet; exact ⟨_, R1, R2⟩)
     case rest =>
      obtain ⟨vK1, HB3, HK3⟩ := hcut
      clear z0 z1 z2 z3 z4 y0 HB2 HK2 BX2
      obtain ⟨z0, z1, z2, z3, z4⟩ := HB3.out.cells
      have hf2 := HB3.out.frozen (i * 5 + 2)
      have HB4 := Aside0.mk (HB3.out.setNext (wrap64 (b'.f2 + 1)))
      have HK4 := Aside0.mk (KeptA.setCell (p := ⟨g, i * 5 + 2, none⟩) HK3.out (.inl hokg) (.int .i64 (wrap64 (b'.f2 + 1))))
      have HZ2 := HZ.out
      go_wp2
      go_roundg (l.length - (kk + 1))
      case measure => omega
      case rel => exact ⟨kk + 1, _, _, _, Z43, Z43, by go_num, HB4, ⟨e1.out⟩, HK4, ⟨by simp; omega, by simp; omega⟩⟩
  ·have hltz : ¬ (kk : Int) < (l.length : Int) := by omega
   obtain rfl : kk = l.length := by omega
   go_wp2
   go_ret
   have e := HA.out
   rw [List.drop_of_length_le (Nat.le_refl _)] at e
   rw [e]
   exact ⟨_, _, rfl, HB.out, HK.out⟩
theorem lent_mailIndex {base g n cap i : Nat} {ok : Nat → Prop} {w : World} {xs : List S59} {b : S59} {vM vK : Value} (HL : Lent base ok w g n cap xs i b vM vK) (hl : b.f3.length ≤ 1099511627776) (u : Int) :
  Calls Try.prog 87 #[.pointer (some ⟨g, i * 5, none⟩), .int .i64 u] w fun e w' => e = .returned (.int .i64 (idxU u b.f3 0)) ∧ Below w.heap.size w w' := by
 obtain ⟨A3, c3, rfl, hc3, hC3⟩ := HL.mails
 have HC := Aside0.mk (Kd.C_alloc hC3 (.cells #[.int .i64 u] 3))
 have HB := Aside0.mk (HL.below (below_alloc (Below.refl _ _) (.cells #[.int .i64 u] 3)))
 obtain ⟨-, -, -, z3, -⟩ := HB.out.cells
 clear hC3 HL
 go_enter Try.func87, Try.ntmps87
 go_wp2_with (go_at_call 88; refine (mailsIndex A3 c3 b.f3 u w.heap.size _ HC.out (Z124) (by simp [go_sem]) hl).mono ?_; rintro e w' ⟨rfl, hb'⟩)
 go_ret
 exact ⟨rfl, Below.trans (Below.alloc (Below.refl _ _) (Nat.le_refl _) _) (hb'.mono (Z124))⟩
/-- The flags of a mail of the box are set. -/
theorem lent_flag {base g n cap i : Nat} {ok : Nat → Prop} {w : World} {xs : List S59} {b : S59} {gm c : Nat} {vK : Value} (HL : Lent base ok w g n cap xs i b (.slice (some ⟨gm, 0, none⟩) b.f3.length c) vK) (k : Nat) (hk : k < b.f3.length) (x : Int) :
  Lent base ok (w.setCell ⟨gm, k * 3 + 1, none⟩ (.int .i64 x)) g n cap xs i ⟨b.f0, b.f1, b.f2, b.f3.set k ⟨b.f3[k].f0, x, b.f3[k].f2⟩, b.f4⟩ (.slice (some ⟨gm, 0, none⟩) b.f3.length c) vK := by
 obtain ⟨hi, oki, h1, h2, hH, h3, h4⟩ := HL
 obtain ⟨ce, hcl, hM, hcc, hfr⟩ := Kd.R_elem h3 z71 (k : Int) (Z43) (Z43)
 have hg : b.f3.getD (k : Int).toNat z71 = b.f3[k] := by simp [List.getD, List.getElem?_eq_getElem hk]
 rw [hg] at hM
 obtain rfl := k71_openM hM
 have hs : k71.sz = 3 := rfl
 obtain ⟨hR, hgr⟩ := Kd.R_seg h3 (k : Int) (Z43) (Z43) hcl hcc (seg := [.int .i64 x]) (j := 1) (show 2 ≤ 3 by decide) (x' := ⟨b.f3[k].f0, x, b.f3[k].f2⟩) (k71_mkM _ _ (fun _ => False) _) (fun _ h => h.elim)
 rw [hs, Int.toNat_natCast] at hR hgr
 have hH' := Kd.H_grown hH hgr (fun q e => by injection e with e; subst e; exact h3.1 gm (by simp [Value.ownBlock]))
 have h4' := Kd.R_over h4 h3 (Z79) (by simpa [Value.ownBlock] using hgr)
 have hl : (b.f3.set k ⟨b.f3[k].f0, x, b.f3[k].f2⟩).length = b.f3.length := List.length_set
 have hz := hgr.size
 exact ⟨hi, oki, fun q hq => h1 q (Nat.le_trans hz hq), h2, hH', hR, h4'⟩
def newFlags (mode was flags : Int) : Int := if mode = 1 then flags else if mode = 2 then Go.bits .or .i64 was flags else Go.bits .andNot .i64 was flags
/-- What a MuFlags does to a box, and its code. -/
def flagsL (b : S59) (uid mode flags : Int) : S59 × Int :=
 if idxU uid b.f3 0 < 0 then (b, 17)
 else (⟨b.f0, b.f1, b.f2, b.f3.set (idxU uid b.f3 0).toNat ⟨(rd_T71 b.f3 (idxU uid b.f3 0)).f0, newFlags mode (rd_T71 b.f3 (idxU uid b.f3 0)).f1 flags, (rd_T71 b.f3 (idxU uid b.f3 0)).f2⟩, b.f4⟩, 0)
theorem idxU_lt (u : Int) : ∀ (l : List S71) (i : Nat), idxU u l i < 0 ∨ ∃ k : Nat, idxU u l i = k ∧ i ≤ k ∧ k < i + l.length
 | [], i => .inl (by simp [idxU])
 | m :: r, i => by
  unfold idxU
  by_cases h : m.f0 = u
  ·rw [if_pos h]; exact .inr ⟨i, rfl, Nat.le_refl _, Z124⟩
  ·rw [if_neg h]
   rcases idxU_lt u r (i + 1) with h1 | ⟨k, h1, h2, h3⟩
   ·exact .inl (by simpa using h1)
   ·exact .inr ⟨k, by simpa using h1, Z43, by simp; omega⟩
set_option maxHeartbeats 16000000 in
set_option maxRecDepth 100000 in
theorem box_flags (base : Nat) (ok : Nat → Prop) (g n cap i : Nat) (xs : List S59) (b : S59) (vM vK : Value) (m0 uid mode flags : Int) (nm : ByteArray) (vI : Value) (w : World) (HL : Lent base ok w g n cap xs i b vM vK) (hnew : ∀ k, w.heap.size ≤ k → ok k) (hM : b.f3.length ≤ 1048576) (hvI : ∃ A n c, vI = .slice A n c) :
  Calls Try.prog 71 #[.pointer (some ⟨g, i * 5, none⟩), .agg #[.int .i64 m0, .int .i64 uid, .int .i64 mode, .int .i64 flags, .string nm, vI]] w (BoxRet base ok w g n cap i xs (flagsL b uid mode flags)) := by
 obtain ⟨AI, nI, cI, rfl⟩ := hvI
 have HB := Aside0.mk (HL.below (below_alloc (Below.refl _ _) (.cells #[.int .i64 m0, .int .i64 uid, .int .i64 mode, .int .i64 flags, .string nm, .slice AI nI cI] 65)))
 have BX := Aside0.mk (show (w.alloc (.cells #[.int .i64 m0, .int .i64 uid, .int .i64 mode, .int .i64 flags, .string nm, .slice AI nI cI] 65)).heap[w.heap.size]? = some (.cells #[.int .i64 m0, .int .i64 uid, .int .i64 mode, .int .i64 flags, .string nm, .slice AI nI cI] 65 (0, 0)) from by simpa using heap_alloc_new w _)
 have HK := Aside0.mk ((KeptA.refl w ok).alloc (.cells #[.int .i64 m0, .int .i64 uid, .int .i64 mode, .int .i64 flags, .string nm, .slice AI nI cI] 65))
 have hM0 := Aside0.mk hM
 clear HL hM
 go_enter Try.func71, Try.ntmps71
 go_upto_region 1 with (fail)
 generalize hW1 : w.alloc (.cells #[.int .i64 m0, .int .i64 uid, .int .i64 mode, .int .i64 flags, .string nm, .slice AI nI cI] 65) = W1 at HB BX HK ⊢
 have hx0 : w.heap.size = w.heap.size := rfl
 clear hW1
 generalize w.heap.size = x0 at BX ⊢
 have y1 : W1.cell? ⟨x0, 1, none⟩ = some (.int .i64 uid) := (blk_cell BX.out 1).trans rfl
 go_wp2_with fail
 refine (lent_mailIndex HB.out (by have := hM0.out; omega) uid).mono ?_
 rintro e w2 ⟨rfl, hb2⟩
 have HB2 := Aside0.mk (HB.out.below hb2)
 have HK2 := Aside0.mk (HK.out.below hb2)
 have BX2 := Aside0.mk (blk_below BX.out hb2)
 clear HB HK BX y1 hb2
 rcases idxU_lt uid b.f3 0 with hn | ⟨k, hk, -, hkl⟩
 ·have t0 : decide (idxU uid b.f3 0 < 0) = true := decide_eq_true hn
  have e1 : flagsL b uid mode flags = (b, 17) := if_pos hn
  have E1 := Aside0.mk e1
  clear e1 hn
  go_wp2
  go_ret
  exact ⟨_, _, (by rw [E1.out]; rfl), by rw [E1.out]; exact HB2.out, HK2.out⟩
 have hk : idxU uid b.f3 0 = (k : Int) := by simpa using hk
 have hkl : k < b.f3.length := by omega
 have e1 : flagsL b uid mode flags = (⟨b.f0, b.f1, b.f2, b.f3.set k ⟨b.f3[k].f0, newFlags mode b.f3[k].f1 flags, b.f3[k].f2⟩, b.f4⟩, 0) := by
  unfold flagsL
  rw [hk, if_neg (Z43)]
  have : rd_T71 b.f3 (k : Int) = b.f3[k] := by unfold rd_T71; simp [List.getD, List.getElem?_eq_getElem hkl]
  rw [this, Int.toNat_natCast]
 rw [hk]
 have E1 := Aside0.mk e1
 clear e1 hk
 obtain ⟨gm, c, rfl, hgl, hgg, hok⟩ := HB2.out.form (Z43)
 obtain ⟨-, -, -, z3, -⟩ := HB2.out.cells
 obtain ⟨-, m1, -, hf⟩ := HB2.out.mail k hkl
 have hf1 := hf 1
 have y2 : w2.cell? ⟨x0, 2, none⟩ = some (.int .i64 mode) := (blk_cell BX2.out 2).trans rfl
 have y3 : w2.cell? ⟨x0, 3, none⟩ = some (.int .i64 flags) := (blk_cell BX2.out 3).trans rfl
 have h0 : (0 : Int) ≤ (k : Int) := by omega
 have h1 : (k : Int) < (b.f3.length : Int) := by omega
 have hneg : decide ((k : Int) < 0) = false := decide_eq_false (Z43)
 have R1 := Aside0.mk (fun x => lent_flag HB2.out k hkl x)
 have R2 := Aside0.mk (fun x => KeptA.setCell (p := ⟨gm, k * 3 + 1, none⟩) HK2.out (.inl hok) (.int .i64 x))
 clear hf
 by_cases q1 : mode = 1
 ·have e2 : newFlags mode b.f3[k].f1 flags = flags := if_pos q1
  have E2 := Aside0.mk (by rw [E1.out, e2] : flagsL b uid mode flags = (⟨b.f0, b.f1, b.f2, b.f3.set k ⟨b.f3[k].f0, flags, b.f3[k].f2⟩, b.f4⟩, 0))
  subst q1
  clear e2
  go_upto_region 7 with (fail)
  go_region
  all_goals (go_wp2; go_ret; exact ⟨_, _, (by rw [E2.out]; rfl), Z128, Z143⟩)
 by_cases q2 : mode = 2
 ·have e2 : newFlags mode b.f3[k].f1 flags = Go.bits .or .i64 b.f3[k].f1 flags := by unfold newFlags; rw [if_neg q1, if_pos q2]
  have E2 := Aside0.mk (by rw [E1.out, e2] : flagsL b uid mode flags = (⟨b.f0, b.f1, b.f2, b.f3.set k ⟨b.f3[k].f0, (Go.bits .or .i64 b.f3[k].f1 flags), b.f3[k].f2⟩, b.f4⟩, 0))
  subst q2
  clear e2 q1
  go_upto_region 9 with (fail)
  go_region
  all_goals (go_wp2; go_ret; exact ⟨_, _, (by rw [E2.out]; rfl), Z128, Z143⟩)
 ·have e2 : newFlags mode b.f3[k].f1 flags = Go.bits .andNot .i64 b.f3[k].f1 flags := by unfold newFlags; rw [if_neg q1, if_neg q2]
  have E2 := Aside0.mk (by rw [E1.out, e2] : flagsL b uid mode flags = (⟨b.f0, b.f1, b.f2, b.f3.set k ⟨b.f3[k].f0, (Go.bits .andNot .i64 b.f3[k].f1 flags), b.f3[k].f2⟩, b.f4⟩, 0))
  have t1 : (mode == 1) = false := beq_eq_false_iff_ne.mpr q1
  have t2 : (mode == 2) = false := beq_eq_false_iff_ne.mpr q2
  clear e2 q1 q2
  go_upto_region 5 with (fail)
  go_region
  all_goals (go_wp2; go_ret; exact ⟨_, _, (by rw [E2.out]; rfl), Z128, Z143⟩)
/-! Mails that are marked go: DeleteFunc over a row of one's own. -/
def delB (x : S71) : Bool := Go.bits .and .i64 x.f1 8 != 0
def idxD : List S71 → Int → Int
 | [], _ => -1
 | m :: r, i => if delB m = true then i else idxD r (i + 1)
theorem rdStored (l : List S71) (k : Nat) (h : k < l.length) : rd_T71 l (k : Int) = l[k] := by unfold rd_T71; simp [List.getD, List.getElem?_eq_getElem h]
theorem idxD_drop (l : List S71) (k : Nat) (h : k < l.length) : idxD (l.drop k) k = if delB (rd_T71 l (k : Int)) = true then (k : Int) else idxD (l.drop (k + 1)) ((k + 1 : Nat) : Int) := by
 rw [List.drop_eq_getElem_cons h, idxD, rdStored l k h]; rfl
theorem delIs (x : S71) (w : World) :
  Calls Try.prog 73 #[.agg #[.int .i64 x.f0, .int .i64 x.f1, .string x.f2]] w fun e w' => e = .returned (.bool (delB x)) ∧ Below w.heap.size w w' := by
 go_enter Try.func73, Try.ntmps73
 go_wp2
 go_ret
 exact ⟨by first | rfl | (simp [delB]; done), Z6⟩
set_option maxHeartbeats 8000000 in
set_option maxRecDepth 100000 in
theorem delIndex (A : Option Addr) (c : Nat) (l : List S71) (w : World) (hC : Kd.C k71 w A l.length l) (hl : l.length ≤ 1099511627776) :
  Calls Try.prog 88 #[.slice A l.length c, .func (.func 73) #[] #[]] w fun e w' => e = .returned (.int .i64 (idxD l 0)) ∧ Below w.heap.size w w' := by
 have eg := enters_of Try.func73 (Z24) rfl
 have HC := Aside0.mk hC
 clear hC
 go_enter Try.func88, Try.ntmps88
 go_wp2
 go_loopg [5, 8] l.length (fun gg _ s8 wr => ∃ kk : Nat, kk ≤ l.length ∧ l.length - kk ≤ gg ∧ s8 = .int .i64 kk ∧ Aside0 (Below w.heap.size w wr) ∧ Aside0 (idxD l 0 = idxD (l.drop kk) kk))
 case atStart => exact ⟨0, Nat.zero_le _, Z43, rfl, ⟨Below.refl _ w⟩, ⟨rfl⟩⟩
 case round =>
  obtain ⟨kk, hkk, hg, rfl, BW, AI⟩ := hrel
  by_cases hlt : kk < l.length
  ·have hltz : (kk : Int) < (l.length : Int) := by omega
   have h0 : 0 ≤ (kk : Int) := by omega
   obtain ⟨ad, e, hx0, hx1, hx2⟩ := at_T71 HC.out kk h0 hltz
   cases e
   simp only [Int.toNat_natCast] at hx0 hx1 hx2
   replace hx0 := (BW.out.cell (World.block_lt_of_cell? w _ hx0)).trans hx0
   replace hx1 := (BW.out.cell (World.block_lt_of_cell? w _ hx1)).trans hx1
   replace hx2 := (BW.out.cell (World.block_lt_of_cell? w _ hx2)).trans hx2
   have hstep := idxD_drop l kk hlt
   have hcall := delIs (rd_T71 l (kk : Int)) wr
   cases hq : delB (rd_T71 l (kk : Int)) with
   | true =>
    rw [hq] at hstep hcall
    rw [if_pos rfl] at hstep
    have HS := Aside0.mk hstep
    clear hstep hq
    go_wp2_with (go_at_call 73; refine hcall.mono ?_; rintro e w' ⟨rfl, hb'⟩)
    go_ret
    exact ⟨by rw [AI.out, HS.out]; rfl, Below.trans BW.out (hb'.mono BW.out.size)⟩
   | false =>
    rw [hq] at hstep hcall
    rw [if_neg (Z124)] at hstep
    have HS := Aside0.mk hstep
    clear hstep hq
    go_wp2_with (go_at_call 73; refine hcall.mono ?_; rintro e w' ⟨rfl, hb'⟩)
    go_roundg (l.length - (kk + 1))
    case measure => omega
    case rel => exact ⟨kk + 1, Z43, Z43, by go_num, ⟨Below.trans BW.out (hb'.mono BW.out.size)⟩, ⟨AI.out.trans HS.out⟩⟩
  ·have hltz : ¬ (kk : Int) < (l.length : Int) := by omega
   obtain rfl : kk = l.length := by omega
   go_wp2
   go_ret
   exact ⟨Z145, BW.out⟩
section
variable {w : World} {base g n c : Nat} {ok : Nat → Prop} {ys : List S71}
theorem row_at (h : Kd.R k71 71 w base ok (.slice (some ⟨g, 0, none⟩) n c) ys) (k : Nat) (hk : k < ys.length) :
  w.cell? ⟨g, k * 3, none⟩ = some (.int .i64 ys[k].f0) ∧ w.cell? ⟨g, k * 3 + 1, none⟩ = some (.int .i64 ys[k].f1) ∧ w.cell? ⟨g, k * 3 + 2, none⟩ = some (.string ys[k].f2) ∧ ∀ j, w.frozen? ⟨g, k * 3 + j, none⟩ = false := by
 have hn := (Kd.R_reads' h).1
 obtain ⟨ce, hcl, hM, hcc, hfr⟩ := Kd.R_elem h z71 (k : Int) (Z43) (Z43)
 have hg : ys.getD (k : Int).toNat z71 = ys[k] := by simp [List.getD, List.getElem?_eq_getElem hk]
 rw [hg] at hM
 obtain rfl := k71_openM hM
 exact ⟨hcc 0 _ rfl, hcc 1 _ rfl, hcc 2 _ rfl, hfr⟩
/-- One mail is written over. -/
theorem row_put (h : Kd.R k71 71 w base ok (.slice (some ⟨g, 0, none⟩) n c) ys) (a : Nat) (ha : a < n) (x : S71) :
  Kd.R k71 71 (((w.setCell ⟨g, a * 3, none⟩ (.int .i64 x.f0)).setCell ⟨g, a * 3 + 1, none⟩ (.int .i64 x.f1)).setCell ⟨g, a * 3 + 2, none⟩ (.string x.f2)) base ok (.slice (some ⟨g, 0, none⟩) n c) (ys.set a x) := by
 obtain ⟨ce, hcl, hM, hcc, hfr⟩ := Kd.R_elem h z71 (a : Int) (Z43) (Z43)
 have := (Kd.R_seg h (a : Int) (Z43) (Z43) hcl hcc (okp := fun _ => False) (seg := [.int .i64 x.f0, .int .i64 x.f1, .string x.f2]) (j := 0) (show 3 ≤ 3 by decide) (x' := x) (by
  have hl : ce.drop 3 = [] := List.drop_of_length_le (Nat.le_of_eq hcl)
  show k71.M _ _ _ x (ce.take 0 ++ [.int .i64 x.f0, .int .i64 x.f1, .string x.f2] ++ ce.drop 3)
  rw [hl]; exact k71_mkM _ _ (fun _ => False) x) (fun _ h => h.elim)).1
 have hs : k71.sz = 3 := rfl
 rw [hs, Int.toNat_natCast] at this
 exact this
theorem row_len (h : Kd.R k71 71 w base ok (.slice (some ⟨g, 0, none⟩) n c) ys) : n = ys.length ∧ n ≤ c := ⟨(Kd.R_reads' h).1, (Kd.R_reads' h).2.1⟩
theorem row_block (h : Kd.R k71 71 w base ok (.slice (some ⟨g, 0, none⟩) n c) ys) : ∃ cur, w.heap[g]? = some (.cells cur 71 (0, 0)) ∧ cur.size = c * 3 := by
 obtain ⟨_, inner, ⟨_, h2⟩, _⟩ := h
 rcases h2 with ⟨e, _⟩ | ⟨g', cap, cur, e, _, hh, _, _, hsz, _⟩
 ·cases e
 ·cases e; exact ⟨cur, hh, hsz⟩
/-- What lies behind the row's length may be written. -/
theorem row_spare (h : Kd.R k71 71 w base ok (.slice (some ⟨g, 0, none⟩) n c) ys) (o : Nat) (seg : List Value) (ho : n * 3 ≤ o) (hf : o + seg.length ≤ c * 3) :
  Kd.R k71 71 (w.setCells g o seg) base ok (.slice (some ⟨g, 0, none⟩) n c) ys := by
 obtain ⟨h0, inner, ⟨h1, h2⟩, hr⟩ := h
 rcases h2 with ⟨e, _⟩ | ⟨g', cap, cur, e, hb, hh, hn, hm, hsz, ht⟩
 ·cases e
 ·injection e with e1 e2 e3
  injection e1 with e1
  injection e1 with e1
  subst e1; subst e3
  have hs : k71.sz = 3 := rfl
  rw [hs] at hsz ht
  obtain ⟨cur', q1, q2, q3⟩ := setCells_row seg o w cur hh (Z43)
  refine ⟨h0, inner, ⟨h1, .inr ⟨g, c, cur', by rw [e2], hb, q1, hn, hm, by rw [q2, hs]; exact hsz, ?_⟩⟩, hr.imp_ (fun p cs hp => ?_)⟩
  ·have hcl : cur.toList.length = c * 3 := by rw [Array.length_toList]; exact hsz
   have ht' : List.take (ys.length * 3) cur.toList = inner := ht
   show List.take (ys.length * 3) cur'.toList = inner
   rw [q3, ← ht', List.append_assoc, List.take_append_of_le_length (by rw [List.length_take]; omega), List.take_take]
   congr 1; omega
  ·obtain rfl := k71_openM hp; exact k71_mkM _ _ _ _
/-- 'clear' of what lies behind the first a mails. -/
theorem row_clear (h : Kd.R k71 71 w base ok (.slice (some ⟨g, 0, none⟩) n c) ys) (a : Nat) (ha : a ≤ n) (ty : TypeId) (c' : Nat) :
  ∃ seg : List Value, (Builtin.clear_ #[57] ty #[.slice (some ⟨g, a * 3, none⟩) (n - a) c']).run Try.prog w = .ok (.tuple #[]) (w.setCells g (a * 3) seg) ∧ Kd.R k71 71 (w.setCells g (a * 3) seg) base ok (.slice (some ⟨g, 0, none⟩) a c) (ys.take a) := by
 obtain ⟨hn, hc⟩ := row_len h
 have hT := Kd.R_take h (m := a) (Z43)
 by_cases h0 : n - a = 0
 ·refine ⟨[], ?_, hT⟩
  rw [h0]
  have hu := run_underlying (P := Try.prog) (w := w) Try.underlying57
  simp [Builtin.clear_, hu]
  rfl
 ·obtain ⟨cur, hb, hsz⟩ := row_block h
  obtain ⟨i0, hi, hz0, hz1, hz2⟩ := info_parts info71
  have hl : (Builtin.zeroCells (Value.agg #[.int .i64 0, .int .i64 0, .string ⟨#[]⟩]).cells (n - a)).toList.length = (n - a) * 3 := by simp [Builtin.zeroCells, Value.cells]
  have hone : ∀ u ∈ (Builtin.zeroCells (Value.agg #[.int .i64 0, .int .i64 0, .string ⟨#[]⟩]).cells (n - a)).toList, u.oneCell' = true := by
   intro u hu
   simp only [Builtin.zeroCells, Value.cells] at hu
   simp at hu
   obtain ⟨j, hj, rfl⟩ := hu
   have : j % 3 = 0 ∨ j % 3 = 1 ∨ j % 3 = 2 := by omega
   rcases this with e | e | e <;> rw [e] <;> rfl
  have hst := run_storeCells_cells (P := Try.prog) g (a * 3) _ 0 w (fun j hj => by
   rw [hl] at hj
   have := blk_cell hb (a * 3 + 0 + j)
   rw [this]
   have hlt : a * 3 + 0 + j < cur.size := by rw [hsz]; omega
   rw [Array.getElem?_eq_getElem hlt]; rfl) (fun j hj => blk_frozen hb _) hone
  refine ⟨_, ?_, row_spare hT (a * 3) (Builtin.zeroCells (Value.agg #[.int .i64 0, .int .i64 0, .string ⟨#[]⟩]).cells (n - a)).toList (Nat.le_refl _) (by rw [hl]; omega)⟩
  have hu := run_underlying (P := Try.prog) (w := w) Try.underlying57
  have hv : (zeroValue 71).run Try.prog w = .ok (.agg #[.int .i64 0, .int .i64 0, .string ⟨#[]⟩]) w := by simp [zeroValue, typeInfo, hi, hz0]
  obtain ⟨m, hm⟩ : ∃ m, n - a = m + 1 := ⟨n - a - 1, Z43⟩
  rw [hm] at hst ⊢
  simp only [Nat.add_zero] at hst
  simp [Builtin.clear_, hu, hv, hst]
end
theorem take_filter_step (ms : List S71) (j : Nat) (h : j < ms.length) : (ms.take (j + 1)).filter (fun x => !delB x) = if delB ms[j] = true then (ms.take j).filter (fun x => !delB x) else (ms.take j).filter (fun x => !delB x) ++ [ms[j]] := by
 rw [List.take_succ_eq_append_getElem h, List.filter_append]
 cases hd : delB ms[j] with
 | true => simp [hd]
 | false => simp [hd]
theorem idxD_spec : ∀ (l : List S71) (i : Nat), (idxD l i = -1 ∧ l.filter (fun x => !delB x) = l) ∨ ∃ k : Nat, idxD l i = ((i + k : Nat) : Int) ∧ k < l.length ∧ (l.take (k + 1)).filter (fun x => !delB x) = l.take k
 | [], i => .inl ⟨rfl, rfl⟩
 | m :: r, i => by
  unfold idxD
  cases hd : delB m with
  | true => rw [if_pos rfl]; exact .inr ⟨0, Z124, Z124, by simp [hd]⟩
  | false =>
   rw [if_neg (Z124)]
   rcases idxD_spec r (i + 1) with ⟨h1, h2⟩ | ⟨k, h1, h2, h3⟩
   ·exact .inl ⟨by simpa using h1, by simp [hd, h2]⟩
   ·exact .inr ⟨k + 1, (by have h_ : ((i : Int) + 1) = ((i + 1 : Nat) : Int) := (Z43); rw [h_, h1]; omega), by simp; omega, by simp [hd]; simpa using h3⟩
/-- What DeleteFunc leaves: a row of those that stay. -/
def DelRet (base : Nat) (okm : Nat → Prop) (w : World) (gm : Nat) (ms : List S71) (e : Ending) (w' : World) : Prop :=
 ∃ v, e = .returned v ∧ Kd.R k71 71 w' base okm v (ms.filter (fun x => !delB x)) ∧ KeptA w w' (fun k => k = gm)
set_option maxHeartbeats 16000000 in
set_option maxRecDepth 100000 in
theorem mails_delete (base : Nat) (okm : Nat → Prop) (gm n c : Nat) (ms : List S71) (w : World) (h : Kd.R k71 71 w base okm (.slice (some ⟨gm, 0, none⟩) n c) ms) (hl : ms.length ≤ 1048576) :
  Calls Try.prog 72 #[.slice (some ⟨gm, 0, none⟩) n c, .func (.func 73) #[] #[]] w (DelRet base okm w gm ms) := by
 have eg := enters_of Try.func73 (Z24) rfl
 obtain ⟨rfl, hnc⟩ := row_len h
 have HR := Aside0.mk h
 have hC := (Kd.R_reads' h).2.2
 have HL := Aside0.mk hl
 clear h hl
 go_enter Try.func72, Try.ntmps72
 go_wp2_with fail
 refine (delIndex (some ⟨gm, 0, none⟩) c ms w hC (by have := HL.out; omega)).mono ?_
 rintro e w1 ⟨rfl, hb1⟩
 have HR1 := Aside0.mk (Kd.R_below HR.out hb1)
 have HK1 := Aside0.mk (KeptA.of_below hb1 (fun k => k = gm))
 clear hC hb1 HR
 rcases idxD_spec ms 0 with ⟨h1, h2⟩ | ⟨k, h1, h2, h3⟩
 ·have e0 : idxD ms 0 = -1 := by simpa using h1
  rw [e0]
  have HF := Aside0.mk h2
  clear h1 h2 e0
  go_wp2
  go_ret
  exact ⟨_, rfl, by rw [HF.out]; exact HR1.out, HK1.out⟩
 have e0 : idxD ms 0 = (k : Int) := by simpa using h1
 rw [e0]
 have HF := Aside0.mk h3
 have hkm : ((k : Int) == -1) = false := beq_eq_false_iff_ne.mpr (Z43)
 clear h1 h3 e0
 have HL2 := HL.out
 go_wp2
 go_loopg [5, 6, 7] ms.length (fun gg s5 s6 s7 wr => ∃ (a j : Nat) (ys : List S71), a < j ∧ j ≤ ms.length ∧ ms.length - j ≤ gg ∧ s5 = .int .i64 a ∧ s6 = .int .i64 j ∧ Aside0 (Kd.R k71 71 wr base okm (.slice (some ⟨gm, 0, none⟩) ms.length c) ys) ∧
  Aside0 (ys.take a = (ms.take j).filter (fun x => !delB x)) ∧ Aside0 (ys.drop j = ms.drop j) ∧ Aside0 (KeptA w wr (fun k => k = gm)) ∧ Aside0 (ys.length = ms.length))
 case atStart => exact ⟨k, k + 1, ms, Z43, Z43, Z43, rfl, by go_num, HR1, ⟨HF.out.symm⟩, ⟨rfl⟩, HK1, ⟨rfl⟩⟩
 case round =>
  obtain ⟨a, j, ys, haj, hjm, hgg, rfl, rfl, HR2, HT, HD, HK2, HY⟩ := hrel
  by_cases hlt : j < ms.length
  ·have hltz : (j : Int) < (ms.length : Int) := by omega
   have h0 : (0 : Int) ≤ (j : Int) := by omega
   have hjy : j < ys.length := by rw [HY.out]; exact hlt
   have ej : ys[j] = ms[j] := by
    have := congrArg (fun l => l[0]?) HD.out
    simp only [List.getElem?_drop, Nat.add_zero] at this
    rw [List.getElem?_eq_getElem hjy, List.getElem?_eq_getElem hlt] at this
    exact Option.some.inj this
   obtain ⟨z0, z1, z2, -⟩ := row_at HR2.out j hjy
   rw [ej] at z0 z1 z2
   have HS := Aside0.mk (take_filter_step ms j hlt)
   have hcall := delIs ms[j] (wr.alloc (.cells #[.int .i64 ms[j].f0, .int .i64 ms[j].f1, .string ms[j].f2] 71))
   have BX := Aside0.mk (show (wr.alloc (.cells #[.int .i64 ms[j].f0, .int .i64 ms[j].f1, .string ms[j].f2] 71)).heap[wr.heap.size]? = some (.cells #[.int .i64 ms[j].f0, .int .i64 ms[j].f1, .string ms[j].f2] 71 (0, 0)) from by simpa using heap_alloc_new wr _)
   have HR3 := Aside0.mk (Kd.R_alloc HR2.out (.cells #[.int .i64 ms[j].f0, .int .i64 ms[j].f1, .string ms[j].f2] 71))
   have HK3 := Aside0.mk (HK2.out.alloc (.cells #[.int .i64 ms[j].f0, .int .i64 ms[j].f1, .string ms[j].f2] 71))
   have HD2 := Aside0.mk (show ys.drop (j + 1) = ms.drop (j + 1) from by have := congrArg (List.drop 1) HD.out; simpa [List.drop_drop] using this)
   cases hd : delB ms[j] with
   | true =>
    rw [hd] at hcall
    have HS2 := Aside0.mk (by rw [HS.out, if_pos hd] : (ms.take (j + 1)).filter (fun x => !delB x) = (ms.take j).filter (fun x => !delB x))
    have HC := Aside0.mk hcall
    clear hcall HS
    go_wp2_with (go_at_call 73; refine HC.out.mono ?_; rintro e w2 ⟨rfl, hb2⟩)
    go_roundg (ms.length - (j + 1))
    case measure => omega
    case rel => exact ⟨a, j + 1, ys, Z43, Z43, Z43, rfl, by go_num, ⟨Kd.R_below HR3.out hb2⟩, ⟨HT.out.trans HS2.out.symm⟩, HD2, ⟨HK3.out.below hb2⟩, HY⟩
   | false =>
    rw [hd] at hcall
    have HS2 := Aside0.mk (by rw [HS.out, if_neg (by rw [hd]; simp)] : (ms.take (j + 1)).filter (fun x => !delB x) = (ms.take j).filter (fun x => !delB x) ++ [ms[j]])
    have HC := Aside0.mk hcall
    clear hcall HS ej hjy
    have hay : a < ys.length := by rw [HY.out]; omega
    have ha0 : (0 : Int) ≤ (a : Int) := by omega
    have ha1 : (a : Int) < (ms.length : Int) := by omega
    go_wp2_with (go_at_call 73; refine HC.out.mono ?_; rintro e w2 ⟨rfl, hb2⟩; have BX2 := blk_below BX.out hb2; have y0 : w2.cell? ⟨wr.heap.size, 0, none⟩ = _ := (blk_cell BX2 0).trans rfl; have y1 : w2.cell? ⟨wr.heap.size, 1, none⟩ = _ := (blk_cell BX2 1).trans rfl; have y2 : w2.cell? ⟨wr.heap.size, 2, none⟩ = _ := (blk_cell BX2 2).trans rfl; clear BX2; have HR4 := Aside0.mk (Kd.R_below HR3.out hb2); have HK4 := Aside0.mk (HK3.out.below hb2); clear hb2; obtain ⟨r0, r1, r2, hf⟩ := row_at HR4.out a hay; have f0 : w2.frozen? ⟨gm, a * 3, none⟩ = false := hf 0; have f1 := hf 1; have f2 := hf 2; clear hf)
    go_roundg (ms.length - (j + 1))
    case measure => omega
    case rel =>
     refine ⟨a + 1, j + 1, ys.set a ms[j], Z43, Z43, Z43, by go_num, by go_num, ⟨row_put HR4.out a (Z43) ms[j]⟩, ⟨?_⟩, ⟨?_⟩, ⟨KeptA.setCell (p := ⟨gm, a * 3 + 2, none⟩) (KeptA.setCell (p := ⟨gm, a * 3 + 1, none⟩) (KeptA.setCell (p := ⟨gm, a * 3, none⟩) HK4.out (.inl rfl) _) (.inl rfl) _) (.inl rfl) _⟩, ⟨by rw [List.length_set]; exact HY.out⟩⟩
     ·rw [List.take_succ_eq_append_getElem (by simpa using hay), List.take_set_of_le (Nat.le_refl _), HT.out, List.getElem_set_self, HS2.out]
     ·rw [List.drop_set_of_lt (Z43)]; exact HD2.out
  ·have hltz : ¬ (j : Int) < (ms.length : Int) := by omega
   obtain rfl : j = ms.length := by omega
   have ha0 : (0 : Int) ≤ (a : Int) := by omega
   have ha1 : (a : Int) ≤ (ms.length : Int) := by omega
   have ha2 : (a : Int) ≤ (c : Int) := by omega
   have hac : a ≤ c := by omega
   have ham : a ≤ ms.length := by omega
   obtain ⟨seg, q1, q2⟩ := row_clear HR2.out a (Z43) 0 (c - a)
   have HQ := Aside0.mk q1
   have HR3 := Aside0.mk q2
   clear q1 q2
   have ET := Aside0.mk (by rw [HT.out, List.take_of_length_le (Nat.le_refl _)] : ys.take a = ms.filter (fun x => !delB x))
   go_wp2_with fail
   rw [HQ.out]
   go_wp2
   go_ret
   refine ⟨_, rfl, ?_, ?_⟩
   ·rw [← ET.out]; exact HR3.out
   ·exact HK2.out.then_ (S2 := fun k => k = gm) ⟨by rw [(setCells_same gm seg (a * 3) wr).2.2.2]; exact Nat.le_refl _, fun q _ hn => setCells_far seg (a * 3) q hn, (setCells_same gm seg (a * 3) wr).1, (setCells_same gm seg (a * 3) wr).2.1, (setCells_same gm seg (a * 3) wr).2.2.1⟩ (fun q hq => .inl hq)
/-- DeleteFunc over any row of one's own, nil too. -/
def DelRetA (base : Nat) (okm : Nat → Prop) (w : World) (v : Value) (ms : List S71) (e : Ending) (w' : World) : Prop :=
 ∃ v1, e = .returned v1 ∧ Kd.R k71 71 w' base okm v1 (ms.filter (fun x => !delB x)) ∧ KeptA w w' (fun k => v.ownBlock = some k)
set_option maxHeartbeats 16000000 in
theorem mails_delete_any (base : Nat) (okm : Nat → Prop) (v : Value) (ms : List S71) (w : World) (h : Kd.R k71 71 w base okm v ms) (hl : ms.length ≤ 1048576) :
  Calls Try.prog 72 #[v, .func (.func 73) #[] #[]] w (DelRetA base okm w v ms) := by
 rcases Nat.eq_zero_or_pos ms.length with h0 | h0
 ·have e0 : ms = [] := List.eq_nil_of_length_eq_zero h0
  subst e0
  obtain ⟨A, c, rfl⟩ := Kd.R_slice h
  have hC := (Kd.R_reads' h).2.2
  have HR := Aside0.mk h
  have eg := enters_of Try.func73 (Z24) rfl
  clear h h0 hl
  go_enter Try.func72, Try.ntmps72
  go_wp2_with fail
  refine (delIndex A c [] w hC (Z124)).mono ?_
  rintro e w1 ⟨rfl, hb1⟩
  have HR1 := Aside0.mk (Kd.R_below HR.out hb1)
  have HK1 := Aside0.mk (KeptA.of_below hb1 (fun k => (Value.slice A ([] : List S71).length c).ownBlock = some k))
  have e1 : idxD [] 0 = -1 := rfl
  rw [e1]
  clear hC hb1 e1
  go_wp2
  go_ret
  exact ⟨_, rfl, HR1.out, HK1.out⟩
 ·obtain ⟨g, c, rfl, -, -, -⟩ := Kd.R_form h h0
  refine (mails_delete base okm g ms.length c ms w h hl).mono fun e w' ⟨v1, he, hr, hk⟩ => ⟨v1, he, hr, hk.mono fun k hk => by rw [hk]; simp [Value.ownBlock]⟩
section
variable {base g n cap i : Nat} {ok oki : Nat → Prop} {W w1 : World} {xs : List S59} {b : S59} {vM vK v1 : Value}
/-- Its mails are fewer, and lie in its cell. -/
theorem lent_fewer {ms : List S71} (hi : i < n) (h1 : ∀ k, W.heap.size ≤ k → oki k) (h2 : ¬ oki g) (hH : Kd.H k59 59 W base ok (.slice (some ⟨g, 0, none⟩) n cap) xs (i : Int) oki [.string b.f0, .int .i64 b.f1, .int .i64 b.f2, vM, vK])
  (h3 : Kd.R k71 71 W base oki vM b.f3) (h4 : Kd.R Kd.string 9 W base oki vK b.f4) (hk : KeptA W w1 (fun k => vM.ownBlock = some k)) (h3' : Kd.R k71 71 w1 base oki v1 ms) :
  Lent base ok (w1.setCell ⟨g, i * 5 + 3, none⟩ v1) g n cap xs i ⟨b.f0, b.f1, b.f2, ms, b.f4⟩ v1 vK := by
 have hH1 := Kd.H_step hH (fun k _ hn hlt => hk.2 k hlt (fun e => hn (h3.1 k e)))
 have h41 : Kd.R Kd.string 9 w1 base oki vK b.f4 := Kd.R_mono (Kd.R_step (Kd.R_apart' h4 (Kd.R_typed h3) (Z79)) (fun k hk' hlt => hk.2 k hlt (fun e => hk'.2 e.symm))) (fun _ h => h.1)
 obtain ⟨hH', hg'⟩ := Kd.H_seg hH1 (Z43) (Z43) (seg := [v1]) (j := 3) (show 4 ≤ 5 by decide) (by simpa using (Kd.R_val h3').2)
 have hs : k59.sz = 5 := rfl
 rw [hs, Int.toNat_natCast] at hH' hg'
 have hne : ∀ k, oki k → some k ≠ some g := fun k hk e => h2 (by injection e with e; rwa [e] at hk)
 have hz := hk.1
 exact ⟨hi, oki, fun k hk => h1 k (by have h_ : (w1.setCell ⟨g, i * 5 + 3, none⟩ v1).heap.size = w1.heap.size := (Z124); omega), h2, hH', Kd.R_grown h3' hg' hne, Kd.R_grown h41 hg' hne⟩
end
theorem idxN_lt (u : ByteArray) : ∀ (l : List S59) (i : Nat), idxN u l i < 0 ∨ ∃ k : Nat, idxN u l i = k ∧ i ≤ k ∧ k < i + l.length
 | [], i => .inl (by simp [idxN])
 | m :: r, i => by
  unfold idxN
  by_cases h : m.f0.toList = u.toList
  ·rw [if_pos h]; exact .inr ⟨i, rfl, Nat.le_refl _, Z124⟩
  ·rw [if_neg h]
   rcases idxN_lt u r (i + 1) with h1 | ⟨k, h1, h2, h3⟩
   ·exact .inl (by simpa using h1)
   ·exact .inr ⟨k, by simpa using h1, Z43, by simp; omega⟩
/-- What a mutation does to boxes, and its code (with one that is no 0 the boxes may be spoilt). -/
def mutL (xs : List S59) (kind uid mode flags : Int) (nm : ByteArray) (its : List S86) : List S59 × Int :=
 if kind = 1 then (if 0 ≤ idxN nm xs 0 then (xs, 9) else if xs.length = 4 then (xs, 7) else (xs ++ [⟨nm, (xs.length : Int) + 1, 1, [], []⟩], 0))
 else if idxN nm xs 0 < 0 then (xs, 5)
 else if kind = 2 then (xs.set (idxN nm xs 0).toNat (addL (rd_T59 xs (idxN nm xs 0)) its).1, (addL (rd_T59 xs (idxN nm xs 0)) its).2)
 else if kind = 3 then (xs.set (idxN nm xs 0).toNat (flagsL (rd_T59 xs (idxN nm xs 0)) uid mode flags).1, (flagsL (rd_T59 xs (idxN nm xs 0)) uid mode flags).2)
 else (xs.set (idxN nm xs 0).toNat ⟨(rd_T59 xs (idxN nm xs 0)).f0, (rd_T59 xs (idxN nm xs 0)).f1, (rd_T59 xs (idxN nm xs 0)).f2, (rd_T59 xs (idxN nm xs 0)).f3.filter (fun x => !delB x), (rd_T59 xs (idxN nm xs 0)).f4⟩, 0)
/-- What mutate leaves. -/
def MutRet (base : Nat) (ok : Nat → Prop) (w : World) (q : List S59 × Int) (e : Ending) (w' : World) : Prop :=
 ∃ v, e = .returned (.tuple #[v, .int .i64 q.2]) ∧ Kd.S k59 59 w' base ok v q.1 ∧ KeptA w w' ok
set_option maxHeartbeats 16000000 in
set_option maxRecDepth 100000 in
theorem i_mutate (base : Nat) (ok : Nat → Prop) (v : Value) (xs : List S59) (kind uid mode flags : Int) (nm : ByteArray) (A : Option Addr) (c : Nat) (l : List S86) (w : World) (hS : Kd.S k59 59 w base ok v xs) (hbase : base ≤ w.heap.size) (hnew : ∀ k, w.heap.size ≤ k → ok k)
  (hit : ∀ W', KeptA w W' ok → Kd.C k86 W' A l.length l) (hX : xs.length ≤ 1048576) (hM : ∀ b ∈ xs, b.f3.length ≤ 1048576 ∧ b.f4.length ≤ 1048576) (hl : l.length ≤ 1048576) :
  Calls Try.prog 41 #[v, .agg #[.int .i64 kind, .int .i64 uid, .int .i64 mode, .int .i64 flags, .string nm, .slice A l.length c]] w (MutRet base ok w (mutL xs kind uid mode flags nm l)) := by
 obtain ⟨A0, c0, rfl⟩ := Kd.S_slice hS
 have HS := Aside0.mk (Kd.S_alloc hS (.cells #[.int .i64 kind, .int .i64 uid, .int .i64 mode, .int .i64 flags, .string nm, .slice A l.length c] 65))
 have BX := Aside0.mk (show (w.alloc (.cells #[.int .i64 kind, .int .i64 uid, .int .i64 mode, .int .i64 flags, .string nm, .slice A l.length c] 65)).heap[w.heap.size]? = some (.cells #[.int .i64 kind, .int .i64 uid, .int .i64 mode, .int .i64 flags, .string nm, .slice A l.length c] 65 (0, 0)) from by simpa using heap_alloc_new w _)
 have HK := Aside0.mk ((KeptA.refl w ok).alloc (.cells #[.int .i64 kind, .int .i64 uid, .int .i64 mode, .int .i64 flags, .string nm, .slice A l.length c] 65))
 have HZ := Aside0.mk (show w.heap.size ≤ (w.alloc (.cells #[.int .i64 kind, .int .i64 uid, .int .i64 mode, .int .i64 flags, .string nm, .slice A l.length c] 65)).heap.size from by simp)
 have HIT := Aside0.mk hit
 have HM := Aside0.mk hM
 clear hS hit hM
 go_enter Try.func41, Try.ntmps41
 go_upto_region 1 with (fail)
 generalize hW1 : w.alloc (.cells #[.int .i64 kind, .int .i64 uid, .int .i64 mode, .int .i64 flags, .string nm, .slice A l.length c] 65) = W1 at HS BX HK HZ ⊢
 clear hW1
 generalize hx0 : w.heap.size = x0 at BX ⊢
 have HX0 := Aside0.mk hx0
 clear hx0
 have y4 : W1.cell? ⟨x0, 4, none⟩ = some (.string nm) := (blk_cell BX.out 4).trans rfl
 go_wp2_with fail
 refine (impl_boxIndex.calls A0 c0 xs nm (idxN nm xs 0) W1 (Kd.S_reads' HS.out).2.2 (Kd.S_reads' HS.out).2.1 (if_pos (Z43))).mono ?_
 rintro e w2 ⟨rfl, hb2⟩
 have HS2 := Aside0.mk (Kd.S_below HS.out hb2)
 have HK2 := Aside0.mk (HK.out.below hb2)
 have BX2 := Aside0.mk (blk_below BX.out hb2)
 have HZ2 := Aside0.mk (show w.heap.size ≤ w2.heap.size from Nat.le_trans HZ.out hb2.size)
 clear HS HK BX HZ y4 hb2
 have y0 : w2.cell? ⟨x0, 0, none⟩ = some (.int .i64 kind) := (blk_cell BX2.out 0).trans rfl
 have y1 : w2.cell? ⟨x0, 1, none⟩ = some (.int .i64 uid) := (blk_cell BX2.out 1).trans rfl
 have y2 : w2.cell? ⟨x0, 2, none⟩ = some (.int .i64 mode) := (blk_cell BX2.out 2).trans rfl
 have y3 : w2.cell? ⟨x0, 3, none⟩ = some (.int .i64 flags) := (blk_cell BX2.out 3).trans rfl
 have y4 : w2.cell? ⟨x0, 4, none⟩ = some (.string nm) := (blk_cell BX2.out 4).trans rfl
 have y5 : w2.cell? ⟨x0, 5, none⟩ = some (.slice A l.length c) := (blk_cell BX2.out 5).trans rfl
 by_cases k1 : kind = 1
 ·have t1 : (kind == 1) = true := beq_iff_eq.mpr k1
  by_cases hn : 0 ≤ idxN nm xs 0
  ·have tn : decide (0 ≤ idxN nm xs 0) = true := decide_eq_true hn
   have E := Aside0.mk (by unfold mutL; rw [if_pos k1, if_pos hn] : mutL xs kind uid mode flags nm l = (xs, 9))
   clear k1 hn
   go_wp2
   go_ret2
   exact ⟨_, (Z147), by rw [E.out]; exact HS2.out, HK2.out⟩
  have tn : decide (0 ≤ idxN nm xs 0) = false := decide_eq_false hn
  by_cases h4 : xs.length = 4
  ·have t4 : ((xs.length : Int) == 4) = true := beq_iff_eq.mpr (Z43)
   have E := Aside0.mk (by unfold mutL; rw [if_pos k1, if_neg hn, if_pos h4] : mutL xs kind uid mode flags nm l = (xs, 7))
   clear k1 hn h4
   go_wp2
   go_ret2
   exact ⟨_, (Z147), by rw [E.out]; exact HS2.out, HK2.out⟩
  have t4 : ((xs.length : Int) == 4) = false := beq_eq_false_iff_ne.mpr (Z43)
  have E := Aside0.mk (by unfold mutL; rw [if_pos k1, if_neg hn, if_neg h4] : mutL xs kind uid mode flags nm l = (xs ++ [⟨nm, (xs.length : Int) + 1, 1, [], []⟩], 0))
  clear k1 hn h4
  go_wp2_with (at_builtin; refine Kd.S_append k59 base rfl (.tmp 24) (.tmp 31) 30 59 (.agg #[.string ⟨#[]⟩, .int .i64 0, .int .i64 0, .slice none 0 0, .slice none 0 0]) 80 rfl Try.underlying30 info59 rfl (Z79) (Z43) (.slice A0 xs.length c0) xs (⟨nm, (xs.length : Int) + 1, 1, [], []⟩ : S59) [.string nm, .int .i64 ((xs.length : Int) + 1), .int .i64 1, .slice none 0 0, .slice none 0 0] ok (fun _ => False) rfl rfl (k59_mkM _ _ _ _ (Kd.R_nil _ _ _ _ _) (Kd.R_nil _ _ _ _ _)) (fun _ h => h.elim) (fun k hk => hnew k (Nat.le_trans HZ2.out hk)) (Kd.S_mono HS2.out (fun k hk => ⟨hk, fun h => h⟩)) (Below.refl _ _) (Nat.le_trans hbase HZ2.out) (Z43) ?_; intro v1 w3 hs hb hg hat)
  go_ret2
  exact ⟨_, (Z147), by rw [E.out]; exact hs, KeptA.of_grown hg HK2.out (fun k e => .inl ((Kd.S_R HS2.out).1 k e))⟩
 have t1 : (kind == 1) = false := beq_eq_false_iff_ne.mpr k1
 rcases idxN_lt nm xs 0 with hn | ⟨k, hk, -, hkl⟩
 ·have hn : idxN nm xs 0 < 0 := by simpa using hn
  have tn : decide (idxN nm xs 0 < 0) = true := decide_eq_true hn
  have E := Aside0.mk (by unfold mutL; rw [if_neg k1, if_pos hn] : mutL xs kind uid mode flags nm l = (xs, 5))
  clear k1 hn
  go_wp2
  go_ret2
  exact ⟨_, (Z147), by rw [E.out]; exact HS2.out, HK2.out⟩
 have hk : idxN nm xs 0 = (k : Int) := by simpa using hk
 have hkl : k < xs.length := by omega
 have hnn : ¬ idxN nm xs 0 < 0 := by omega
 obtain ⟨b, hb⟩ : ∃ b, rd_T59 xs (k : Int) = b := ⟨_, rfl⟩
 have hbm : b ∈ xs := by rw [← hb, rdBox xs k hkl]; exact List.getElem_mem hkl
 have hbz := HM.out b hbm
 have E0 := Aside0.mk (by unfold mutL; rw [if_neg k1, if_neg hnn, hk, hb, Int.toNat_natCast] : mutL xs kind uid mode flags nm l = if kind = 2 then (xs.set k (addL b l).1, (addL b l).2)
  else if kind = 3 then (xs.set k (flagsL b uid mode flags).1, (flagsL b uid mode flags).2) else (xs.set k ⟨b.f0, b.f1, b.f2, b.f3.filter (fun x => !delB x), b.f4⟩, 0))
 rw [hk]
 obtain ⟨g, cap, eA, -, hgl, -⟩ := Kd.S_form HS2.out (Z43)
 injection eA with eA1 eA2 eA3
 subst eA1; subst eA3
 obtain ⟨vM, vK, hL⟩ := Lent.of_S HS2.out (i := k) hkl (fun q hq => hnew q (Nat.le_trans HZ2.out hq))
 rw [hb] at hL
 have HL := Aside0.mk hL
 have hokg : ok g := (Kd.S_R HS2.out).1 g (by simp [Value.ownBlock])
 have h0 : (0 : Int) ≤ (k : Int) := by omega
 have h1 : (k : Int) < (xs.length : Int) := by omega
 have tn : decide ((k : Int) < 0) = false := decide_eq_false (Z43)
 clear hk hb hbm hnn hL k1
 by_cases k2 : kind = 2
 ·have t2 : (kind == 2) = true := beq_iff_eq.mpr k2
  have E := Aside0.mk (by rw [E0.out, if_pos k2] : mutL xs kind uid mode flags nm l = (xs.set k (addL b l).1, (addL b l).2))
  clear E0 k2
  go_wp2_with fail
  refine (box_add base ok g xs.length _ k xs b vM vK A c l w2 HL.out (Nat.le_trans hbase HZ2.out) hokg (fun W' hk' => HIT.out W' (HK2.out.then_ hk' (fun _ h => .inl h))) hbz.1 hbz.2 hl).mono ?_
  rintro e w3 ⟨vM', vK', rfl, hL3, hK3⟩
  have HL3 := Aside0.mk hL3
  have HK3 := Aside0.mk (HK2.out.then_ hK3 (fun _ h => .inl h))
  clear hL3 hK3
  go_wp2
  go_ret2
  exact ⟨_, (Z147), by rw [E.out]; exact HL3.out.back, HK3.out⟩
 have t2 : (kind == 2) = false := beq_eq_false_iff_ne.mpr k2
 by_cases k3 : kind = 3
 ·have t3 : (kind == 3) = true := beq_iff_eq.mpr k3
  have E := Aside0.mk (by rw [E0.out, if_neg k2, if_pos k3] : mutL xs kind uid mode flags nm l = (xs.set k (flagsL b uid mode flags).1, (flagsL b uid mode flags).2))
  clear E0 k2 k3
  go_wp2_with fail
  refine (box_flags base ok g xs.length _ k xs b vM vK kind uid mode flags nm (.slice A l.length c) w2 HL.out (fun q hq => hnew q (Nat.le_trans HZ2.out hq)) hbz.1 ⟨_, _, _, rfl⟩).mono ?_
  rintro e w3 ⟨vM', vK', rfl, hL3, hK3⟩
  have HL3 := Aside0.mk hL3
  have HK3 := Aside0.mk (HK2.out.then_ hK3 (fun _ h => .inl h))
  clear hL3 hK3
  go_wp2
  go_ret2
  exact ⟨_, (Z147), by rw [E.out]; exact HL3.out.back, HK3.out⟩
 have t3 : (kind == 3) = false := beq_eq_false_iff_ne.mpr k3
 have E := Aside0.mk (by rw [E0.out, if_neg k2, if_neg k3] : mutL xs kind uid mode flags nm l = (xs.set k ⟨b.f0, b.f1, b.f2, b.f3.filter (fun x => !delB x), b.f4⟩, 0))
 clear E0 k2 k3
 obtain ⟨hin, oki, p1, p2, pH, p3, p4⟩ := HL.out
 have HP := Aside0.mk (And.intro p1 (And.intro p2 (And.intro pH (And.intro p3 p4))))
 obtain ⟨-, -, -, z3, -⟩ := HL.out.cells
 have hf3 := HL.out.frozen (k * 5 + 3)
 have hgl2 := HL.out.lt
 clear p1 p2 pH p3 p4
 go_wp2_with fail
 refine (mails_delete_any base oki vM b.f3 w2 HP.out.2.2.2.1 hbz.1).mono ?_
 rintro e w3 ⟨v1, rfl, hR3, hK3⟩
 have hgne : ¬ vM.ownBlock = some g := fun e => HP.out.2.1 (HP.out.2.2.2.1.1 g e)
 have hgb := hK3.2 g hgl2 hgne
 have z3' : w3.cell? ⟨g, k * 5 + 3, none⟩ = some vM := (World.cell?_of_block (w := w2) hgb).trans z3
 have hf3' : w3.frozen? ⟨g, k * 5 + 3, none⟩ = false := by rw [← hf3]; unfold World.frozen?; rw [hgb]
 have HL3 := Aside0.mk (lent_fewer hin HP.out.1 HP.out.2.1 HP.out.2.2.1 HP.out.2.2.2.1 HP.out.2.2.2.2 hK3 hR3)
 have HK3 := Aside0.mk (KeptA.setCell (p := ⟨g, k * 5 + 3, none⟩) (HK2.out.then_ hK3 (fun q hq => .inl (HP.out.2.2.1.1 q (HP.out.2.2.2.1.1 q hq)))) (.inl hokg) v1)
 obtain ⟨A1, c1, hv1⟩ := Kd.R_slice hR3
 subst hv1
 clear hR3 hK3 hgb z3 hf3
 go_wp2
 go_ret2
 exact ⟨_, (Z147), by rw [E.out]; exact HL3.out.back, HK3.out⟩

end Go.Proofs.Ytbikfhccfenkdaa.PFnExactEngineOK
