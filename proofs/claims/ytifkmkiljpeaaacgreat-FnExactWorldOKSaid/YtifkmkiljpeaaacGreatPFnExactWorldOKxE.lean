import Derived.Test.YtifkmkiljpeaaacGreatPFnExactWorldOKxA
import Derived.Test.YtifkmkiljpeaaacGreatPFnExactWorldOKxC
import Derived.Test.YtifkmkiljpeaaacGreatPFnExactWorldOKxB
set_option maxHeartbeats 40000000
set_option maxRecDepth 100000
namespace Go.Proofs.YtifkmkiljpeaaacGreat.PFnExactWorldOK
open Go.RowKit Go.Proofs.YtifkmkiljpeaaacGreatW.PrintWords Go.Proofs.YtifkmkiljpeaaacGreatW.PrintLast Go.Proofs.YtifkmkiljpeaaacGreatW.PrintMore Go.Proofs.YtifkmkiljpeaaacGreat.Mac Go.Proofs.Tryz
set_option linter.unusedVariables false
set_option linter.unusedSimpArgs false
structure KeptA (w W : World) (S : Nat → Prop) : Prop where
 size : w.heap.size ≤ W.heap.size
 block : ∀ i, i < w.heap.size → ¬ S i → W.heap[i]? = w.heap[i]?
 os : W.os = w.os
 tape : W.tape = w.tape
 output : W.output = w.output
section
variable {w W W2 : World} {S S2 S' : Nat → Prop}
theorem KeptA.refl (w : World) (S : Nat → Prop) : KeptA w w S := ⟨Nat.le_refl _, fun _ _ _ => rfl, rfl, rfl, rfl⟩
theorem KeptA.of_below (h : Below w.heap.size w W) (S : Nat → Prop) : KeptA w W S := ⟨h.size, fun i hi _ => h.block i hi, h.os, h.tape, h.output⟩
theorem KeptA.mono (h : KeptA w W S) (hs : ∀ k, S k → S' k) : KeptA w W S' := ⟨h.1, fun i hi hn => h.2 i hi (fun hk => hn (hs i hk)), h.os, h.tape, h.output⟩
theorem KeptA.then_ (h : KeptA w W S) (k : KeptA W W2 S2) (hs : ∀ k, S2 k → S k ∨ w.heap.size ≤ k) : KeptA w W2 S :=
 ⟨Nat.le_trans h.1 k.1, fun i hi hn => (k.2 i (Nat.lt_of_lt_of_le hi h.1) (fun h2 => (hs i h2).elim hn (fun s => by omega))).trans (h.2 i hi hn), k.os.trans h.os, k.tape.trans h.tape, k.output.trans h.output⟩
theorem KeptA.of_grown {row : Option Nat} (hg : W.grownBy W2 row) (h : KeptA w W S) (hr : ∀ k, row = some k → S k ∨ w.heap.size ≤ k) : KeptA w W2 S :=
 h.then_ (S2 := fun k => row = some k) ⟨hg.size, fun i hi hn => hg.block i hi (fun he => hn he.symm), hg.os, hg.tape, hg.output⟩ hr
theorem KeptA.below (h : KeptA w W S) (hb : Below W.heap.size W W2) : KeptA w W2 S := h.then_ (KeptA.of_below hb (fun _ => False)) (fun _ hk => hk.elim)
theorem KeptA.alloc (h : KeptA w W S) (o : Obj) : KeptA w (W.alloc o) S := h.below (below_alloc (Below.refl _ _) o)
theorem KeptA.drew (h : KeptA w W S) : KeptA w W.drew S := ⟨h.size, h.block, h.os, h.tape, h.output⟩
theorem KeptA.drewN (h : KeptA w W S) (m : Nat) : KeptA w (W.drewN m) S := ⟨h.size, h.block, h.os, h.tape, h.output⟩
theorem KeptA.setCell (h : KeptA w W S) {p : Addr} (hp : S p.block ∨ w.heap.size ≤ p.block) (u : Value) : KeptA w (W.setCell p u) S :=
 h.then_ (S2 := fun k => k = p.block) ⟨by simp [World.setCell], fun i _ hn => Below.heap_setCell W p u i hn, rfl, rfl, rfl⟩ (fun k hk => by rw [hk]; exact hp)
theorem KeptA.is_below {N : Nat} (h : KeptA w W S) (hN : N ≤ w.heap.size) (hS : ∀ k, S k → N ≤ k) : Below N w W :=
 ⟨h.os, h.tape, h.output, h.size, fun k hk => h.block k (Z42) (fun hs => by have := hS k hs; omega)⟩
end
def hasB (l : List ByteArray) (x : ByteArray) : Bool := l.any (fun y => decide (y = x))
theorem hasB_cons (a : ByteArray) (l : List ByteArray) (x : ByteArray) : hasB (a :: l) x = (decide (a = x) || hasB l x) := rfl
theorem toList_inj {a b : ByteArray} : a.toList = b.toList ↔ a = b := by
 constructor
 ·intro h; rw [ByteArray.toList_eq, ByteArray.toList_eq] at h; rw [← bs_of a, ← bs_of b, h]
 ·rintro rfl; rfl
theorem hasS_ev (l : List ByteArray) (x : ByteArray) (hl : l.length ≤ 1099511627776) : Ev (fun k => spec_l06Has.f k l x) (hasB l x) := by
 have loop : ∀ (m i : Nat), i + m = l.length → Ev (fun k => spec_l06Has.l0 k l x i) (hasB (l.drop i) x) := by
  intro m
  induction m with
  | zero => intro i hi; rw [List.drop_of_length_le (Z42)]; exact Ev.step (fun _ => spec_l06Has.l0.eq_2 ..) (ev_neg (Z42) (ev_some rfl))
  | succ m ih =>
   intro i hi
   have hlt : i < l.length := by omega
   refine Ev.step (fun _ => spec_l06Has.l0.eq_2 ..) (ev_pos (Z42) (ev_pos (Z42) ?_))
   rw [rdOf_nat _ l i hlt, List.drop_eq_getElem_cons hlt, w64n (Z42)]
   by_cases h : l[i] = x
   ·exact ev_pos (toList_inj.mpr h) (ev_some (by rw [hasB_cons, decide_eq_true h]; rfl))
   ·refine ev_neg (fun e => h (toList_inj.mp e)) (ev_to ?_ (ih (i + 1) (Z42)))
    rw [hasB_cons, decide_eq_false h, Bool.false_or]
 unfold spec_l06Has.f
 exact loop l.length 0 (Z42)
theorem hasI_ev (l : List ByteArray) (x : ByteArray) (hl : l.length ≤ 1099511627776) : Ev (fun k => slices_Contains_string_string.f k l x) (hasB l x) := by
 have loop : ∀ (m i : Nat), i + m = l.length → ∃ r : Int, Ev (fun k => slices_Index_string_string.l0 k l x (l.length : Int) i) r ∧ decide (r ≥ 0) = hasB (l.drop i) x := by
  intro m
  induction m with
  | zero => intro i hi; rw [List.drop_of_length_le (Z42)]; exact ⟨-1, Ev.step (fun _ => slices_Index_string_string.l0.eq_2 ..) (ev_neg (Z42) (ev_some rfl)), rfl⟩
  | succ m ih =>
   intro i hi
   have hlt : i < l.length := by omega
   rw [List.drop_eq_getElem_cons hlt]
   by_cases h : l[i] = x
   ·refine ⟨i, Ev.step (fun _ => slices_Index_string_string.l0.eq_2 ..) (ev_pos (Z42) (ev_pos (Z42) (ev_pos (Z42) ?_))), ?_⟩
    ·rw [rdOf_nat _ l i hlt]
     exact ev_pos (toList_inj.mpr h.symm) (ev_some rfl)
    ·rw [decide_eq_true (by omega : (i : Int) ≥ 0), hasB_cons, decide_eq_true h]; rfl
   ·obtain ⟨r, h1, h2⟩ := ih (i + 1) (Z42)
    refine ⟨r, Ev.step (fun _ => slices_Index_string_string.l0.eq_2 ..) (ev_pos (Z42) (ev_pos (Z42) (ev_pos (Z42) ?_))), ?_⟩
    ·rw [rdOf_nat _ l i hlt, w64n (Z42)]
     exact ev_neg (fun e => h (toList_inj.mp e).symm) h1
    ·rw [h2, hasB_cons, decide_eq_false h, Bool.false_or]
 obtain ⟨r, h1, h2⟩ := loop l.length 0 (Z42)
 unfold slices_Contains_string_string.f slices_Index_string_string.f
 exact Ev.bind h1 (ev_some (by rw [h2, List.drop_zero]))
def Lent (base : Nat) (ok : Nat → Prop) (w : World) (g n cap : Nat) (xs : List S98) (i : Nat) (b : S98) (vM vK : Value) : Prop :=
 i < n ∧ ∃ oki : Nat → Prop, (∀ k, w.heap.size ≤ k → oki k) ∧ ¬ oki g ∧ Kd.H k98 98 w base ok (.slice (some ⟨g, 0, none⟩) n cap) xs (i : Int) oki [.string b.f0, .int .i64 b.f1, .int .i64 b.f2, vM, vK] ∧
  Kd.R k109 109 w base oki vM b.f3 ∧ Kd.R Kd.string 9 w base oki vK b.f4
section
variable {base g n cap i : Nat} {ok : Nat → Prop} {w w1 : World} {xs : List S98} {b : S98} {vM vK : Value}
theorem Lent.of_S (h : Kd.S k98 98 w base ok (.slice (some ⟨g, 0, none⟩) n cap) xs) (hi : i < n) (hnew : ∀ k, w.heap.size ≤ k → ok k) : ∃ vM vK, Lent base ok w g n cap xs i (rd_T98 xs (i : Int)) vM vK := by
 obtain ⟨oki, c, hcl, hM, hcc, hoki, hH⟩ := Kd.S_lend h z98 (i : Int) (Z42) (Z42)
 obtain ⟨vM, vK, rfl, s, y⟩ := k98_openM hM
 have hlt : g < w.heap.size := Kd.S_lt h g (by simp [Value.ownBlock])
 refine ⟨vM, vK, hi, fun k => oki k ∨ ok k ∧ w.heap.size ≤ k, fun k hk => .inr ⟨hnew k hk, hk⟩, fun hk => hk.elim (fun h => (hoki g h).2 rfl) (fun h => by omega), Kd.H_widen hH, Kd.R_mono s (fun _ h => .inl h), Kd.R_mono y (fun _ h => .inl h)⟩
theorem Lent.back (h : Lent base ok w g n cap xs i b vM vK) : Kd.S k98 98 w base ok (.slice (some ⟨g, 0, none⟩) n cap) (xs.set i b) := by
 obtain ⟨hi, oki, h1, h2, hH, s, y⟩ := h
 have := Kd.H_back hH (x' := b) (k98_mkM _ _ _ b s y) (fun _ h => h)
 simpa using this
theorem Lent.cells (h : Lent base ok w g n cap xs i b vM vK) : w.cell? ⟨g, i * 5, none⟩ = some (.string b.f0) ∧ w.cell? ⟨g, i * 5 + 1, none⟩ = some (.int .i64 b.f1) ∧ w.cell? ⟨g, i * 5 + 2, none⟩ = some (.int .i64 b.f2) ∧ w.cell? ⟨g, i * 5 + 3, none⟩ = some vM ∧ w.cell? ⟨g, i * 5 + 4, none⟩ = some vK := by
 obtain ⟨hi, oki, h1, h2, hH, s, y⟩ := h
 obtain ⟨rows, _, _, _, _, hcc, _⟩ := Kd.H_raw hH (Z42) (Z42)
 have hs : k98.sz = 5 := rfl
 rw [hs, Int.toNat_natCast] at hcc
 exact ⟨hcc 0 _ rfl, hcc 1 _ rfl, hcc 2 _ rfl, hcc 3 _ rfl, hcc 4 _ rfl⟩
theorem Lent.frozen (h : Lent base ok w g n cap xs i b vM vK) (o : Nat) : w.frozen? ⟨g, o, none⟩ = false := by
 obtain ⟨hi, oki, h1, h2, ⟨_, f, hR⟩, s, y⟩ := h
 obtain ⟨cells, hc⟩ := Kd.R_typed hR g (by simp [Value.ownBlock])
 exact blk_frozen hc o
theorem Lent.lt (h : Lent base ok w g n cap xs i b vM vK) : g < w.heap.size := by
 obtain ⟨hi, oki, h1, h2, ⟨_, f, hR⟩, s, y⟩ := h
 exact Kd.R_lt hR g (by simp [Value.ownBlock])
theorem Lent.mails (h : Lent base ok w g n cap xs i b vM vK) : ∃ A c, vM = .slice A b.f3.length c ∧ b.f3.length ≤ c ∧ Kd.C k109 w A b.f3.length b.f3 := by
 obtain ⟨hi, oki, h1, h2, hH, s, y⟩ := h
 exact Kd.R_reads s
theorem Lent.keys (h : Lent base ok w g n cap xs i b vM vK) : ∃ A c, vK = .slice A b.f4.length c ∧ b.f4.length ≤ c ∧ Kd.C Kd.string w A b.f4.length b.f4 := by
 obtain ⟨hi, oki, h1, h2, hH, y, s⟩ := h
 exact Kd.R_reads s
theorem Lent.below (h : Lent base ok w g n cap xs i b vM vK) (hb : Below w.heap.size w w1) : Lent base ok w1 g n cap xs i b vM vK := by
 obtain ⟨hi, oki, h1, h2, hH, s, y⟩ := h
 exact ⟨hi, oki, fun k hk => h1 k (Nat.le_trans hb.size hk), h2, Kd.H_below hH hb, Kd.R_below s hb, Kd.R_below y hb⟩
theorem Lent.setNext (h : Lent base ok w g n cap xs i b vM vK) (x : Int) : Lent base ok (w.setCell ⟨g, i * 5 + 2, none⟩ (.int .i64 x)) g n cap xs i ⟨b.f0, b.f1, x, b.f3, b.f4⟩ vM vK := by
 obtain ⟨hi, oki, h1, h2, hH, s, y⟩ := h
 obtain ⟨hH', hg⟩ := Kd.H_seg hH (Z42) (Z42) (seg := [.int .i64 x]) (j := 2) (show 3 ≤ 5 by decide) (by simp [Value.oneCell'])
 have hs : k98.sz = 5 := rfl
 rw [hs, Int.toNat_natCast] at hH' hg
 have hne : ∀ k, oki k → some k ≠ some g := fun k hk e => h2 (by injection e with e; rwa [e] at hk)
 exact ⟨hi, oki, fun k hk => h1 k (by simpa using hk), h2, hH', Kd.R_grown s hg hne, Kd.R_grown y hg hne⟩
end
section
variable {base g n cap i : Nat} {ok oki : Nat → Prop} {W w1 : World} {xs : List S98} {b : S98} {vM vK v1 : Value}
theorem lent_mails {ms : List S109} (hi : i < n) (h1 : ∀ k, W.heap.size ≤ k → oki k) (h2 : ¬ oki g) (hH : Kd.H k98 98 W base ok (.slice (some ⟨g, 0, none⟩) n cap) xs (i : Int) oki [.string b.f0, .int .i64 b.f1, .int .i64 b.f2, vM, vK])
  (s : Kd.R k109 109 W base oki vM b.f3) (y : Kd.R Kd.string 9 W base oki vK b.f4) (hg : W.grownBy w1 vM.ownBlock) (s' : Kd.R k109 109 w1 base oki v1 ms) :
  Lent base ok (w1.setCell ⟨g, i * 5 + 3, none⟩ v1) g n cap xs i ⟨b.f0, b.f1, b.f2, ms, b.f4⟩ v1 vK := by
 have D := Kd.H_grown hH hg (fun k hk => s.1 k hk)
 have I := Kd.R_over y s (Z101) hg
 obtain ⟨hH', hg'⟩ := Kd.H_seg D (Z42) (Z42) (seg := [v1]) (j := 3) (show 4 ≤ 5 by decide) (by simpa using (Kd.R_val s').2)
 have hs : k98.sz = 5 := rfl
 rw [hs, Int.toNat_natCast] at hH' hg'
 have hne : ∀ k, oki k → some k ≠ some g := fun k hk e => h2 (by injection e with e; rwa [e] at hk)
 have hz := hg.size
 exact ⟨hi, oki, fun k hk => h1 k (by have h_ : (w1.setCell ⟨g, i * 5 + 3, none⟩ v1).heap.size = w1.heap.size := (Z174); omega), h2, hH', Kd.R_grown s' hg' hne, Kd.R_grown I hg' hne⟩
theorem lent_keys {ks : List ByteArray} (hi : i < n) (h1 : ∀ k, W.heap.size ≤ k → oki k) (h2 : ¬ oki g) (hH : Kd.H k98 98 W base ok (.slice (some ⟨g, 0, none⟩) n cap) xs (i : Int) oki [.string b.f0, .int .i64 b.f1, .int .i64 b.f2, vM, vK])
  (y : Kd.R k109 109 W base oki vM b.f3) (s : Kd.R Kd.string 9 W base oki vK b.f4) (hg : W.grownBy w1 vK.ownBlock) (s' : Kd.R Kd.string 9 w1 base oki v1 ks) :
  Lent base ok (w1.setCell ⟨g, i * 5 + 4, none⟩ v1) g n cap xs i ⟨b.f0, b.f1, b.f2, b.f3, ks⟩ vM v1 := by
 have D := Kd.H_grown hH hg (fun k hk => s.1 k hk)
 have I := Kd.R_over y s (Z101) hg
 obtain ⟨hH', hg'⟩ := Kd.H_seg D (Z42) (Z42) (seg := [v1]) (j := 4) (show 5 ≤ 5 by decide) (by simpa using (Kd.R_val s').2)
 have hs : k98.sz = 5 := rfl
 rw [hs, Int.toNat_natCast] at hH' hg'
 have hne : ∀ k, oki k → some k ≠ some g := fun k hk e => h2 (by injection e with e; rwa [e] at hk)
 have hz := hg.size
 exact ⟨hi, oki, fun k hk => h1 k (by have h_ : (w1.setCell ⟨g, i * 5 + 4, none⟩ v1).heap.size = w1.heap.size := (Z174); omega), h2, hH', Kd.R_grown I hg' hne, Kd.R_grown s' hg' hne⟩
theorem grown_cell {row : Option Nat} (hg : W.grownBy w1 row) (hlt : g < W.heap.size) (hne : some g ≠ row) (o : Nat) : w1.cell? ⟨g, o, none⟩ = W.cell? ⟨g, o, none⟩ ∧ w1.frozen? ⟨g, o, none⟩ = W.frozen? ⟨g, o, none⟩ := by
 have := hg.block g hlt hne
 exact ⟨World.cell?_of_block (w := W) this, by unfold World.frozen?; rw [this]⟩
end
def BoxRet (base : Nat) (ok : Nat → Prop) (w : World) (g n cap i : Nat) (xs : List S98) (q : S98 × Int) (e : Ending) (w' : World) : Prop :=
 ∃ vM vK, e = .returned (.int .i64 q.2) ∧ Lent base ok w' g n cap xs i q.1 vM vK ∧ KeptA w w' ok
section
variable {base g n cap i : Nat} {ok : Nat → Prop} {w : World} {xs : List S98} {b : S98} {vM vK : Value}
theorem Lent.form (h : Lent base ok w g n cap xs i b vM vK) (hp : 0 < b.f3.length) : ∃ gm c, vM = .slice (some ⟨gm, 0, none⟩) b.f3.length c ∧ gm < w.heap.size ∧ gm ≠ g ∧ ok gm := by
 obtain ⟨hi, oki, h1, h2, hH, s, y⟩ := h
 obtain ⟨gm, c, e, -, hlt, -⟩ := Kd.R_form s hp
 have ho : oki gm := s.1 gm (by rw [e]; simp [Value.ownBlock])
 exact ⟨gm, c, e, hlt, fun e => h2 (e ▸ ho), hH.1 gm ho⟩
theorem Lent.mail {gm c : Nat} (h : Lent base ok w g n cap xs i b (.slice (some ⟨gm, 0, none⟩) b.f3.length c) vK) (k : Nat) (hk : k < b.f3.length) :
  w.cell? ⟨gm, k * 3, none⟩ = some (.int .i64 b.f3[k].f0) ∧ w.cell? ⟨gm, k * 3 + 1, none⟩ = some (.int .i64 b.f3[k].f1) ∧ w.cell? ⟨gm, k * 3 + 2, none⟩ = some (.string b.f3[k].f2) ∧ ∀ j, w.frozen? ⟨gm, k * 3 + j, none⟩ = false := by
 obtain ⟨hi, oki, h1, h2, hH, s, y⟩ := h
 obtain ⟨ce, hcl, hM, hcc, hfr⟩ := Kd.R_elem s z109 (k : Int) (Z42) (Z42)
 have hg : b.f3.getD (k : Int).toNat z109 = b.f3[k] := by simp [List.getD, List.getElem?_eq_getElem hk]
 rw [hg] at hM
 obtain rfl := k109_openM hM
 exact ⟨hcc 0 _ rfl, hcc 1 _ rfl, hcc 2 _ rfl, hfr⟩
end
def addL (b : S98) : List S130 → S98 × Int
 | [] => (b, 0)
 | x :: r => if hasB b.f4 x.f0 then (b, 9) else if b.f4.length = 60 then (b, 17) else if b.f3.length = 30 then (b, 7)
  else addL ⟨b.f0, b.f1, wrap64 (b.f2 + 1), b.f3 ++ [⟨b.f2, 0, x.f1⟩], b.f4 ++ [x.f0]⟩ r
theorem addL_drop (b : S98) (l : List S130) (k : Nat) (h : k < l.length) : addL b (l.drop k) = if hasB b.f4 (rd_T130 l (k : Int)).f0 then (b, 9) else if b.f4.length = 60 then (b, 17) else if b.f3.length = 30 then (b, 7)
  else addL ⟨b.f0, b.f1, wrap64 (b.f2 + 1), b.f3 ++ [⟨b.f2, 0, (rd_T130 l (k : Int)).f1⟩], b.f4 ++ [(rd_T130 l (k : Int)).f0]⟩ (l.drop (k + 1)) := by
 rw [List.drop_eq_getElem_cons h, addL, rdItem l k h]
theorem box_add (base : Nat) (ok : Nat → Prop) (g n cap i : Nat) (xs : List S98) (b : S98) (vM vK : Value) (A : Option Addr) (c : Nat) (l : List S130) (w : World) (HL : Lent base ok w g n cap xs i b vM vK) (hbase : base ≤ w.heap.size) (hokg : ok g)
  (hit : ∀ W', KeptA w W' ok → Kd.C k130 W' A l.length l) (hM : b.f3.length ≤ 1048576) (hK : b.f4.length ≤ 1048576) (hl : l.length ≤ 1048576) :
  Calls prog 103 #[.pointer (some ⟨g, i * 5, none⟩), .slice A l.length c] w (BoxRet base ok w g n cap i xs (addL b l)) := by
 have HIT := aM hit
 have aP := aM HL
 clear hit HL
 go_enter func103, ntmps103
 go_wp2
 go_loopg [6, 9, 13, 21, 28] l.length (fun gg s6 s9 a7 a8 a9 wr => ∃ (kk : Nat) (b' : S98) (vM' vK' : Value), kk ≤ l.length ∧ l.length - kk ≤ gg ∧ s9 = .int .i64 kk ∧ Aside0 (Lent base ok wr g n cap xs i b' vM' vK') ∧ Aside0 (addL b l = addL b' (l.drop kk)) ∧ Aside0 (KeptA w wr ok) ∧ Aside0 (b'.f3.length ≤ 1048576 + kk ∧ b'.f4.length ≤ 1048576 + kk))
 case atStart => exact ⟨0, b, vM, vK, Nat.zero_le _, Z42, rfl, aP, ⟨rfl⟩, ⟨KeptA.refl _ _⟩, ⟨Z42, Z42⟩⟩
 case round =>
  obtain ⟨kk, b', vM', vK', hkk, hgg, rfl, HB, HA, HK, HZ⟩ := hrel
  by_cases hlt : kk < l.length
  ·have hltz : (kk : Int) < (l.length : Int) := by omega
   have h0 : 0 ≤ (kk : Int) := by omega
   obtain ⟨ad, e, aF, hx1⟩ := at_T130 (HIT.out wr HK.out) kk h0 hltz
   cases e
   simp only [Int.toNat_natCast] at aF hx1
   have hstep := aM (addL_drop b' l kk hlt)
   have hgl := HB.out.lt
   obtain ⟨M, c4, rfl, aG, aH⟩ := HB.out.keys
   obtain ⟨U, c3, rfl, aS, aT⟩ := HB.out.mails
   have hq := hasI_ev b'.f4 (rd_T130 l (kk : Int)).f0 (by have := HZ.out; omega)
   obtain ⟨k1, aJ⟩ := hq.rounds
   have HQ := aM aJ
   have D := aM (HB.out.below (below_alloc (Below.refl _ _) (.cells #[.string (rd_T130 l (kk : Int)).f0, .string (rd_T130 l (kk : Int)).f1] 130)))
   have HK1 := aM (HK.out.alloc (.cells #[.string (rd_T130 l (kk : Int)).f0, .string (rd_T130 l (kk : Int)).f1] 130))
   have X := aM (Kd.C_alloc aH (.cells #[.string (rd_T130 l (kk : Int)).f0, .string (rd_T130 l (kk : Int)).f1] 130))
   have BX := aM (show (wr.alloc (.cells #[.string (rd_T130 l (kk : Int)).f0, .string (rd_T130 l (kk : Int)).f1] 130)).heap[wr.heap.size]? = some (.cells #[.string (rd_T130 l (kk : Int)).f0, .string (rd_T130 l (kk : Int)).f1] 130 (0, 0)) from by simpa using heap_alloc_new wr _)
   clear aH aT aJ hq
   go_upto_region 4 with (fail)
   clear aF hx1
   generalize aU : wr.alloc (.cells #[.string (rd_T130 l (kk : Int)).f0, .string (rd_T130 l (kk : Int)).f1] 130) = W1 at D HK1 X BX ⊢
   clear aU HB HK
   generalize wr.heap.size = x0 at BX ⊢
   generalize (rd_T130 l (kk : Int)).f0 = s at *
   generalize (rd_T130 l (kk : Int)).f1 = I at *
   obtain ⟨z0, z1, z2, z3, z4⟩ := D.out.cells
   have y0 : W1.cell? ⟨x0, 0, none⟩ = some (.string s) := (blk_cell BX.out 0).trans rfl
   have y1 : W1.cell? ⟨x0, 1, none⟩ = some (.string I) := (blk_cell BX.out 1).trans rfl
   cases hh : hasB b'.f4 s with
   | true =>
    rw [hh] at HQ
    go_quiet (first | (go_at_call 94; refine (slices_Contains_string_string.calls k1 M c4 b'.f4 s true _ (Kd.C_drewN X.out _) aG HQ.out).mono ?_; rintro e w' ⟨rfl, ⟨nd, rfl⟩⟩; exact ⟨rfl, _, World.drewN_drewN _ _ _⟩))
    go_wp2
    go_ret
    have y : addL b l = (b', 9) := by rw [HA.out, hstep.out, hh]; rfl
    exact ⟨_, _, (by rw [y]; rfl), by rw [y]; exact D.out.below (below_drewN (Below.refl _ _) _), HK1.out.drewN _⟩
   | false =>
    rw [hh] at HQ
    have O := aM (HA.out.trans hstep.out)
    rw [hh] at O
    clear hstep
    go_quiet (first | (go_at_call 94; refine (slices_Contains_string_string.calls k1 M c4 b'.f4 s false _ (Kd.C_drewN X.out _) aG HQ.out).mono ?_; rintro e w' ⟨rfl, ⟨nd, rfl⟩⟩; exact ⟨rfl, _, World.drewN_drewN _ _ _⟩))
    by_cases Y : b'.f4.length = 60
    ·have aW : ((b'.f4.length : Int) == 60) = true := beq_iff_eq.mpr (Z42)
     have HX := aM Y
     clear Y
     go_wp2
     go_ret
     have y : addL b l = (b', 17) := by rw [O.out, if_neg (Z174), if_pos HX.out]
     exact ⟨_, _, (by rw [y]; rfl), by rw [y]; exact D.out.below (below_drewN (Below.refl _ _) _), HK1.out.drewN _⟩
    have aW : ((b'.f4.length : Int) == 60) = false := beq_eq_false_iff_ne.mpr (Z42)
    have HX := aM Y
    clear Y
    by_cases Z : b'.f3.length = 30
    ·have aX : ((b'.f3.length : Int) == 30) = true := beq_iff_eq.mpr (Z42)
     have HY := aM Z
     clear Z
     go_wp2
     go_ret
     have y : addL b l = (b', 7) := by rw [O.out, if_neg (Z174), if_neg HX.out, if_pos HY.out]
     exact ⟨_, _, (by rw [y]; rfl), by rw [y]; exact D.out.below (below_drewN (Below.refl _ _) _), HK1.out.drewN _⟩
    have aX : ((b'.f3.length : Int) == 30) = false := beq_eq_false_iff_ne.mpr (Z42)
    have y := aM (by rw [O.out, if_neg (Z174), if_neg HX.out, if_neg Z] : addL b l = addL ⟨b'.f0, b'.f1, wrap64 (b'.f2 + 1), b'.f3 ++ [⟨b'.f2, 0, I⟩], b'.f4 ++ [s]⟩ (l.drop (kk + 1)))
    clear Z HX O HA HQ
    go_upto_region 10 with (fail)
    go_cut [50] (fun bA wc => ∃ (aK : Value), Aside0 (Lent base ok wc g n cap xs i ⟨b'.f0, b'.f1, b'.f2, b'.f3 ++ [⟨b'.f2, 0, I⟩], b'.f4⟩ aK (.slice M b'.f4.length c4)) ∧ Aside0 (KeptA w wc ok) ∧ Aside0 (wc.heap[x0]? = some (.cells #[.string s, .string I] 130 (0, 0))))
    case first =>
     obtain ⟨hin, oki, p1, p2, pH, p3, p4⟩ := D.out
     have HP := aM (And.intro p1 (And.intro p2 (And.intro pH (And.intro p3 p4))))
     have aL := HZ.out
     clear p1 p2 pH p3 p4
     have aC := D.out.lt
     have aD := D.out.frozen (i * 5 + 3)
     have hgx : x0 ≠ g := by
      rintro rfl
      obtain ⟨cs, hc⟩ := Kd.R_typed HP.out.2.2.1.2.choose_spec x0 (by simp [Value.ownBlock])
      have := hc.symm.trans BX.out
      injection this with this
      injection this with _ this
      exact absurd this (Z101)
     go_region_law (refine Kd.R_append_step k109 base (Z117) (.tmp 39) (.tmp 47) 96 109 (.agg #[.int .i64 0, .int .i64 0, .string ⟨#[]⟩]) 32 rfl underlying96 info109 rfl (Z101) (Z42) (.slice U b'.f3.length c3) b'.f3 (⟨b'.f2, 0, I⟩ : S109) [.int .i64 b'.f2, .int .i64 0, .string I] oki (fun _ => False) rfl rfl (k109_mkM _ _ _ _) (fun _ hk => hk.elim) (fun k hk => HP.out.1 k (by simpa using hk)) (by (with_reducible repeat (first | apply Kd.R_alloc | apply Kd.R_drewN | apply Kd.R_drew)); exact HP.out.2.2.2.1) (Below.refl _ _) (by have := HK1.out.1; simp; omega) (Z42) ?_; intro v1 w1 ho hb hg hat; obtain ⟨A1, c1, hv⟩ := Kd.R_slice ho; rw [List.length_append, List.length_singleton] at hv; subst hv; have hne : some g ≠ (Value.slice U b'.f3.length c3).ownBlock := (by intro e; exact HP.out.2.1 (HP.out.2.2.2.1.1 g e.symm)); have J := grown_cell hg (g := g) (by simpa using aC) hne (i * 5 + 3); have q4 := J.1.trans z3; have q5 := J.2.trans aD; have R1 := aM (lent_mails (b := b') hin (fun k hk => HP.out.1 k (by simpa using hk)) HP.out.2.1 (Kd.H_below HP.out.2.2.1 (Z85)) (Kd.R_below HP.out.2.2.2.1 (Z85)) (Kd.R_below HP.out.2.2.2.2 (Z85)) hg ho); have R2 := aM (KeptA.setCell (p := ⟨g, i * 5 + 3, none⟩) (KeptA.of_grown hg (by (with_reducible repeat (first | apply KeptA.drewN | apply KeptA.drew)); exact HK1.out) (fun k e => .inl (HP.out.2.2.1.1 k (HP.out.2.2.2.1.1 k e)))) (.inl hokg) (.slice A1 (b'.f3.length + 1) c1)); have R3 := aM (blk_far (p := ⟨g, i * 5 + 3, none⟩) (blk_grown (by (with_reducible repeat (first | refine blk_drewN ?_ _ | refine blk_drew ?_)); exact BX.out) hg (Kd.R_ne HP.out.2.2.2.1 BX.out (Z101))) hgx (.slice A1 (b'.f3.length + 1) c1)); clear hb hat ho J)
     all_goals (go_wp2; go_meet; exact ⟨_, R1, R2, R3⟩)
    case rest =>
     obtain ⟨aK, HB2, HK2, aN⟩ := hcut
     clear z0 z1 z2 z3 z4 y0 y1 D HK1 X BX
     obtain ⟨z0, z1, z2, z3, z4⟩ := HB2.out.cells
     have y0 : wc.cell? ⟨x0, 0, none⟩ = some (.string s) := (blk_cell aN.out 0).trans rfl
     obtain ⟨U', c3', rfl, aS', -⟩ := HB2.out.mails
     go_upto_region 11 with (fail)
     go_cut [68] (fun bB we => ∃ (aO : Value), Aside0 (Lent base ok we g n cap xs i ⟨b'.f0, b'.f1, b'.f2, b'.f3 ++ [⟨b'.f2, 0, I⟩], b'.f4 ++ [s]⟩ (.slice U' (b'.f3 ++ [(⟨b'.f2, 0, I⟩ : S109)]).length c3') aO) ∧ Aside0 (KeptA w we ok))
     case first =>
      obtain ⟨hin, oki, p1, p2, pH, p3, p4⟩ := HB2.out
      have HP := aM (And.intro p1 (And.intro p2 (And.intro pH (And.intro p3 p4))))
      have aL := HZ.out
      clear p1 p2 pH p3 p4
      have aC := HB2.out.lt
      have aD := HB2.out.frozen (i * 5 + 4)
      go_region_law (refine Kd.R_append_step Kd.string (w0 := wc.drew) (W := wc.drew) base (Z117) (.tmp 55) (.tmp 58) 69 9 (.string ⟨#[]⟩) 16 rfl underlying69 info9 rfl (Z101) (Z42) (.slice M b'.f4.length c4) b'.f4 s [.string s] oki (fun _ => False) rfl rfl rfl (fun _ hk => hk.elim) (fun k hk => HP.out.1 k (by simpa using hk)) (by (with_reducible repeat (first | apply Kd.R_alloc | apply Kd.R_drewN | apply Kd.R_drew)); exact HP.out.2.2.2.2) (Below.refl _ _) (by have := HK2.out.1; simp; omega) (Z42) ?_; intro v1 w1 ho hb hg hat; obtain ⟨A1, c1, hv⟩ := Kd.R_slice ho; rw [List.length_append, List.length_singleton] at hv; subst hv; have hne : some g ≠ (Value.slice M b'.f4.length c4).ownBlock := (by intro e; exact HP.out.2.1 (HP.out.2.2.2.2.1 g e.symm)); have J := grown_cell hg (g := g) (by simpa using aC) hne (i * 5 + 4); have q4 := J.1.trans z4; have q5 := J.2.trans aD; have R1 := aM (lent_keys (b := ⟨b'.f0, b'.f1, b'.f2, b'.f3 ++ [⟨b'.f2, 0, I⟩], b'.f4⟩) hin (fun k hk => HP.out.1 k (by simpa using hk)) HP.out.2.1 (Kd.H_below HP.out.2.2.1 (Z85)) (Kd.R_below HP.out.2.2.2.1 (Z85)) (Kd.R_below HP.out.2.2.2.2 (Z85)) hg ho); have R2 := aM (KeptA.setCell (p := ⟨g, i * 5 + 4, none⟩) (KeptA.of_grown hg (by (with_reducible repeat (first | apply KeptA.drewN | apply KeptA.drew)); exact HK2.out) (fun k e => .inl (HP.out.2.2.1.1 k (HP.out.2.2.2.2.1 k e)))) (.inl hokg) (.slice A1 (b'.f4.length + 1) c1)); clear hb hat ho J)
      all_goals (go_wp2; go_meet; exact ⟨_, R1, R2⟩)
     case rest =>
      obtain ⟨aO, aE, a2⟩ := hcut
      clear z0 z1 z2 z3 z4 y0 HB2 HK2 aN
      obtain ⟨z0, z1, z2, z3, z4⟩ := aE.out.cells
      have bC := aE.out.frozen (i * 5 + 2)
      have a3 := aM (aE.out.setNext (wrap64 (b'.f2 + 1)))
      have a5 := aM (KeptA.setCell (p := ⟨g, i * 5 + 2, none⟩) a2.out (.inl hokg) (.int .i64 (wrap64 (b'.f2 + 1))))
      have aL := HZ.out
      go_wp2
      go_roundg (l.length - (kk + 1))
      case measure => omega
      case rel => exact ⟨kk + 1, _, _, _, Z42, Z42, by go_num, a3, ⟨y.out⟩, a5, ⟨by simp; omega, by simp; omega⟩⟩
  ·have hltz : ¬ (kk : Int) < (l.length : Int) := by omega
   obtain rfl : kk = l.length := by omega
   go_wp2
   go_ret
   have e := HA.out
   rw [List.drop_of_length_le (Nat.le_refl _)] at e
   rw [e]
   exact ⟨_, _, rfl, HB.out, HK.out⟩
theorem lent_mailIndex {base g n cap i : Nat} {ok : Nat → Prop} {w : World} {xs : List S98} {b : S98} {vM vK : Value} (HL : Lent base ok w g n cap xs i b vM vK) (hl : b.f3.length ≤ 1099511627776) (u : Int) :
  Calls prog 123 #[.pointer (some ⟨g, i * 5, none⟩), .int .i64 u] w fun e w' => e = .returned (.int .i64 (idxU u b.f3 0)) ∧ Below w.heap.size w w' := by
 obtain ⟨y, c3, rfl, D, s⟩ := HL.mails
 have HC := aM (Kd.C_alloc s (.cells #[.int .i64 u] 3))
 have HB := aM (HL.below (below_alloc (Below.refl _ _) (.cells #[.int .i64 u] 3)))
 obtain ⟨-, -, -, z3, -⟩ := HB.out.cells
 clear s HL
 go_enter func123, ntmps123
 go_wp2_with (go_at_call 124; refine (mailsIndex y c3 b.f3 u w.heap.size _ HC.out (Z174) (by simp [go_sem]) hl).mono ?_; rintro e w' ⟨rfl, hb'⟩)
 go_ret
 exact ⟨rfl, Below.trans (Below.alloc (Below.refl _ _) (Nat.le_refl _) _) (hb'.mono (Z174))⟩
theorem lent_flag {base g n cap i : Nat} {ok : Nat → Prop} {w : World} {xs : List S98} {b : S98} {gm c : Nat} {vK : Value} (HL : Lent base ok w g n cap xs i b (.slice (some ⟨gm, 0, none⟩) b.f3.length c) vK) (k : Nat) (hk : k < b.f3.length) (x : Int) :
  Lent base ok (w.setCell ⟨gm, k * 3 + 1, none⟩ (.int .i64 x)) g n cap xs i ⟨b.f0, b.f1, b.f2, b.f3.set k ⟨b.f3[k].f0, x, b.f3[k].f2⟩, b.f4⟩ (.slice (some ⟨gm, 0, none⟩) b.f3.length c) vK := by
 obtain ⟨hi, oki, h1, h2, hH, s, y⟩ := HL
 obtain ⟨ce, hcl, hM, hcc, hfr⟩ := Kd.R_elem s z109 (k : Int) (Z42) (Z42)
 have hg : b.f3.getD (k : Int).toNat z109 = b.f3[k] := by simp [List.getD, List.getElem?_eq_getElem hk]
 rw [hg] at hM
 obtain rfl := k109_openM hM
 have hs : k109.sz = 3 := rfl
 obtain ⟨hR, hgr⟩ := Kd.R_seg s (k : Int) (Z42) (Z42) hcl hcc (seg := [.int .i64 x]) (j := 1) (show 2 ≤ 3 by decide) (x' := ⟨b.f3[k].f0, x, b.f3[k].f2⟩) (k109_mkM _ _ (fun _ => False) _) (fun _ h => h.elim)
 rw [hs, Int.toNat_natCast] at hR hgr
 have hH' := Kd.H_grown hH hgr (fun q e => by injection e with e; subst e; exact s.1 gm (by simp [Value.ownBlock]))
 have y' := Kd.R_over y s (Z101) (by simpa [Value.ownBlock] using hgr)
 have hl : (b.f3.set k ⟨b.f3[k].f0, x, b.f3[k].f2⟩).length = b.f3.length := List.length_set
 have hz := hgr.size
 exact ⟨hi, oki, fun q hq => h1 q (Nat.le_trans hz hq), h2, hH', hR, y'⟩
def newFlags (mode was flags : Int) : Int := if mode = 1 then flags else if mode = 2 then Go.bits .or .i64 was flags else Go.bits .andNot .i64 was flags
def flagsL (b : S98) (uid mode flags : Int) : S98 × Int :=
 if idxU uid b.f3 0 < 0 then (b, 17)
 else (⟨b.f0, b.f1, b.f2, b.f3.set (idxU uid b.f3 0).toNat ⟨(rd_T109 b.f3 (idxU uid b.f3 0)).f0, newFlags mode (rd_T109 b.f3 (idxU uid b.f3 0)).f1 flags, (rd_T109 b.f3 (idxU uid b.f3 0)).f2⟩, b.f4⟩, 0)
theorem idxU_lt (u : Int) : ∀ (l : List S109) (i : Nat), idxU u l i < 0 ∨ ∃ k : Nat, idxU u l i = k ∧ i ≤ k ∧ k < i + l.length
 | [], i => .inl (by simp [idxU])
 | m :: r, i => by
  unfold idxU
  by_cases h : m.f0 = u
  ·rw [if_pos h]; exact .inr ⟨i, rfl, Nat.le_refl _, Z174⟩
  ·rw [if_neg h]
   rcases idxU_lt u r (i + 1) with h1 | ⟨k, h1, h2, s⟩
   ·exact .inl (by simpa using h1)
   ·exact .inr ⟨k, by simpa using h1, Z42, by simp; omega⟩
theorem box_flags (base : Nat) (ok : Nat → Prop) (g n cap i : Nat) (xs : List S98) (b : S98) (vM vK : Value) (m0 uid mode flags : Int) (nm : ByteArray) (vI : Value) (w : World) (HL : Lent base ok w g n cap xs i b vM vK) (hnew : ∀ k, w.heap.size ≤ k → ok k) (hM : b.f3.length ≤ 1048576) (hvI : ∃ A n c, vI = .slice A n c) :
  Calls prog 104 #[.pointer (some ⟨g, i * 5, none⟩), .agg #[.int .i64 m0, .int .i64 uid, .int .i64 mode, .int .i64 flags, .string nm, vI]] w (BoxRet base ok w g n cap i xs (flagsL b uid mode flags)) := by
 obtain ⟨AI, nI, cI, rfl⟩ := hvI
 have HB := aM (HL.below (below_alloc (Below.refl _ _) (.cells #[.int .i64 m0, .int .i64 uid, .int .i64 mode, .int .i64 flags, .string nm, .slice AI nI cI] 103)))
 have BX := aM (show (w.alloc (.cells #[.int .i64 m0, .int .i64 uid, .int .i64 mode, .int .i64 flags, .string nm, .slice AI nI cI] 103)).heap[w.heap.size]? = some (.cells #[.int .i64 m0, .int .i64 uid, .int .i64 mode, .int .i64 flags, .string nm, .slice AI nI cI] 103 (0, 0)) from by simpa using heap_alloc_new w _)
 have HK := aM ((KeptA.refl w ok).alloc (.cells #[.int .i64 m0, .int .i64 uid, .int .i64 mode, .int .i64 flags, .string nm, .slice AI nI cI] 103))
 have U := aM hM
 clear HL hM
 go_enter func104, ntmps104
 go_upto_region 1 with (fail)
 generalize X : w.alloc (.cells #[.int .i64 m0, .int .i64 uid, .int .i64 mode, .int .i64 flags, .string nm, .slice AI nI cI] 103) = W1 at HB BX HK ⊢
 have Z : w.heap.size = w.heap.size := rfl
 clear X
 generalize w.heap.size = x0 at BX ⊢
 have Y : W1.cell? ⟨x0, 1, none⟩ = some (.int .i64 uid) := (blk_cell BX.out 1).trans rfl
 go_wp2_with fail
 refine (lent_mailIndex HB.out (by have := U.out; omega) uid).mono ?_
 rintro e w2 ⟨rfl, M⟩
 have HB2 := aM (HB.out.below M)
 have HK2 := aM (HK.out.below M)
 have O := aM (blk_below BX.out M)
 clear HB HK BX Y M
 rcases idxU_lt uid b.f3 0 with hn | ⟨k, hk, -, hkl⟩
 ·have t0 : decide (idxU uid b.f3 0 < 0) = true := decide_eq_true hn
  have I : flagsL b uid mode flags = (b, 17) := if_pos hn
  have D := aM I
  clear I hn
  go_wp2
  go_ret
  exact ⟨_, _, (by rw [D.out]; rfl), by rw [D.out]; exact HB2.out, HK2.out⟩
 have hk : idxU uid b.f3 0 = (k : Int) := by simpa using hk
 have hkl : k < b.f3.length := by omega
 have I : flagsL b uid mode flags = (⟨b.f0, b.f1, b.f2, b.f3.set k ⟨b.f3[k].f0, newFlags mode b.f3[k].f1 flags, b.f3[k].f2⟩, b.f4⟩, 0) := by
  unfold flagsL
  rw [hk, if_neg (Z42)]
  have : rd_T109 b.f3 (k : Int) = b.f3[k] := by unfold rd_T109; simp [List.getD, List.getElem?_eq_getElem hkl]
  rw [this, Int.toNat_natCast]
 rw [hk]
 have D := aM I
 clear I hk
 obtain ⟨gm, c, rfl, hgl, hgg, hok⟩ := HB2.out.form (Z42)
 obtain ⟨-, -, -, z3, -⟩ := HB2.out.cells
 obtain ⟨-, m1, -, hf⟩ := HB2.out.mail k hkl
 have aB := hf 1
 have y2 : w2.cell? ⟨x0, 2, none⟩ = some (.int .i64 mode) := (blk_cell O.out 2).trans rfl
 have y3 : w2.cell? ⟨x0, 3, none⟩ = some (.int .i64 flags) := (blk_cell O.out 3).trans rfl
 have h0 : (0 : Int) ≤ (k : Int) := by omega
 have h1 : (k : Int) < (b.f3.length : Int) := by omega
 have hneg : decide ((k : Int) < 0) = false := decide_eq_false (Z42)
 have R1 := aM (fun x => lent_flag HB2.out k hkl x)
 have R2 := aM (fun x => KeptA.setCell (p := ⟨gm, k * 3 + 1, none⟩) HK2.out (.inl hok) (.int .i64 x))
 clear hf
 by_cases y : mode = 1
 ·have s : newFlags mode b.f3[k].f1 flags = flags := if_pos y
  have E2 := aM (by rw [D.out, s] : flagsL b uid mode flags = (⟨b.f0, b.f1, b.f2, b.f3.set k ⟨b.f3[k].f0, flags, b.f3[k].f2⟩, b.f4⟩, 0))
  subst y
  clear s
  go_upto_region 7 with (fail)
  go_region
  all_goals (go_wp2; go_ret; exact ⟨_, _, (by rw [E2.out]; rfl), Z185, Z203⟩)
 by_cases J : mode = 2
 ·have s : newFlags mode b.f3[k].f1 flags = Go.bits .or .i64 b.f3[k].f1 flags := by unfold newFlags; rw [if_neg y, if_pos J]
  have E2 := aM (by rw [D.out, s] : flagsL b uid mode flags = (⟨b.f0, b.f1, b.f2, b.f3.set k ⟨b.f3[k].f0, (Go.bits .or .i64 b.f3[k].f1 flags), b.f3[k].f2⟩, b.f4⟩, 0))
  subst J
  clear s y
  go_upto_region 9 with (fail)
  go_region
  all_goals (go_wp2; go_ret; exact ⟨_, _, (by rw [E2.out]; rfl), Z185, Z203⟩)
 ·have s : newFlags mode b.f3[k].f1 flags = Go.bits .andNot .i64 b.f3[k].f1 flags := by unfold newFlags; rw [if_neg y, if_neg J]
  have E2 := aM (by rw [D.out, s] : flagsL b uid mode flags = (⟨b.f0, b.f1, b.f2, b.f3.set k ⟨b.f3[k].f0, (Go.bits .andNot .i64 b.f3[k].f1 flags), b.f3[k].f2⟩, b.f4⟩, 0))
  have t1 : (mode == 1) = false := beq_eq_false_iff_ne.mpr y
  have t2 : (mode == 2) = false := beq_eq_false_iff_ne.mpr J
  clear s y J
  go_upto_region 5 with (fail)
  go_region
  all_goals (go_wp2; go_ret; exact ⟨_, _, (by rw [E2.out]; rfl), Z185, Z203⟩)
def delB (x : S109) : Bool := Go.bits .and .i64 x.f1 8 != 0
def idxD : List S109 → Int → Int
 | [], _ => -1
 | m :: r, i => if delB m = true then i else idxD r (i + 1)
theorem rdStored (l : List S109) (k : Nat) (h : k < l.length) : rd_T109 l (k : Int) = l[k] := by unfold rd_T109; simp [List.getD, List.getElem?_eq_getElem h]
theorem idxD_drop (l : List S109) (k : Nat) (h : k < l.length) : idxD (l.drop k) k = if delB (rd_T109 l (k : Int)) = true then (k : Int) else idxD (l.drop (k + 1)) ((k + 1 : Nat) : Int) := by
 rw [List.drop_eq_getElem_cons h, idxD, rdStored l k h]; rfl
theorem delIs (x : S109) (w : World) :
  Calls prog 106 #[.agg #[.int .i64 x.f0, .int .i64 x.f1, .string x.f2]] w fun e w' => e = .returned (.bool (delB x)) ∧ Below w.heap.size w w' := by
 go_enter func106, ntmps106
 go_wp2
 go_ret
 exact ⟨by first | rfl | (simp [delB]; done), Z6⟩
theorem delIndex (A : Option Addr) (c : Nat) (l : List S109) (w : World) (hC : Kd.C k109 w A l.length l) (hl : l.length ≤ 1099511627776) :
  Calls prog 124 #[.slice A l.length c, .func (.func 106) #[] #[]] w fun e w' => e = .returned (.int .i64 (idxD l 0)) ∧ Below w.heap.size w w' := by
 have eg := enters_of func106 (Z18) rfl
 have HC := aM hC
 clear hC
 go_enter func124, ntmps124
 go_wp2
 go_loopg [5, 8] l.length (fun gg _ D wr => ∃ kk : Nat, kk ≤ l.length ∧ l.length - kk ≤ gg ∧ D = .int .i64 kk ∧ Aside0 (Below w.heap.size w wr) ∧ Aside0 (idxD l 0 = idxD (l.drop kk) kk))
 case atStart => exact ⟨0, Nat.zero_le _, Z42, rfl, ⟨Below.refl _ w⟩, ⟨rfl⟩⟩
 case round =>
  obtain ⟨kk, hkk, hg, rfl, BW, AI⟩ := hrel
  by_cases hlt : kk < l.length
  ·have hltz : (kk : Int) < (l.length : Int) := by omega
   have I : 0 ≤ (kk : Int) := by omega
   obtain ⟨ad, e, s, hx1, y⟩ := at_T109 HC.out kk I hltz
   cases e
   simp only [Int.toNat_natCast] at s hx1 y
   replace s := (BW.out.cell (World.block_lt_of_cell? w _ s)).trans s
   replace hx1 := (BW.out.cell (World.block_lt_of_cell? w _ hx1)).trans hx1
   replace y := (BW.out.cell (World.block_lt_of_cell? w _ y)).trans y
   have hstep := idxD_drop l kk hlt
   have hcall := delIs (rd_T109 l (kk : Int)) wr
   cases hq : delB (rd_T109 l (kk : Int)) with
   | true =>
    rw [hq] at hstep hcall
    rw [if_pos rfl] at hstep
    have HS := aM hstep
    clear hstep hq
    go_wp2_with (go_at_call 106; refine hcall.mono ?_; rintro e w' ⟨rfl, hb'⟩)
    go_ret
    exact ⟨by rw [AI.out, HS.out]; rfl, Below.trans BW.out (hb'.mono BW.out.size)⟩
   | false =>
    rw [hq] at hstep hcall
    rw [if_neg (Z174)] at hstep
    have HS := aM hstep
    clear hstep hq
    go_wp2_with (go_at_call 106; refine hcall.mono ?_; rintro e w' ⟨rfl, hb'⟩)
    go_roundg (l.length - (kk + 1))
    case measure => omega
    case rel => exact ⟨kk + 1, Z42, Z42, by go_num, ⟨Below.trans BW.out (hb'.mono BW.out.size)⟩, ⟨AI.out.trans HS.out⟩⟩
  ·have hltz : ¬ (kk : Int) < (l.length : Int) := by omega
   obtain rfl : kk = l.length := by omega
   go_wp2
   go_ret
   exact ⟨Z205, BW.out⟩
section
variable {w : World} {base g n c : Nat} {ok : Nat → Prop} {ys : List S109}
theorem row_at (h : Kd.R k109 109 w base ok (.slice (some ⟨g, 0, none⟩) n c) ys) (k : Nat) (hk : k < ys.length) :
  w.cell? ⟨g, k * 3, none⟩ = some (.int .i64 ys[k].f0) ∧ w.cell? ⟨g, k * 3 + 1, none⟩ = some (.int .i64 ys[k].f1) ∧ w.cell? ⟨g, k * 3 + 2, none⟩ = some (.string ys[k].f2) ∧ ∀ j, w.frozen? ⟨g, k * 3 + j, none⟩ = false := by
 have hn := (Kd.R_reads' h).1
 obtain ⟨ce, hcl, hM, hcc, hfr⟩ := Kd.R_elem h z109 (k : Int) (Z42) (Z42)
 have hg : ys.getD (k : Int).toNat z109 = ys[k] := by simp [List.getD, List.getElem?_eq_getElem hk]
 rw [hg] at hM
 obtain rfl := k109_openM hM
 exact ⟨hcc 0 _ rfl, hcc 1 _ rfl, hcc 2 _ rfl, hfr⟩
theorem row_put (h : Kd.R k109 109 w base ok (.slice (some ⟨g, 0, none⟩) n c) ys) (a : Nat) (ha : a < n) (x : S109) :
  Kd.R k109 109 (((w.setCell ⟨g, a * 3, none⟩ (.int .i64 x.f0)).setCell ⟨g, a * 3 + 1, none⟩ (.int .i64 x.f1)).setCell ⟨g, a * 3 + 2, none⟩ (.string x.f2)) base ok (.slice (some ⟨g, 0, none⟩) n c) (ys.set a x) := by
 obtain ⟨ce, hcl, hM, hcc, hfr⟩ := Kd.R_elem h z109 (a : Int) (Z42) (Z42)
 have := (Kd.R_seg h (a : Int) (Z42) (Z42) hcl hcc (okp := fun _ => False) (seg := [.int .i64 x.f0, .int .i64 x.f1, .string x.f2]) (j := 0) (show 3 ≤ 3 by decide) (x' := x) (by
  have hl : ce.drop 3 = [] := List.drop_of_length_le (Nat.le_of_eq hcl)
  show k109.M _ _ _ x (ce.take 0 ++ [.int .i64 x.f0, .int .i64 x.f1, .string x.f2] ++ ce.drop 3)
  rw [hl]; exact k109_mkM _ _ (fun _ => False) x) (fun _ h => h.elim)).1
 have hs : k109.sz = 3 := rfl
 rw [hs, Int.toNat_natCast] at this
 exact this
theorem row_len (h : Kd.R k109 109 w base ok (.slice (some ⟨g, 0, none⟩) n c) ys) : n = ys.length ∧ n ≤ c := ⟨(Kd.R_reads' h).1, (Kd.R_reads' h).2.1⟩
theorem row_block (h : Kd.R k109 109 w base ok (.slice (some ⟨g, 0, none⟩) n c) ys) : ∃ cur, w.heap[g]? = some (.cells cur 109 (0, 0)) ∧ cur.size = c * 3 := by
 obtain ⟨_, inner, ⟨_, h2⟩, _⟩ := h
 rcases h2 with ⟨e, _⟩ | ⟨g', cap, cur, e, _, hh, _, _, hsz, _⟩
 ·cases e
 ·cases e; exact ⟨cur, hh, hsz⟩
theorem row_spare (h : Kd.R k109 109 w base ok (.slice (some ⟨g, 0, none⟩) n c) ys) (o : Nat) (seg : List Value) (ho : n * 3 ≤ o) (hf : o + seg.length ≤ c * 3) :
  Kd.R k109 109 (w.setCells g o seg) base ok (.slice (some ⟨g, 0, none⟩) n c) ys := by
 obtain ⟨y, inner, ⟨h1, h2⟩, hr⟩ := h
 rcases h2 with ⟨e, _⟩ | ⟨g', cap, cur, e, hb, hh, hn, hm, hsz, ht⟩
 ·cases e
 ·injection e with s D I
  injection s with s
  injection s with s
  subst s; subst I
  have hs : k109.sz = 3 := rfl
  rw [hs] at hsz ht
  obtain ⟨cur', J, M, O⟩ := setCells_row seg o w cur hh (Z42)
  refine ⟨y, inner, ⟨h1, .inr ⟨g, c, cur', by rw [D], hb, J, hn, hm, by rw [M, hs]; exact hsz, ?_⟩⟩, hr.imp_ (fun p cs hp => ?_)⟩
  ·have hcl : cur.toList.length = c * 3 := by rw [Array.length_toList]; exact hsz
   have ht' : List.take (ys.length * 3) cur.toList = inner := ht
   show List.take (ys.length * 3) cur'.toList = inner
   rw [O, ← ht', List.append_assoc, List.take_append_of_le_length (by rw [List.length_take]; omega), List.take_take]
   congr 1; omega
  ·obtain rfl := k109_openM hp; exact k109_mkM _ _ _ _
theorem row_clear (h : Kd.R k109 109 w base ok (.slice (some ⟨g, 0, none⟩) n c) ys) (a : Nat) (ha : a ≤ n) (ty : TypeId) (c' : Nat) :
  ∃ seg : List Value, (Builtin.clear_ #[96] ty #[.slice (some ⟨g, a * 3, none⟩) (n - a) c']).run prog w = .ok (.tuple #[]) (w.setCells g (a * 3) seg) ∧ Kd.R k109 109 (w.setCells g (a * 3) seg) base ok (.slice (some ⟨g, 0, none⟩) a c) (ys.take a) := by
 obtain ⟨hn, hc⟩ := row_len h
 have hT := Kd.R_take h (m := a) (Z42)
 by_cases s : n - a = 0
 ·refine ⟨[], ?_, hT⟩
  rw [s]
  have hu := run_underlying (P := prog) (w := w) underlying96
  simp [Builtin.clear_, hu]
  rfl
 ·obtain ⟨cur, hb, hsz⟩ := row_block h
  obtain ⟨i0, hi, y, D, I⟩ := info_parts info109
  have hl : (Builtin.zeroCells (Value.agg #[.int .i64 0, .int .i64 0, .string ⟨#[]⟩]).cells (n - a)).toList.length = (n - a) * 3 := by simp [Builtin.zeroCells, Value.cells]
  have hone : ∀ u ∈ (Builtin.zeroCells (Value.agg #[.int .i64 0, .int .i64 0, .string ⟨#[]⟩]).cells (n - a)).toList, u.oneCell' = true := by
   intro u hu
   simp only [Builtin.zeroCells, Value.cells] at hu
   simp at hu
   obtain ⟨j, hj, rfl⟩ := hu
   have : j % 3 = 0 ∨ j % 3 = 1 ∨ j % 3 = 2 := by omega
   rcases this with e | e | e <;> rw [e] <;> rfl
  have hst := run_storeCells_cells (P := prog) g (a * 3) _ 0 w (fun j hj => by
   rw [hl] at hj
   have := blk_cell hb (a * 3 + 0 + j)
   rw [this]
   have hlt : a * 3 + 0 + j < cur.size := by rw [hsz]; omega
   rw [Array.getElem?_eq_getElem hlt]; rfl) (fun j hj => blk_frozen hb _) hone
  refine ⟨_, ?_, row_spare hT (a * 3) (Builtin.zeroCells (Value.agg #[.int .i64 0, .int .i64 0, .string ⟨#[]⟩]).cells (n - a)).toList (Nat.le_refl _) (by rw [hl]; omega)⟩
  have hu := run_underlying (P := prog) (w := w) underlying96
  have hv : (zeroValue 109).run prog w = .ok (.agg #[.int .i64 0, .int .i64 0, .string ⟨#[]⟩]) w := by simp [zeroValue, typeInfo, hi, y]
  obtain ⟨m, hm⟩ : ∃ m, n - a = m + 1 := ⟨n - a - 1, Z42⟩
  rw [hm] at hst ⊢
  simp only [Nat.add_zero] at hst
  simp [Builtin.clear_, hu, hv, hst]
end
theorem take_filter_step (ms : List S109) (j : Nat) (h : j < ms.length) : (ms.take (j + 1)).filter (fun x => !delB x) = if delB ms[j] = true then (ms.take j).filter (fun x => !delB x) else (ms.take j).filter (fun x => !delB x) ++ [ms[j]] := by
 rw [List.take_succ_eq_append_getElem h, List.filter_append]
 cases hd : delB ms[j] with
 | true => simp [hd]
 | false => simp [hd]
theorem idxD_spec : ∀ (l : List S109) (i : Nat), (idxD l i = -1 ∧ l.filter (fun x => !delB x) = l) ∨ ∃ k : Nat, idxD l i = ((i + k : Nat) : Int) ∧ k < l.length ∧ (l.take (k + 1)).filter (fun x => !delB x) = l.take k
 | [], i => .inl ⟨rfl, rfl⟩
 | m :: r, i => by
  unfold idxD
  cases hd : delB m with
  | true => rw [if_pos rfl]; exact .inr ⟨0, Z174, Z174, by simp [hd]⟩
  | false =>
   rw [if_neg (Z174)]
   rcases idxD_spec r (i + 1) with ⟨h1, h2⟩ | ⟨k, h1, h2, s⟩
   ·exact .inl ⟨by simpa using h1, by simp [hd, h2]⟩
   ·exact .inr ⟨k + 1, (by have h_ : ((i : Int) + 1) = ((i + 1 : Nat) : Int) := (Z42); rw [h_, h1]; omega), by simp; omega, by simp [hd]; simpa using s⟩
def DelRet (base : Nat) (okm : Nat → Prop) (w : World) (gm : Nat) (ms : List S109) (e : Ending) (w' : World) : Prop :=
 ∃ v, e = .returned v ∧ Kd.R k109 109 w' base okm v (ms.filter (fun x => !delB x)) ∧ KeptA w w' (fun k => k = gm)
theorem mails_delete (base : Nat) (okm : Nat → Prop) (gm n c : Nat) (ms : List S109) (w : World) (h : Kd.R k109 109 w base okm (.slice (some ⟨gm, 0, none⟩) n c) ms) (hl : ms.length ≤ 1048576) :
  Calls prog 105 #[.slice (some ⟨gm, 0, none⟩) n c, .func (.func 106) #[] #[]] w (DelRet base okm w gm ms) := by
 have eg := enters_of func106 (Z18) rfl
 obtain ⟨rfl, hnc⟩ := row_len h
 have HR := aM h
 have hC := (Kd.R_reads' h).2.2
 have HL := aM hl
 clear h hl
 go_enter func105, ntmps105
 go_wp2_with fail
 refine (delIndex (some ⟨gm, 0, none⟩) c ms w hC (by have := HL.out; omega)).mono ?_
 rintro e w1 ⟨rfl, J⟩
 have U := aM (Kd.R_below HR.out J)
 have HK1 := aM (KeptA.of_below J (fun k => k = gm))
 clear hC J HR
 rcases idxD_spec ms 0 with ⟨h1, h2⟩ | ⟨k, h1, h2, X⟩
 ·have y : idxD ms 0 = -1 := by simpa using h1
  rw [y]
  have HF := aM h2
  clear h1 h2 y
  go_wp2
  go_ret
  exact ⟨_, rfl, by rw [HF.out]; exact U.out, HK1.out⟩
 have y : idxD ms 0 = (k : Int) := by simpa using h1
 rw [y]
 have HF := aM X
 have hkm : ((k : Int) == -1) = false := beq_eq_false_iff_ne.mpr (Z42)
 clear h1 X y
 have aI := HL.out
 go_wp2
 go_loopg [5, 6, 7] ms.length (fun gg s5 s6 s7 wr => ∃ (a j : Nat) (ys : List S109), a < j ∧ j ≤ ms.length ∧ ms.length - j ≤ gg ∧ s5 = .int .i64 a ∧ s6 = .int .i64 j ∧ Aside0 (Kd.R k109 109 wr base okm (.slice (some ⟨gm, 0, none⟩) ms.length c) ys) ∧
  Aside0 (ys.take a = (ms.take j).filter (fun x => !delB x)) ∧ Aside0 (ys.drop j = ms.drop j) ∧ Aside0 (KeptA w wr (fun k => k = gm)) ∧ Aside0 (ys.length = ms.length))
 case atStart => exact ⟨k, k + 1, ms, Z42, Z42, Z42, rfl, by go_num, U, ⟨HF.out.symm⟩, ⟨rfl⟩, HK1, ⟨rfl⟩⟩
 case round =>
  obtain ⟨a, j, ys, haj, hjm, hgg, rfl, rfl, M, HT, HD, HK2, HY⟩ := hrel
  by_cases hlt : j < ms.length
  ·have hltz : (j : Int) < (ms.length : Int) := by omega
   have h0 : (0 : Int) ≤ (j : Int) := by omega
   have hjy : j < ys.length := by rw [HY.out]; exact hlt
   have ej : ys[j] = ms[j] := by
    have := congrArg (fun l => l[0]?) HD.out
    simp only [List.getElem?_drop, Nat.add_zero] at this
    rw [List.getElem?_eq_getElem hjy, List.getElem?_eq_getElem hlt] at this
    exact Option.some.inj this
   obtain ⟨z0, z1, z2, -⟩ := row_at M.out j hjy
   rw [ej] at z0 z1 z2
   have HS := aM (take_filter_step ms j hlt)
   have hcall := delIs ms[j] (wr.alloc (.cells #[.int .i64 ms[j].f0, .int .i64 ms[j].f1, .string ms[j].f2] 109))
   have BX := aM (show (wr.alloc (.cells #[.int .i64 ms[j].f0, .int .i64 ms[j].f1, .string ms[j].f2] 109)).heap[wr.heap.size]? = some (.cells #[.int .i64 ms[j].f0, .int .i64 ms[j].f1, .string ms[j].f2] 109 (0, 0)) from by simpa using heap_alloc_new wr _)
   have D := aM (Kd.R_alloc M.out (.cells #[.int .i64 ms[j].f0, .int .i64 ms[j].f1, .string ms[j].f2] 109))
   have Y := aM (HK2.out.alloc (.cells #[.int .i64 ms[j].f0, .int .i64 ms[j].f1, .string ms[j].f2] 109))
   have Z := aM (show ys.drop (j + 1) = ms.drop (j + 1) from by have := congrArg (List.drop 1) HD.out; simpa [List.drop_drop] using this)
   cases hd : delB ms[j] with
   | true =>
    rw [hd] at hcall
    have O := aM (by rw [HS.out, if_pos hd] : (ms.take (j + 1)).filter (fun x => !delB x) = (ms.take j).filter (fun x => !delB x))
    have HC := aM hcall
    clear hcall HS
    go_wp2_with (go_at_call 106; refine HC.out.mono ?_; rintro e w2 ⟨rfl, s⟩)
    go_roundg (ms.length - (j + 1))
    case measure => omega
    case rel => exact ⟨a, j + 1, ys, Z42, Z42, Z42, rfl, by go_num, ⟨Kd.R_below D.out s⟩, ⟨HT.out.trans O.out.symm⟩, Z, ⟨Y.out.below s⟩, HY⟩
   | false =>
    rw [hd] at hcall
    have O := aM (by rw [HS.out, if_neg (by rw [hd]; simp)] : (ms.take (j + 1)).filter (fun x => !delB x) = (ms.take j).filter (fun x => !delB x) ++ [ms[j]])
    have HC := aM hcall
    clear hcall HS ej hjy
    have hay : a < ys.length := by rw [HY.out]; omega
    have aF : (0 : Int) ≤ (a : Int) := by omega
    have aG : (a : Int) < (ms.length : Int) := by omega
    go_wp2_with (go_at_call 106; refine HC.out.mono ?_; rintro e w2 ⟨rfl, s⟩; have I := blk_below BX.out s; have y0 : w2.cell? ⟨wr.heap.size, 0, none⟩ = _ := (blk_cell I 0).trans rfl; have y1 : w2.cell? ⟨wr.heap.size, 1, none⟩ = _ := (blk_cell I 1).trans rfl; have y2 : w2.cell? ⟨wr.heap.size, 2, none⟩ = _ := (blk_cell I 2).trans rfl; clear I; have aA := aM (Kd.R_below D.out s); have aH := aM (Y.out.below s); clear s; obtain ⟨r0, r1, r2, hf⟩ := row_at aA.out a hay; have f0 : w2.frozen? ⟨gm, a * 3, none⟩ = false := hf 0; have f1 := hf 1; have f2 := hf 2; clear hf)
    go_roundg (ms.length - (j + 1))
    case measure => omega
    case rel =>
     refine ⟨a + 1, j + 1, ys.set a ms[j], Z42, Z42, Z42, by go_num, by go_num, ⟨row_put aA.out a (Z42) ms[j]⟩, ⟨?_⟩, ⟨?_⟩, ⟨KeptA.setCell (p := ⟨gm, a * 3 + 2, none⟩) (KeptA.setCell (p := ⟨gm, a * 3 + 1, none⟩) (KeptA.setCell (p := ⟨gm, a * 3, none⟩) aH.out (.inl rfl) _) (.inl rfl) _) (.inl rfl) _⟩, ⟨by rw [List.length_set]; exact HY.out⟩⟩
     ·rw [List.take_succ_eq_append_getElem (by simpa using hay), List.take_set_of_le (Nat.le_refl _), HT.out, List.getElem_set_self, O.out]
     ·rw [List.drop_set_of_lt (Z42)]; exact Z.out
  ·have hltz : ¬ (j : Int) < (ms.length : Int) := by omega
   obtain rfl : j = ms.length := by omega
   have aF : (0 : Int) ≤ (a : Int) := by omega
   have aG : (a : Int) ≤ (ms.length : Int) := by omega
   have aS : (a : Int) ≤ (c : Int) := by omega
   have hac : a ≤ c := by omega
   have ham : a ≤ ms.length := by omega
   obtain ⟨seg, q1, q2⟩ := row_clear M.out a (Z42) 0 (c - a)
   have HQ := aM q1
   have D := aM q2
   clear q1 q2
   have ET := aM (by rw [HT.out, List.take_of_length_le (Nat.le_refl _)] : ys.take a = ms.filter (fun x => !delB x))
   go_wp2_with fail
   rw [HQ.out]
   go_wp2
   go_ret
   refine ⟨_, rfl, ?_, ?_⟩
   ·rw [← ET.out]; exact D.out
   ·exact HK2.out.then_ (S2 := fun k => k = gm) ⟨by rw [(setCells_same gm seg (a * 3) wr).2.2.2]; exact Nat.le_refl _, fun q _ hn => setCells_far seg (a * 3) q hn, (setCells_same gm seg (a * 3) wr).1, (setCells_same gm seg (a * 3) wr).2.1, (setCells_same gm seg (a * 3) wr).2.2.1⟩ (fun q hq => .inl hq)
def DelRetA (base : Nat) (okm : Nat → Prop) (w : World) (v : Value) (ms : List S109) (e : Ending) (w' : World) : Prop :=
 ∃ v1, e = .returned v1 ∧ Kd.R k109 109 w' base okm v1 (ms.filter (fun x => !delB x)) ∧ KeptA w w' (fun k => v.ownBlock = some k)
theorem mails_delete_any (base : Nat) (okm : Nat → Prop) (v : Value) (ms : List S109) (w : World) (h : Kd.R k109 109 w base okm v ms) (hl : ms.length ≤ 1048576) :
  Calls prog 105 #[v, .func (.func 106) #[] #[]] w (DelRetA base okm w v ms) := by
 rcases Nat.eq_zero_or_pos ms.length with s | s
 ·have I : ms = [] := List.eq_nil_of_length_eq_zero s
  subst I
  obtain ⟨A, c, rfl⟩ := Kd.R_slice h
  have hC := (Kd.R_reads' h).2.2
  have HR := aM h
  have eg := enters_of func106 (Z18) rfl
  clear h s hl
  go_enter func105, ntmps105
  go_wp2_with fail
  refine (delIndex A c [] w hC (Z174)).mono ?_
  rintro e w1 ⟨rfl, y⟩
  have J := aM (Kd.R_below HR.out y)
  have HK1 := aM (KeptA.of_below y (fun k => (Value.slice A ([] : List S109).length c).ownBlock = some k))
  have D : idxD [] 0 = -1 := rfl
  rw [D]
  clear hC y D
  go_wp2
  go_ret
  exact ⟨_, rfl, J.out, HK1.out⟩
 ·obtain ⟨g, c, rfl, -, -, -⟩ := Kd.R_form h s
  refine (mails_delete base okm g ms.length c ms w h hl).mono fun e w' ⟨v1, he, hr, hk⟩ => ⟨v1, he, hr, hk.mono fun k hk => by rw [hk]; simp [Value.ownBlock]⟩
section
variable {base g n cap i : Nat} {ok oki : Nat → Prop} {W w1 : World} {xs : List S98} {b : S98} {vM vK v1 : Value}
theorem lent_fewer {ms : List S109} (hi : i < n) (h1 : ∀ k, W.heap.size ≤ k → oki k) (h2 : ¬ oki g) (hH : Kd.H k98 98 W base ok (.slice (some ⟨g, 0, none⟩) n cap) xs (i : Int) oki [.string b.f0, .int .i64 b.f1, .int .i64 b.f2, vM, vK])
  (s : Kd.R k109 109 W base oki vM b.f3) (y : Kd.R Kd.string 9 W base oki vK b.f4) (hk : KeptA W w1 (fun k => vM.ownBlock = some k)) (s' : Kd.R k109 109 w1 base oki v1 ms) :
  Lent base ok (w1.setCell ⟨g, i * 5 + 3, none⟩ v1) g n cap xs i ⟨b.f0, b.f1, b.f2, ms, b.f4⟩ v1 vK := by
 have D := Kd.H_step hH (fun k _ hn hlt => hk.2 k hlt (fun e => hn (s.1 k e)))
 have I : Kd.R Kd.string 9 w1 base oki vK b.f4 := Kd.R_mono (Kd.R_step (Kd.R_apart' y (Kd.R_typed s) (Z101)) (fun k hk' hlt => hk.2 k hlt (fun e => hk'.2 e.symm))) (fun _ h => h.1)
 obtain ⟨hH', hg'⟩ := Kd.H_seg D (Z42) (Z42) (seg := [v1]) (j := 3) (show 4 ≤ 5 by decide) (by simpa using (Kd.R_val s').2)
 have hs : k98.sz = 5 := rfl
 rw [hs, Int.toNat_natCast] at hH' hg'
 have hne : ∀ k, oki k → some k ≠ some g := fun k hk e => h2 (by injection e with e; rwa [e] at hk)
 have hz := hk.1
 exact ⟨hi, oki, fun k hk => h1 k (by have h_ : (w1.setCell ⟨g, i * 5 + 3, none⟩ v1).heap.size = w1.heap.size := (Z174); omega), h2, hH', Kd.R_grown s' hg' hne, Kd.R_grown I hg' hne⟩
end
theorem idxN_lt (u : ByteArray) : ∀ (l : List S98) (i : Nat), idxN u l i < 0 ∨ ∃ k : Nat, idxN u l i = k ∧ i ≤ k ∧ k < i + l.length
 | [], i => .inl (by simp [idxN])
 | m :: r, i => by
  unfold idxN
  by_cases h : m.f0.toList = u.toList
  ·rw [if_pos h]; exact .inr ⟨i, rfl, Nat.le_refl _, Z174⟩
  ·rw [if_neg h]
   rcases idxN_lt u r (i + 1) with h1 | ⟨k, h1, h2, s⟩
   ·exact .inl (by simpa using h1)
   ·exact .inr ⟨k, by simpa using h1, Z42, by simp; omega⟩
def mutL (xs : List S98) (kind uid mode flags : Int) (nm : ByteArray) (its : List S130) : List S98 × Int :=
 if kind = 1 then (if 0 ≤ idxN nm xs 0 then (xs, 9) else if xs.length = 4 then (xs, 7) else (xs ++ [⟨nm, (xs.length : Int) + 1, 1, [], []⟩], 0))
 else if idxN nm xs 0 < 0 then (xs, 5)
 else if kind = 2 then (xs.set (idxN nm xs 0).toNat (addL (rd_T98 xs (idxN nm xs 0)) its).1, (addL (rd_T98 xs (idxN nm xs 0)) its).2)
 else if kind = 3 then (xs.set (idxN nm xs 0).toNat (flagsL (rd_T98 xs (idxN nm xs 0)) uid mode flags).1, (flagsL (rd_T98 xs (idxN nm xs 0)) uid mode flags).2)
 else (xs.set (idxN nm xs 0).toNat ⟨(rd_T98 xs (idxN nm xs 0)).f0, (rd_T98 xs (idxN nm xs 0)).f1, (rd_T98 xs (idxN nm xs 0)).f2, (rd_T98 xs (idxN nm xs 0)).f3.filter (fun x => !delB x), (rd_T98 xs (idxN nm xs 0)).f4⟩, 0)
def MutRet (base : Nat) (ok : Nat → Prop) (w : World) (q : List S98 × Int) (e : Ending) (w' : World) : Prop :=
 ∃ v, e = .returned (.tuple #[v, .int .i64 q.2]) ∧ Kd.S k98 98 w' base ok v q.1 ∧ KeptA w w' ok
theorem i_mutate (base : Nat) (ok : Nat → Prop) (v : Value) (xs : List S98) (kind uid mode flags : Int) (nm : ByteArray) (A : Option Addr) (c : Nat) (l : List S130) (w : World) (hS : Kd.S k98 98 w base ok v xs) (hbase : base ≤ w.heap.size) (hnew : ∀ k, w.heap.size ≤ k → ok k)
  (hit : ∀ W', KeptA w W' ok → Kd.C k130 W' A l.length l) (hX : xs.length ≤ 1048576) (hM : ∀ b ∈ xs, b.f3.length ≤ 1048576 ∧ b.f4.length ≤ 1048576) (hl : l.length ≤ 1048576) :
  Calls prog 68 #[v, .agg #[.int .i64 kind, .int .i64 uid, .int .i64 mode, .int .i64 flags, .string nm, .slice A l.length c]] w (MutRet base ok w (mutL xs kind uid mode flags nm l)) := by
 obtain ⟨A0, c0, rfl⟩ := Kd.S_slice hS
 have HS := aM (Kd.S_alloc hS (.cells #[.int .i64 kind, .int .i64 uid, .int .i64 mode, .int .i64 flags, .string nm, .slice A l.length c] 103))
 have BX := aM (show (w.alloc (.cells #[.int .i64 kind, .int .i64 uid, .int .i64 mode, .int .i64 flags, .string nm, .slice A l.length c] 103)).heap[w.heap.size]? = some (.cells #[.int .i64 kind, .int .i64 uid, .int .i64 mode, .int .i64 flags, .string nm, .slice A l.length c] 103 (0, 0)) from by simpa using heap_alloc_new w _)
 have HK := aM ((KeptA.refl w ok).alloc (.cells #[.int .i64 kind, .int .i64 uid, .int .i64 mode, .int .i64 flags, .string nm, .slice A l.length c] 103))
 have HZ := aM (show w.heap.size ≤ (w.alloc (.cells #[.int .i64 kind, .int .i64 uid, .int .i64 mode, .int .i64 flags, .string nm, .slice A l.length c] 103)).heap.size from by simp)
 have HIT := aM hit
 have HM := aM hM
 clear hS hit hM
 go_enter func68, ntmps68
 go_upto_region 1 with (fail)
 generalize aH : w.alloc (.cells #[.int .i64 kind, .int .i64 uid, .int .i64 mode, .int .i64 flags, .string nm, .slice A l.length c] 103) = W1 at HS BX HK HZ ⊢
 clear aH
 generalize aF : w.heap.size = x0 at BX ⊢
 have aR := aM aF
 clear aF
 have y4 : W1.cell? ⟨x0, 4, none⟩ = some (.string nm) := (blk_cell BX.out 4).trans rfl
 go_wp2_with fail
 refine (impl_boxIndex.calls A0 c0 xs nm (idxN nm xs 0) W1 (Kd.S_reads' HS.out).2.2 (Kd.S_reads' HS.out).2.1 (if_pos (Z42))).mono ?_
 rintro e w2 ⟨rfl, U⟩
 have D := aM (Kd.S_below HS.out U)
 have HK2 := aM (HK.out.below U)
 have J := aM (blk_below BX.out U)
 have X := aM (show w.heap.size ≤ w2.heap.size from Nat.le_trans HZ.out U.size)
 clear HS HK BX HZ y4 U
 have y0 : w2.cell? ⟨x0, 0, none⟩ = some (.int .i64 kind) := (blk_cell J.out 0).trans rfl
 have y1 : w2.cell? ⟨x0, 1, none⟩ = some (.int .i64 uid) := (blk_cell J.out 1).trans rfl
 have y2 : w2.cell? ⟨x0, 2, none⟩ = some (.int .i64 mode) := (blk_cell J.out 2).trans rfl
 have y3 : w2.cell? ⟨x0, 3, none⟩ = some (.int .i64 flags) := (blk_cell J.out 3).trans rfl
 have y4 : w2.cell? ⟨x0, 4, none⟩ = some (.string nm) := (blk_cell J.out 4).trans rfl
 have y5 : w2.cell? ⟨x0, 5, none⟩ = some (.slice A l.length c) := (blk_cell J.out 5).trans rfl
 by_cases s : kind = 1
 ·have t1 : (kind == 1) = true := beq_iff_eq.mpr s
  by_cases hn : 0 ≤ idxN nm xs 0
  ·have tn : decide (0 ≤ idxN nm xs 0) = true := decide_eq_true hn
   have E := aM (by unfold mutL; rw [if_pos s, if_pos hn] : mutL xs kind uid mode flags nm l = (xs, 9))
   clear s hn
   go_wp2
   go_ret2
   exact ⟨_, (Z207), by rw [E.out]; exact D.out, HK2.out⟩
  have tn : decide (0 ≤ idxN nm xs 0) = false := decide_eq_false hn
  by_cases h4 : xs.length = 4
  ·have t4 : ((xs.length : Int) == 4) = true := beq_iff_eq.mpr (Z42)
   have E := aM (by unfold mutL; rw [if_pos s, if_neg hn, if_pos h4] : mutL xs kind uid mode flags nm l = (xs, 7))
   clear s hn h4
   go_wp2
   go_ret2
   exact ⟨_, (Z207), by rw [E.out]; exact D.out, HK2.out⟩
  have t4 : ((xs.length : Int) == 4) = false := beq_eq_false_iff_ne.mpr (Z42)
  have E := aM (by unfold mutL; rw [if_pos s, if_neg hn, if_neg h4] : mutL xs kind uid mode flags nm l = (xs ++ [⟨nm, (xs.length : Int) + 1, 1, [], []⟩], 0))
  clear s hn h4
  go_wp2_with (at_builtin; refine Kd.S_append k98 base rfl (.tmp 24) (.tmp 31) 33 98 (.agg #[.string ⟨#[]⟩, .int .i64 0, .int .i64 0, .slice none 0 0, .slice none 0 0]) 80 rfl underlying33 info98 rfl (Z101) (Z42) (.slice A0 xs.length c0) xs (⟨nm, (xs.length : Int) + 1, 1, [], []⟩ : S98) [.string nm, .int .i64 ((xs.length : Int) + 1), .int .i64 1, .slice none 0 0, .slice none 0 0] ok (fun _ => False) rfl rfl (k98_mkM _ _ _ _ (Kd.R_nil _ _ _ _ _) (Kd.R_nil _ _ _ _ _)) (fun _ h => h.elim) (fun k hk => hnew k (Nat.le_trans X.out hk)) (Kd.S_mono D.out (fun k hk => ⟨hk, fun h => h⟩)) (Below.refl _ _) (Nat.le_trans hbase X.out) (Z42) ?_; intro v1 w3 hs hb hg hat)
  go_ret2
  exact ⟨_, (Z207), by rw [E.out]; exact hs, KeptA.of_grown hg HK2.out (fun k e => .inl ((Kd.S_R D.out).1 k e))⟩
 have t1 : (kind == 1) = false := beq_eq_false_iff_ne.mpr s
 rcases idxN_lt nm xs 0 with hn | ⟨k, hk, -, hkl⟩
 ·have hn : idxN nm xs 0 < 0 := by simpa using hn
  have tn : decide (idxN nm xs 0 < 0) = true := decide_eq_true hn
  have E := aM (by unfold mutL; rw [if_neg s, if_pos hn] : mutL xs kind uid mode flags nm l = (xs, 5))
  clear s hn
  go_wp2
  go_ret2
  exact ⟨_, (Z207), by rw [E.out]; exact D.out, HK2.out⟩
 have hk : idxN nm xs 0 = (k : Int) := by simpa using hk
 have hkl : k < xs.length := by omega
 have hnn : ¬ idxN nm xs 0 < 0 := by omega
 obtain ⟨b, hb⟩ : ∃ b, rd_T98 xs (k : Int) = b := ⟨_, rfl⟩
 have hbm : b ∈ xs := by rw [← hb, rdBox xs k hkl]; exact List.getElem_mem hkl
 have hbz := HM.out b hbm
 have M := aM (by unfold mutL; rw [if_neg s, if_neg hnn, hk, hb, Int.toNat_natCast] : mutL xs kind uid mode flags nm l = if kind = 2 then (xs.set k (addL b l).1, (addL b l).2)
  else if kind = 3 then (xs.set k (flagsL b uid mode flags).1, (flagsL b uid mode flags).2) else (xs.set k ⟨b.f0, b.f1, b.f2, b.f3.filter (fun x => !delB x), b.f4⟩, 0))
 rw [hk]
 obtain ⟨g, cap, eA, -, hgl, -⟩ := Kd.S_form D.out (Z42)
 injection eA with aK aX aL
 subst aK; subst aL
 obtain ⟨vM, vK, hL⟩ := Lent.of_S D.out (i := k) hkl (fun q hq => hnew q (Nat.le_trans X.out hq))
 rw [hb] at hL
 have HL := aM hL
 have hokg : ok g := (Kd.S_R D.out).1 g (by simp [Value.ownBlock])
 have h0 : (0 : Int) ≤ (k : Int) := by omega
 have h1 : (k : Int) < (xs.length : Int) := by omega
 have tn : decide ((k : Int) < 0) = false := decide_eq_false (Z42)
 clear hk hb hbm hnn hL s
 by_cases I : kind = 2
 ·have t2 : (kind == 2) = true := beq_iff_eq.mpr I
  have E := aM (by rw [M.out, if_pos I] : mutL xs kind uid mode flags nm l = (xs.set k (addL b l).1, (addL b l).2))
  clear M I
  go_wp2_with fail
  refine (box_add base ok g xs.length _ k xs b vM vK A c l w2 HL.out (Nat.le_trans hbase X.out) hokg (fun W' hk' => HIT.out W' (HK2.out.then_ hk' (fun _ h => .inl h))) hbz.1 hbz.2 hl).mono ?_
  rintro e w3 ⟨vM', vK', rfl, Y, y⟩
  have Z := aM Y
  have aA := aM (HK2.out.then_ y (fun _ h => .inl h))
  clear Y y
  go_wp2
  go_ret2
  exact ⟨_, (Z207), by rw [E.out]; exact Z.out.back, aA.out⟩
 have t2 : (kind == 2) = false := beq_eq_false_iff_ne.mpr I
 by_cases O : kind = 3
 ·have t3 : (kind == 3) = true := beq_iff_eq.mpr O
  have E := aM (by rw [M.out, if_neg I, if_pos O] : mutL xs kind uid mode flags nm l = (xs.set k (flagsL b uid mode flags).1, (flagsL b uid mode flags).2))
  clear M I O
  go_wp2_with fail
  refine (box_flags base ok g xs.length _ k xs b vM vK kind uid mode flags nm (.slice A l.length c) w2 HL.out (fun q hq => hnew q (Nat.le_trans X.out hq)) hbz.1 ⟨_, _, _, rfl⟩).mono ?_
  rintro e w3 ⟨vM', vK', rfl, Y, y⟩
  have Z := aM Y
  have aA := aM (HK2.out.then_ y (fun _ h => .inl h))
  clear Y y
  go_wp2
  go_ret2
  exact ⟨_, (Z207), by rw [E.out]; exact Z.out.back, aA.out⟩
 have t3 : (kind == 3) = false := beq_eq_false_iff_ne.mpr O
 have E := aM (by rw [M.out, if_neg I, if_neg O] : mutL xs kind uid mode flags nm l = (xs.set k ⟨b.f0, b.f1, b.f2, b.f3.filter (fun x => !delB x), b.f4⟩, 0))
 clear M I O
 obtain ⟨hin, oki, p1, p2, pH, p3, p4⟩ := HL.out
 have HP := aM (And.intro p1 (And.intro p2 (And.intro pH (And.intro p3 p4))))
 obtain ⟨-, -, -, z3, -⟩ := HL.out.cells
 have aC := HL.out.frozen (k * 5 + 3)
 have aP := HL.out.lt
 clear p1 p2 pH p3 p4
 go_wp2_with fail
 refine (mails_delete_any base oki vM b.f3 w2 HP.out.2.2.2.1 hbz.1).mono ?_
 rintro e w3 ⟨v1, rfl, aD, y⟩
 have hgne : ¬ vM.ownBlock = some g := fun e => HP.out.2.1 (HP.out.2.2.2.1.1 g e)
 have hgb := y.2 g aP hgne
 have z3' : w3.cell? ⟨g, k * 5 + 3, none⟩ = some vM := (World.cell?_of_block (w := w2) hgb).trans z3
 have aC' : w3.frozen? ⟨g, k * 5 + 3, none⟩ = false := by rw [← aC]; unfold World.frozen?; rw [hgb]
 have Z := aM (lent_fewer hin HP.out.1 HP.out.2.1 HP.out.2.2.1 HP.out.2.2.2.1 HP.out.2.2.2.2 y aD)
 have aA := aM (KeptA.setCell (p := ⟨g, k * 5 + 3, none⟩) (HK2.out.then_ y (fun q hq => .inl (HP.out.2.2.1.1 q (HP.out.2.2.2.1.1 q hq)))) (.inl hokg) v1)
 obtain ⟨A1, c1, aQ⟩ := Kd.R_slice aD
 subst aQ
 clear aD y hgb z3 aC
 go_wp2
 go_ret2
 exact ⟨_, (Z207), by rw [E.out]; exact Z.out.back, aA.out⟩
def spec_l09Box.f (I : ByteArray) (J : Int) (M : Int) (l0_3 : List (S109)) (s : List ByteArray) : Option (ByteArray × Int × Int × (List (S109)) × List ByteArray) := (some (([] : List (S109)) : List (S109))).bind fun y => (if y.length + l0_3.length < 4398046511104 then ((some (([] : List ByteArray) : List ByteArray)).bind fun D => (if D.length + s.length < 8796093022208 then (some (I, J, M, (y ++ l0_3), (D ++ s))) else (none))) else (none))
theorem spec_l09Box.calls (y : ByteArray) (D : Int) (I : Int) (aQ : Option Addr) (aT : Nat) (l0_3 : List (S109)) (O : Option Addr) (U : Nat) (s : List ByteArray) (X : ByteArray) (Y : Int) (Z : Int) (r4 : List (S109)) (r5 : List ByteArray) (w : World) (aX : Kd.C k109 w aQ l0_3.length l0_3) (a7 : l0_3.length ≤ aT) (aY : Kd.C Kd.string w O s.length s) (a8 : s.length ≤ U) (h : spec_l09Box.f y D I l0_3 s = some (X, Y, Z, r4, r5)) :
  Calls prog 114 #[.agg #[.string y, .int .i64 D, .int .i64 I, .slice aQ l0_3.length aT, .slice O s.length U]] w fun e w' => ∃ v3_ v4_ : Value, e = .returned (.agg #[.string X, .int .i64 Y, .int .i64 Z, v3_, v4_]) ∧ Kd.R k109 109 w' w.heap.size (fun _ => True) v3_ r4 ∧ Kd.R Kd.string 9 w' w.heap.size (fun _ => True) v4_ r5 ∧ Below w.heap.size w w' := by
 have bM := underlying98
 replace aX := aM aX
 replace a7 := aM a7
 replace aY := aM aY
 replace a8 := aM a8
 have HB := aM (Below.refl w.heap.size w)
 have H := h
 clear h
 unfold spec_l09Box.f at H
 obtain ⟨aU, aE⟩ : ∃ y_ : List (S109), y_ = (([] : List (S109))) := ⟨_, rfl⟩
 replace H : (if aU.length + l0_3.length < 4398046511104 then ((some (([] : List ByteArray) : List ByteArray)).bind fun J => (if J.length + s.length < 8796093022208 then (some (y, D, I, (aU ++ l0_3), (J ++ s))) else (none))) else (none)) = some (X, Y, Z, r4, r5) := by first | (rw [aE]; with_reducible exact H) | (have H2_ := (Option.bind_some _ _).symm.trans H; rw [aE]; with_reducible exact H2_) | (have H2_ := (Option.bind_some _ _).symm.trans H; with_reducible exact H2_) | with_reducible exact H | (rw [aE]; exact H) | exact H
 have a9 := aM aE
 clear aE
 obtain ⟨c2, H⟩ := ifS H
 have bC := aM c2
 clear c2
 obtain ⟨aD, aG⟩ : ∃ y_ : List (S109), y_ = (aU ++ l0_3) := ⟨_, rfl⟩
 replace H : ((some (([] : List ByteArray) : List ByteArray)).bind fun J => (if J.length + s.length < 8796093022208 then (some (y, D, I, aD, (J ++ s))) else (none))) = some (X, Y, Z, r4, r5) := by first | (rw [aG]; with_reducible exact H) | (have H2_ := (Option.bind_some _ _).symm.trans H; rw [aG]; with_reducible exact H2_) | (have H2_ := (Option.bind_some _ _).symm.trans H; with_reducible exact H2_) | with_reducible exact H | (rw [aG]; exact H) | exact H
 have bD := aM aG
 clear aG
 obtain ⟨J, aH⟩ : ∃ y_ : List ByteArray, y_ = (([] : List ByteArray)) := ⟨_, rfl⟩
 replace H : (if J.length + s.length < 8796093022208 then (some (y, D, I, aD, (J ++ s))) else (none)) = some (X, Y, Z, r4, r5) := by first | (rw [aH]; with_reducible exact H) | (have H2_ := (Option.bind_some _ _).symm.trans H; rw [aH]; with_reducible exact H2_) | (have H2_ := (Option.bind_some _ _).symm.trans H; with_reducible exact H2_) | with_reducible exact H | (rw [aH]; exact H) | exact H
 have bA := aM aH
 clear aH
 obtain ⟨c3, H⟩ := ifS H
 have bE := aM c3
 clear c3
 obtain ⟨aV, aI⟩ : ∃ y_ : List ByteArray, y_ = (J ++ s) := ⟨_, rfl⟩
 replace H : (some (y, D, I, aD, aV)) = some (X, Y, Z, r4, r5) := by first | (rw [aI]; with_reducible exact H) | (have H2_ := (Option.bind_some _ _).symm.trans H; rw [aI]; with_reducible exact H2_) | (have H2_ := (Option.bind_some _ _).symm.trans H; with_reducible exact H2_) | with_reducible exact H | (rw [aI]; exact H) | exact H
 have bF := aM aI
 clear aI
 simp only [Option.some.injEq, Prod.mk.injEq] at H
 obtain ⟨rfl, rfl, rfl, rfl, rfl⟩ := H
 go_enter func114, ntmps114
 go_wp2_with (first | ((with_reducible refine gD 1 ?_); refine bxF w 1 #[.string y, .int .i64 D, .int .i64 I, .slice aQ l0_3.length aT, .slice O s.length U] 98 (Z0) ?_; intro aJ hg w4 BK196 bN GE196 HB hb; clear hb hg) | ((with_reducible refine gD 2 ?_); refine bxF w 2 #[.string (⟨#[]⟩ : ByteArray), .int .i64 0, .int .i64 0, .slice none 0 0, .slice none 0 0] 98 (Z164) ?_; intro aZ hg w5 BK197 bO GE197 HB hb; have bG := aM ((nL BK196 hg (Z128))); have bH := aM ((nG BK196 hg (Z128))); replace BK196 := aM (kB BK196 (Z128) hb); clear hb hg) | ((with_reducible refine gD 3 ?_); refine Kd.R_lit k109 _ 109 ?hg (N := 3) ?hd (xs := ([] : List (S109))) (inner := []) (ok := fun _ => True) (okp := fun _ => True) ?hr ?hp (fun _ hk => hk) trivial (Below.refl _ _) (Nat.le_refl _) (Z174) ?_; (case hd => rfl); (case hg => rfl); (case hr => first | (go_simp; done) | (go_simp; rfl)); (case hp => exact (Reps.none _ _)); intro bI w6 aK hb hg_ hnew_; clear hg_ hnew_; (first | rw [← a9.out] at aK | (simp only [Int.reduceToNat] at aK; rw [← a9.out] at aK)); have aW := aM (Kd.R_lower aK (below_size (Z61))); replace BK196 := aM (kB BK196 (Z128) hb); replace BK197 := aM (kB BK197 (Z187) hb); replace HB := aM (below_step (Z61) hb); clear hb aK; have bP := bG.out; have bQ := bH.out; refine bD5 BK196 ?_; intros) | ((with_reducible refine gate_builtin (b := .append) (xs := #[.tmp 3, .tmp 5]) rfl ?_); at_builtin; refine Kd.R_append_rows k109 (w0 := w) w.heap.size rfl (.tmp 3) (.tmp 5) 96 109 (.agg #[(.int .i64 0), (.int .i64 0), (.string ⟨#[]⟩)]) 32 rfl underlying96 info109 rfl (Z101) (Z42) bI aU l0_3 _ _ _ (fun _ => True) (fun _ => False) rfl rfl ?aO ?aR (fun _ _ h => h) (fun _ h => h.elim) ?aF ?aB ?aS ?aL ?_; (case aR => repeat (first | exact (Kd.C_below aX.out HB.out) | (with_reducible refine Kd.C_alloc ?_ _) | (with_reducible refine Kd.C_drewN ?_ _) | (with_reducible refine Kd.C_drew ?_))); (case aB => exact (Z61)); (case aF => exact (fun _ _ => trivial)); (case aO => exact (by (with_reducible repeat (first | apply Kd.R_alloc | apply Kd.R_drewN | apply Kd.R_drew)); exact aW.out)); (case aS => exact (below_size (Z61))); (case aL => have := bC.out; omega); intro bR bS ho hb hg hat; rw [← bD.out] at ho; have n0_ := aM (blk_grown (g := aJ) (o := .cells #[.string y, .int .i64 D, .int .i64 I, .slice aQ l0_3.length aT, .slice O s.length U] 98 (0, 0)) (Z128) hg (Kd.R_ne aW.out BK196.out (Z101))); have n1_ := aM (blk_grown (g := aZ) (o := .cells #[.string (⟨#[]⟩ : ByteArray), .int .i64 0, .int .i64 0, .slice none 0 0, .slice none 0 0] 98 (0, 0)) (Z187) hg (Kd.R_ne aW.out BK197.out (Z101))); have n2_ := aM (hb); have n3_ := aM (ho); clear BK196; clear BK197; clear HB; clear aW; have BK196 := n0_; have BK197 := n1_; have HB := n2_; have M := n3_; clear n0_ n1_ n2_ n3_; clear ho hb hg hat; obtain ⟨a2, a3, bJ⟩ := Kd.R_slice M.out; subst bJ; refine bD5 BK196 ?_; intros) | ((with_reducible refine gD 8 ?_); refine Kd.R_lit Kd.string _ 9 ?hg (N := 8) ?hd (xs := ([] : List ByteArray)) (inner := []) (ok := fun _ => True) (okp := fun _ => True) ?hr ?hp (fun _ hk => hk) trivial (Below.refl _ _) (Nat.le_refl _) (Z174) ?_; (case hd => rfl); (case hg => rfl); (case hr => first | (go_simp; done) | (go_simp; rfl)); (case hp => exact (Reps.none _ _)); intro bK bT aN hb hg_ hnew_; clear hg_ hnew_; (first | rw [← bA.out] at aN | (simp only [Int.reduceToNat] at aN; rw [← bA.out] at aN)); replace M := aM (Kd.R_below (by (with_reducible repeat (first | apply Kd.R_alloc | apply Kd.R_drewN | apply Kd.R_drew)); exact (Kd.R_mono (rF 3 (Kd.R_types M.out BK196.out (Z101))) (fun _ h_ => h_.1))) hb); have aP := aM (Kd.R_lower aN (below_size (Z61))); replace BK196 := aM (blk_below (g := aJ) (o := .cells #[.string y, .int .i64 D, .int .i64 I, .slice a2 aD.length a3, .slice O s.length U] 98 (0, 0)) zB hb); replace BK197 := aM (kB BK197 zB hb); replace HB := aM (below_step (Z61) hb); clear hb aN; refine bD5 BK196 ?_; intros) | ((with_reducible refine gate_builtin (b := .append) (xs := #[.tmp 8, .tmp 10]) rfl ?_); at_builtin; refine Kd.R_append_rows Kd.string (w0 := w) w.heap.size rfl (.tmp 8) (.tmp 10) 69 9 (.string ⟨#[]⟩) 16 rfl underlying69 info9 rfl (Z101) (Z42) bK J s _ _ _ (fun _ => True) (fun _ => False) rfl rfl ?aO ?aR (fun _ _ h => h) (fun _ h => h.elim) ?aF ?aB ?aS ?aL ?_; (case aR => repeat (first | exact (Kd.C_below aY.out HB.out) | (with_reducible refine Kd.C_alloc ?_ _) | (with_reducible refine Kd.C_drewN ?_ _) | (with_reducible refine Kd.C_drew ?_))); (case aB => exact (Z61)); (case aF => exact (fun _ _ => trivial)); (case aO => exact (by (with_reducible repeat (first | apply Kd.R_alloc | apply Kd.R_drewN | apply Kd.R_drew)); exact aP.out)); (case aS => exact (below_size (Z61))); (case aL => have := bE.out; omega); intro bU bV ho hb hg hat; rw [← bF.out] at ho; have n0_ := aM (blk_grown (g := aJ) (o := .cells #[.string y, .int .i64 D, .int .i64 I, .slice a2 aD.length a3, .slice O s.length U] 98 (0, 0)) (Z128) hg (Kd.R_ne aP.out BK196.out (Z101))); have n1_ := aM (blk_grown (g := aZ) (o := .cells #[.string (⟨#[]⟩ : ByteArray), .int .i64 0, .int .i64 0, .slice none 0 0, .slice none 0 0] 98 (0, 0)) (Z187) hg (Kd.R_ne aP.out BK197.out (Z101))); have n2_ := aM (Kd.R_over' (by (with_reducible repeat (first | apply Kd.R_alloc | apply Kd.R_drewN | apply Kd.R_drew)); exact M.out) (Kd.R_typed (by (with_reducible repeat (first | apply Kd.R_alloc | apply Kd.R_drewN | apply Kd.R_drew)); exact aP.out)) (Z101) hg); have n3_ := aM (hb); have n4_ := aM (ho); clear BK196; clear BK197; clear M; clear HB; clear aP; have BK196 := n0_; have BK197 := n1_; have M := n2_; have HB := n3_; have bB := n4_; clear n0_ n1_ n2_ n3_ n4_; clear ho hb hg hat; obtain ⟨a5, a6, bL⟩ := Kd.R_slice bB.out; subst bL; refine bD5 BK196 ?_; intros; refine bD5 BK197 ?_; intros))
 refine bodyPost_ret (results_cell_row rfl _ _ aZ 98 #[.string y, .int .i64 D, .int .i64 I, .slice a2 aD.length a3, .slice a5 aV.length a6] (0, 0) _ rfl zB underlying98 rfl (Z18)) rfl ?_
 exact ⟨_, _, Z1, by (with_reducible repeat (first | apply Kd.R_alloc | apply Kd.R_drewN | apply Kd.R_drew)); exact Kd.R_mono (rF 4 (rF 3 (rF 2 (rF 1 (rF 0 (Kd.R_far (p := ⟨aJ, 4, none⟩) (Kd.R_types (Kd.R_types M.out BK196.out (Z101)) BK197.out (Z101)) (fun _ hk => hk.1.2) (.slice a5 aV.length a6))))))) (fun _ hk => trivial), by (with_reducible repeat (first | apply Kd.R_alloc | apply Kd.R_drewN | apply Kd.R_drew)); exact Kd.R_mono (rF 4 (rF 3 (rF 2 (rF 1 (rF 0 (Kd.R_far (p := ⟨aJ, 4, none⟩) (Kd.R_types (Kd.R_types bB.out BK196.out (Z101)) BK197.out (Z101)) (fun _ hk => hk.1.2) (.slice a5 aV.length a6))))))) (fun _ hk => trivial), Z61⟩
def spec_l09Own.l0 : Nat → List (S98) → List (S98) → Int → Option ((List (S98)))
 | 0, _, _, _ => none
 | k + 1, x0, x3, x4 => if x4 < (x0.length : Int) then (if 0 ≤ x4 then ((spec_l09Box.f ((rd_T98 x0 x4).f0) ((rd_T98 x0 x4).f1) ((rd_T98 x0 x4).f2) ((rd_T98 x0 x4).f3) ((rd_T98 x0 x4).f4)).bind fun s => (if x3.length < 1759218604441 then (spec_l09Own.l0 k x0 (x3 ++ [(⟨s.1, s.2.1, s.2.2.1, s.2.2.2.1, s.2.2.2.2⟩ : S98)]) (wrap64 (x4 + 1))) else (none))) else (none)) else (some x3)
def spec_l09Own.f (k : Nat) (l0 : List (S98)) : Option ((List (S98))) := spec_l09Own.l0 k l0 (([] : List (S98))) 0
theorem spec_l09Own.calls (k : Nat) (A0 : Option Addr) (c0 : Nat) (l0 : List (S98)) (r : List (S98)) (w : World) (hr0 : Kd.C k98 w A0 l0.length l0) (aI : l0.length ≤ c0) (h : spec_l09Own.f k l0 = some r) :
  Calls prog 86 #[.slice A0 l0.length c0] w fun e w' => ∃ v0_ : Value, e = .returned (v0_) ∧ Kd.S k98 98 w' w.heap.size (fun _ => True) v0_ r ∧ Below w.heap.size w w' := by
 have bR := underlying98
 replace hr0 := aM hr0
 replace aI := aM aI
 have HB := aM (Below.refl w.heap.size w)
 have H := h
 clear h
 unfold spec_l09Own.f at H
 obtain ⟨aJ, I⟩ : ∃ y_ : List (S98), y_ = (([] : List (S98))) := ⟨_, rfl⟩
 replace H : (spec_l09Own.l0 k l0 aJ 0) = some r := by first | (rw [I]; with_reducible exact H) | (have H2_ := (Option.bind_some _ _).symm.trans H; rw [I]; with_reducible exact H2_) | (have H2_ := (Option.bind_some _ _).symm.trans H; with_reducible exact H2_) | with_reducible exact H | (rw [I]; exact H) | exact H
 have aK := aM I
 clear I
 have H' := aM H
 clear H
 go_enter func86, ntmps86
 go_wp2_with (first | ((with_reducible refine gD 5 ?_); refine Kd.S_lit k98 _ 98 ?hg (N := 5) ?hd (xs := ([] : List (S98))) (inner := []) (ok := fun _ => True) (okp := fun _ => True) ?hr ?hp (fun _ hk => hk) trivial (Below.refl _ _) (Nat.le_refl _) (Z174) ?_; (case hd => rfl); (case hg => rfl); (case hr => first | (go_simp; done) | (go_simp; rfl)); (case hp => exact (Reps.none _ _)); intro bS w2 J hb hg_ hnew_; clear hg_ hnew_; (first | rw [← aK.out] at J | (simp only [Int.reduceToNat] at J; rw [← aK.out] at J)); have a8 := aM (Kd.S_lower J (below_size (Z0))); replace HB := aM (below_step (Z0) hb); clear hb J))
 go_loopg [3, 4] k (fun kq v3 v4 w' => ∃ (M : List (S98)) (s : Int), v4 = .int .i64 s ∧ Aside0 (spec_l09Own.l0 kq l0 M s = some r) ∧ Aside0 (kq ≤ k) ∧ Aside0 (Kd.S k98 98 w' w.heap.size (fun _ => True) v3 M) ∧ Aside0 (Below w.heap.size w w'))
 case atStart => exact ⟨(aJ), (0), (Z3), H', ⟨Nat.le_refl _⟩, ⟨by (with_reducible repeat (first | apply Kd.S_alloc | apply Kd.S_drewN | apply Kd.S_drew)); exact a8.out⟩, ⟨Z0⟩⟩
 case round =>
  clear H'
  obtain ⟨M, s, rfl, HA, HK1, HO_3, HB⟩ := hrel
  cases gk with
  | zero => exact absurd HA.out (by simp [spec_l09Own.l0])
  | succ k1 =>
   have H := HA.out
   clear HA
   simp only [spec_l09Own.l0] at H
   by_cases c4 : s < (l0.length : Int)
   ·rw [if_pos c4] at H
    have bB := decide_eq_true c4
    clear c4
    obtain ⟨c5, H⟩ := ifS H
    have bT := decide_eq_true c5
    clear c5
    obtain ⟨⟨O, U, X, y, D⟩, A6, H⟩ := bindA H
    try dsimp only at H
    obtain ⟨c7, H⟩ := ifS H
    have bD := aM c7
    clear c7
    obtain ⟨aQ, Y⟩ : ∃ y_ : List (S98), y_ = (M ++ [(⟨O, U, X, y, D⟩ : S98)]) := ⟨_, rfl⟩
    replace H : (spec_l09Own.l0 k1 l0 aQ (wrap64 (s + 1))) = some r := by first | (rw [Y]; with_reducible exact H) | (have H2_ := (Option.bind_some _ _).symm.trans H; rw [Y]; with_reducible exact H2_) | (have H2_ := (Option.bind_some _ _).symm.trans H; with_reducible exact H2_) | with_reducible exact H | (rw [Y]; exact H) | exact H
    have bE := aM Y
    clear Y
    have H' := aM H
    clear H
    have aC : 0 ≤ (s : Int) := of_decide_eq_true (Z4)
    have aD : s < (l0.length : Int) := of_decide_eq_true (Z4)
    obtain ⟨bU, bF, bG, bH, bI, bJ, aR, aT, aU, aV, aW, aX, aY, aZ, a2⟩ := at_T98 hr0.out s aC aD
    cases bJ
    replace aR := cB HB.out aR
    replace aT := cB HB.out aT
    replace aU := cB HB.out aU
    replace aV := cB HB.out aV
    replace aW := cB HB.out aW
    have bK := aM aY
    have bL := aM aX
    clear aY aX
    have bM := aM a2
    have bN := aM aZ
    clear a2 aZ
    replace aC := eq_true aC
    replace aD := eq_true aD
    go_wp2_with (first | ((with_reducible refine gC 114 ?_); refine gL 17 func114 #[.agg #[.string ((rd_T98 l0 s).f0), .int .i64 ((rd_T98 l0 s).f1), .int .i64 ((rd_T98 l0 s).f2), .slice bF ((rd_T98 l0 s).f3).length bG, .slice bH ((rd_T98 l0 s).f4).length bI]] ?_; (with_reducible refine (spec_l09Box.calls ((rd_T98 l0 s).f0) ((rd_T98 l0 s).f1) ((rd_T98 l0 s).f2) _ _ ((rd_T98 l0 s).f3) _ _ ((rd_T98 l0 s).f4) O U X y D _ ?Y1 ?Y2 ?Y3 ?Y4 A6.out).mono ?_); (case Y1 => have h_ := Kd.C_below bK.out HB.out; exact tC); (case Y2 => exact bL.out); (case Y3 => have h_ := Kd.C_below bM.out HB.out; exact tC); (case Y4 => exact bN.out); rintro e w8 ⟨bW, bX, rfl, aE, aG, hb⟩; refine ⟨_, rfl, ?_⟩; replace HO_3 := aM (Kd.S_mono (Kd.S_told (Kd.S_told (Kd.S_old (Z111) hb) (Kd.R_base aE)) (Kd.R_base aG)) (fun _ h_ => h_.1)); have Z := aM (Kd.R_lower aE (below_size (Z0))); have aA := aM (Kd.R_lower aG (below_size (Z0))); replace HB := aM (below_step (Z0) hb); (try clear hb); (try clear aE); (try clear aG); obtain ⟨a3, a5, bO⟩ := Kd.R_slice Z.out; subst bO; obtain ⟨a6, a7, bP⟩ := Kd.R_slice aA.out; subst bP) | ((with_reducible refine gate_builtin (b := .append) (xs := #[.tmp 12, .tmp 18]) rfl ?_); at_builtin; refine Kd.S_append k98 (w0 := w) w.heap.size rfl (.tmp 12) (.tmp 18) 33 98 (.agg #[(.string ⟨#[]⟩), (.int .i64 0), (.int .i64 0), (.slice none 0 0), (.slice none 0 0)]) 80 rfl underlying33 info98 rfl (Z101) (Z42) u3 M (⟨O, U, X, y, D⟩ : S98) [.string O, .int .i64 U, .int .i64 X, .slice a3 y.length a5, .slice a6 D.length a7] (fun _ => True) (fun k_ => some k_ = (.slice a3 y.length a5 : Value).ownBlock ∨ some k_ = (.slice a6 D.length a7 : Value).ownBlock) rfl rfl ?aP (fun k_ hk_ => hk_.elim (fun h_ => ((Kd.R_mono (ok' := fun k_ => ((fun _ => True)) k_ ∧ some k_ ≠ (u3 : Value).ownBlock) (Kd.R_apart' (Z.out) (Kd.S_typed HO_3.out) (Z101)) (fun k_ hk => ⟨trivial, hk.2⟩))).1 k_ h_.symm) (fun h_ => ((Kd.R_mono (ok' := fun k_ => ((fun _ => True)) k_ ∧ some k_ ≠ (u3 : Value).ownBlock) (Kd.R_apart' (aA.out) (Kd.S_typed HO_3.out) (Z101)) (fun k_ hk => ⟨trivial, hk.2⟩))).1 k_ h_.symm)) ?aF ?aO ?aB ?aS ?aL ?_; (case aP => exact k98_mkM _ _ _ (⟨O, U, X, y, D⟩ : S98) (Kd.R_mono (Kd.R_tight rfl (Kd.R_mono (ok' := fun k_ => ((fun _ => True)) k_ ∧ some k_ ≠ (u3 : Value).ownBlock) (Kd.R_apart' (Z.out) (Kd.S_typed HO_3.out) (Z101)) (fun k_ hk => ⟨trivial, hk.2⟩))) (fun _ h_ => Or.inl h_)) (Kd.R_mono (Kd.R_tight rfl (Kd.R_mono (ok' := fun k_ => ((fun _ => True)) k_ ∧ some k_ ≠ (u3 : Value).ownBlock) (Kd.R_apart' (aA.out) (Kd.S_typed HO_3.out) (Z101)) (fun k_ hk => ⟨trivial, hk.2⟩))) (fun _ h_ => Or.inr (h_)))); (case aB => exact (Z0)); (case aF => exact (fun _ _ => trivial)); (case aO => exact (by (with_reducible repeat (first | apply Kd.S_alloc | apply Kd.S_drewN | apply Kd.S_drew)); exact Kd.S_mono HO_3.out (fun k_ hk => ⟨trivial, fun e_ => e_.elim (fun h_ => hk.1.2 h_) (fun h_ => hk.2 h_)⟩))); (case aS => exact (below_size (Z0))); (case aL => have := bD.out; omega); intro bY w9 ho hb hg hat; rw [← bE.out] at ho; have n0_ := aM (hb); have n1_ := aM (ho); clear HB; clear HO_3; clear Z; clear aA; have HB := n0_; have bQ := n1_; clear n0_ n1_; clear ho hb hg hat))
    go_roundg k1
    case measure => have := HK1.out; omega
    case rel => exact ⟨(aQ), (wrap64 (s + 1)), (Z3), H', ⟨Z125⟩, ⟨by (with_reducible repeat (first | apply Kd.S_alloc | apply Kd.S_drewN | apply Kd.S_drew)); exact bQ.out⟩, ⟨Z0⟩⟩
   ·rw [if_neg c4] at H
    have bB := decide_eq_false c4
    clear c4
    obtain rfl := oI H
    go_wp2
    go_ret
    exact ⟨_, Z1, Z111, Z0⟩
def spec_l09Mail.l0 : Nat → Int → Int → ByteArray → Int → Int → List (S109) → List ByteArray → Option (Int)
 | 0, _, _, _, _, _, _, _ => none
 | k + 1, x1, x5, y, D, I, s, J => if x5 < (s.length : Int) then (if 0 ≤ x5 then (if ((rd_T109 s x5).f0) = x1 then (some x5) else (spec_l09Mail.l0 k x1 (wrap64 (x5 + 1)) y D I s J)) else (none)) else (some (-1))
def spec_l09Mail.f (k : Nat) (s : ByteArray) (y : Int) (D : Int) (l0_3 : List (S109)) (I : List ByteArray) (a1 : Int) : Option (Int) := spec_l09Mail.l0 k a1 0 s y D l0_3 I
theorem spec_l09Mail.calls (k : Nat) (I : ByteArray) (J : Int) (M : Int) (Y : Option Addr) (Z : Nat) (l0_3 : List (S109)) (aA : Option Addr) (aB : Nat) (s : List ByteArray) (a1 : Int) (r : Int) (w : World) (aC : Kd.C k109 w Y l0_3.length l0_3) (aF : l0_3.length ≤ Z) (aG : Kd.C Kd.string w aA s.length s) (aH : s.length ≤ aB) (h : spec_l09Mail.f k I J M l0_3 s a1 = some r) :
  Calls prog 87 #[.agg #[.string I, .int .i64 J, .int .i64 M, .slice Y l0_3.length Z, .slice aA s.length aB], .int .i64 a1] w fun e w' => e = .returned (.int .i64 r) ∧ Below w.heap.size w w' := by
 have aQ := underlying98
 replace aC := aM aC
 replace aF := aM aF
 replace aG := aM aG
 replace aH := aM aH
 have HB := aM (Below.refl w.heap.size w)
 have H := h
 clear h
 unfold spec_l09Mail.f at H
 have H' := aM H
 clear H
 go_enter func87, ntmps87
 go_wp2_with (first | ((with_reducible refine gD 2 ?_); refine bxF w 2 #[.string I, .int .i64 J, .int .i64 M, .slice Y l0_3.length Z, .slice aA s.length aB] 98 (Z0) ?_; intro aI hg w3 aD aR GE226 HB hb; clear hb hg))
 go_loopg [5] k (fun kq v5 w' => ∃ (x5_1 : Int), v5 = .int .i64 x5_1 ∧ Aside0 (spec_l09Mail.l0 kq a1 x5_1 I J M l0_3 s = some r) ∧ Aside0 (kq ≤ k) ∧ Aside0 (w'.heap[aI]? = some (.cells #[.string I, .int .i64 J, .int .i64 M, (.slice Y l0_3.length Z), (.slice aA s.length aB)] 98 (0, 0))) ∧ Aside0 (Below w.heap.size w w'))
 case atStart => exact ⟨(0), (Z3), H', ⟨Nat.le_refl _⟩, ⟨zB⟩, ⟨Z136⟩⟩
 case round =>
  clear H'
  obtain ⟨x5_1, rfl, HA, HK1, aD, HB⟩ := hrel
  cases gk with
  | zero => exact absurd HA.out (by simp [spec_l09Mail.l0])
  | succ k1 =>
   have H := HA.out
   clear HA
   simp only [spec_l09Mail.l0] at H
   by_cases c4 : x5_1 < (l0_3.length : Int)
   ·rw [if_pos c4] at H
    have aL := decide_eq_true c4
    clear c4
    obtain ⟨c5, H⟩ := ifS H
    have aS := decide_eq_true c5
    clear c5
    by_cases c6 : ((rd_T109 l0_3 x5_1).f0) = a1
    ·rw [if_pos c6] at H
     have aN := beq_iff_eq.mpr c6
     have aO := bne_eq_false_iff_eq.mpr c6
     clear c6
     obtain rfl := oI H
     refine bD5 aD ?_
     intros
     have y : 0 ≤ (x5_1 : Int) := of_decide_eq_true (Z4)
     have D : x5_1 < (l0_3.length : Int) := of_decide_eq_true (Z4)
     obtain ⟨aP, aE, O, U, X⟩ := at_T109 aC.out x5_1 y D
     cases aE
     replace O := cB HB.out O
     replace U := cB HB.out U
     replace X := cB HB.out X
     replace y := eq_true y
     replace D := eq_true D
     go_wp2
     go_ret
     exact ⟨Z1, Z136⟩
    ·rw [if_neg c6] at H
     have aN := beq_eq_false_iff_ne.mpr c6
     have aO := bne_iff_ne.mpr c6
     have H' := aM H
     clear H
     refine bD5 aD ?_
     intros
     have y : 0 ≤ (x5_1 : Int) := of_decide_eq_true (Z4)
     have D : x5_1 < (l0_3.length : Int) := of_decide_eq_true (Z4)
     obtain ⟨aP, aE, O, U, X⟩ := at_T109 aC.out x5_1 y D
     cases aE
     replace O := cB HB.out O
     replace U := cB HB.out U
     replace X := cB HB.out X
     replace y := eq_true y
     replace D := eq_true D
     go_wp2
     go_roundg k1
     case measure => have := HK1.out; omega
     case rel => exact ⟨(wrap64 (x5_1 + 1)), (Z3), H', ⟨Z125⟩, ⟨zB⟩, ⟨Z136⟩⟩
   ·rw [if_neg c4] at H
    have aL := decide_eq_false c4
    clear c4
    obtain rfl := oI H
    refine bD5 aD ?_
    intros
    go_wp2
    go_ret
    exact ⟨Z1, Z136⟩
def spec_l09Flags.f (a0 : Int) (a1 : Int) (s : Int) : Option (Int) := if a1 = 1 then (some s) else (if a1 = 2 then (some (Go.bits .or .i64 a0 s)) else (some (Go.bits .andNot .i64 a0 s)))
theorem spec_l09Flags.calls (a0 : Int) (a1 : Int) (s : Int) (r : Int) (w : World) (h : spec_l09Flags.f a0 a1 s = some r) :
  Calls prog 88 #[.int .i64 a0, .int .i64 a1, .int .i64 s] w fun e w' => e = .returned (.int .i64 r) ∧ Drawn0 w w' := by
 have H := h
 clear h
 unfold spec_l09Flags.f at H
 by_cases c4 : a1 = 1
 ·rw [if_pos c4] at H
  have y := beq_iff_eq.mpr c4
  have D := bne_eq_false_iff_eq.mpr c4
  clear c4
  obtain rfl := oI H
  go_enter func88, ntmps88
  go_wp2
  go_ret
  exact ⟨Z3, Z9⟩
 ·rw [if_neg c4] at H
  have y := beq_eq_false_iff_ne.mpr c4
  have D := bne_iff_ne.mpr c4
  by_cases c5 : a1 = 2
  ·rw [if_pos c5] at H
   have I := beq_iff_eq.mpr c5
   have J := bne_eq_false_iff_eq.mpr c5
   clear c5
   obtain rfl := oI H
   go_enter func88, ntmps88
   go_wp2
   go_ret
   exact ⟨Z3, Z9⟩
  ·rw [if_neg c5] at H
   have I := beq_eq_false_iff_ne.mpr c5
   have J := bne_iff_ne.mpr c5
   obtain rfl := oI H
   go_enter func88, ntmps88
   go_wp2
   go_ret
   exact ⟨Z3, Z9⟩
def ApRet (w : World) (q : List S98 × Int) (e : Ending) (w' : World) : Prop :=
 ∃ v, e = .returned (.tuple #[v, .int .i64 q.2]) ∧ (q.2 = 0 → Kd.S k98 98 w' w.heap.size (fun _ => True) v q.1) ∧ Below w.heap.size w w'
theorem old_cell {w W' : World} (hk : Below w.heap.size w W') {p : Addr} {u : Value} (h : w.cell? p = some u) : W'.cell? p = some u := (hk.cell (World.block_lt_of_cell? w _ h)).trans h
theorem R_empty_at {α : Type} (d : Kd α) {W : World} {base e g : Nat} {ok : Nat → Prop} (hb : W.heap[g]? = some (.cells #[] e (0, 0))) (hbase : base ≤ g) (hok : ok g) : Kd.R d e W base ok (.slice (some ⟨g, 0, none⟩) 0 0) [] :=
 ⟨fun k hk => (by simp [Value.ownBlock] at hk; exact hk ▸ hok), [], ⟨Z174, .inr ⟨g, 0, #[], rfl, hbase, hb, Nat.le_refl _, Nat.zero_le _, Z174, Z174⟩⟩, Reps.none _ _⟩
theorem S_append_at {P : Program} {ops : Array Oper} {o : Oper} {a : Act} {Q : Exit → Act → World → Prop} {Kc : Act → World → Prop} {α : Type} (d : Kd α) {w0 W : World} (base : Nat) (hw : Region.wanted o (yielded ops a.tmps) = true) (s x : Operand) (t e : TypeId) (z : Value) (bytes : Nat)
  (ho : o.op = .call { callee := .builtin .append, args := #[s, x], argTypes := #[t, t] })
  (ht : P.underlying t = some (.slice e)) (hinfo : (P.info? e).map (fun i => (i.zero, i.size, i.bytes)) = some (some z, d.sz, bytes)) (hz : z.cells.size = d.sz) (D : 0 < d.sz) (I : 0 < bytes)
  (v : Value) (xs : List α) (p : α) (cs : List Value) (gx c : Nat) (ok okp : Nat → Prop) (hs : a.eval s = v) (hx : a.eval x = .slice (some ⟨gx, 0, none⟩) 1 c) (hblk : W.heap[gx]? = some (.cells cs.toArray e (0, 0))) (hp : d.M W base okp p cs) (hokp : ∀ k, okp k → ok k ∧ some k ≠ v.ownBlock) (hfresh : ∀ k, W.heap.size ≤ k → ok k)
  (HO : Kd.S d e W base (fun k => ok k ∧ ¬ okp k) v xs) (HB : Below base w0 W) (hbase : base ≤ W.heap.size) (hl : (xs.length + 1) * bytes ≤ 140737488355328)
  (h : ∀ y w1, Kd.S d e w1 base ok y (xs ++ [p]) → Below base w0 w1 → W.grownBy w1 v.ownBlock → (y.ownBlock = v.ownBlock ∨ ∃ b, y.ownBlock = some b ∧ W.heap.size ≤ b) → Kc (a.put o.dst y) w1) :
  if Region.wanted o (yielded ops a.tmps) = true then Oper.wp P o a W Kc Q else Kc (a.put o.dst undef) W := by
 obtain ⟨f, hf, hR⟩ := Kd.S_tag HO xs.length okp (fun _ hk h2 => h2.2 hk)
 refine Kd.R_append_rows_step (Kd.tag f d) (Rr := fun q c => q = (p, xs.length) ∧ c = cs) base hw s x t e z bytes ho ht hinfo hz D I v xs.zipIdx [(p, xs.length)] (some ⟨gx, 0, none⟩) 1 c ok okp hs hx (Kd.R_mono hR (fun _ hk => hk.1)) ⟨rfl, Z101, fun _ => ⟨_, rfl, fun j q hj => ?_⟩⟩ ?_ hokp hfresh HB hbase (by rw [List.length_zipIdx]; exact hl) ?_
 ·obtain rfl : j = 0 := by
   rcases j with _ | j
   ·rfl
   ·simp at hj
  simp at hj
  refine ⟨cs, d.K_len (d.K_of_M hp), ⟨hj.symm, rfl⟩, fun i u hi => ?_⟩
  have := blk_cell hblk i
  have J : ((⟨gx, 0, none⟩ : Addr).add (0 * (Kd.tag f d).sz + i)) = ⟨gx, i, none⟩ := by
   rw [Nat.zero_mul, Nat.zero_add]; unfold Addr.add; split
   ·next O => simp_all
   ·simp
  rw [J, this]; simpa using hi
 ·rintro q c ⟨rfl, rfl⟩
  exact d.M_mono (fun k hk => ⟨hk, hf k hk⟩) hp
 ·intro y w1 hr
  rw [← Kd.zip_snoc] at hr
  exact h y w1 ⟨f, hr⟩
theorem S_append_at2 {P : Program} {ops : Array Oper} {o : Oper} {a : Act} {Q : Exit → Act → World → Prop} {Kc : Act → World → Prop} {α : Type} (d : Kd α) {w0 W : World} (base : Nat) (hw : Region.wanted o (yielded ops a.tmps) = true) (s x : Operand) (t e : TypeId) (z : Value) (bytes : Nat)
  (ho : o.op = .call { callee := .builtin .append, args := #[s, x], argTypes := #[t, t] })
  (ht : P.underlying t = some (.slice e)) (hinfo : (P.info? e).map (fun i => (i.zero, i.size, i.bytes)) = some (some z, d.sz, bytes)) (hz : z.cells.size = d.sz) (I : 0 < d.sz) (J : 0 < bytes)
  (v : Value) (xs : List α) (p : α) (csf : Nat → Nat → List Value) (gx c y g2 : Nat) (O U : Operand) (ok okp : Nat → Prop) (X : a.eval O = .slice (some ⟨y, 0, none⟩) 0 0) (Y : a.eval U = .slice (some ⟨g2, 0, none⟩) 0 0) (hs : a.eval s = v) (hx : a.eval x = .slice (some ⟨gx, 0, none⟩) 1 c) (hblk : W.heap[gx]? = some (.cells (csf y g2).toArray e (0, 0))) (hp : d.M W base okp p (csf y g2)) (hokp : ∀ k, okp k → ok k ∧ some k ≠ v.ownBlock) (hfresh : ∀ k, W.heap.size ≤ k → ok k)
  (HO : Kd.S d e W base (fun k => ok k ∧ ¬ okp k) v xs) (HB : Below base w0 W) (hbase : base ≤ W.heap.size) (hl : (xs.length + 1) * bytes ≤ 140737488355328)
  (h : ∀ D w1, Kd.S d e w1 base ok D (xs ++ [p]) → Below base w0 w1 → W.grownBy w1 v.ownBlock → (D.ownBlock = v.ownBlock ∨ ∃ b, D.ownBlock = some b ∧ W.heap.size ≤ b) → Kc (a.put o.dst D) w1) :
  if Region.wanted o (yielded ops a.tmps) = true then Oper.wp P o a W Kc Q else Kc (a.put o.dst undef) W :=
 S_append_at d base hw s x t e z bytes ho ht hinfo hz I J v xs p (csf y g2) gx c ok okp hs hx hblk hp hokp hfresh HO HB hbase hl h
theorem blk_made {W : World} {o : Obj} {g : Nat} (h : g = W.heap.size) : (W.alloc o).heap[g]? = some o := by rw [h]; simpa using heap_alloc_new W o
theorem findS_ev (u : ByteArray) (l : List S98) (hl : l.length ≤ 1099511627776) : Ev (fun k => spec_l09Find.f k l u) (idxN u l 0) := by
 have loop : ∀ (m i : Nat), i + m = l.length → Ev (fun k => spec_l09Find.l0 k l u i) (idxN u (l.drop i) i) := by
  intro m
  induction m with
  | zero => intro i hi; rw [List.drop_of_length_le (Z42)]; exact Ev.step (fun _ => spec_l09Find.l0.eq_2 ..) (ev_neg (Z42) (ev_some rfl))
  | succ m ih =>
   intro i hi
   have hlt : i < l.length := by omega
   refine Ev.step (fun _ => spec_l09Find.l0.eq_2 ..) (ev_pos (Z42) (ev_pos (Z42) ?_))
   rw [idxN_drop u l i hlt, w64n (Z42)]
   by_cases h : (rd_T98 l (i : Int)).f0.toList = u.toList
   ·rw [if_pos h]; exact ev_pos h (ev_some rfl)
   ·rw [if_neg h]; exact ev_neg h (ih (i + 1) (Z42))
 unfold spec_l09Find.f
 have := loop l.length 0 (Z42)
 rwa [List.drop_zero] at this
theorem mailS_ev (n : ByteArray) (v x : Int) (l : List S109) (ks : List ByteArray) (hl : l.length ≤ 1099511627776) (u : Int) : Ev (fun k => spec_l09Mail.f k n v x l ks u) (idxU u l 0) := by
 have loop : ∀ (m i : Nat), i + m = l.length → Ev (fun k => spec_l09Mail.l0 k u i n v x l ks) (idxU u (l.drop i) i) := by
  intro m
  induction m with
  | zero => intro i hi; rw [List.drop_of_length_le (Z42)]; exact Ev.step (fun _ => spec_l09Mail.l0.eq_2 ..) (ev_neg (Z42) (ev_some rfl))
  | succ m ih =>
   intro i hi
   have hlt : i < l.length := by omega
   refine Ev.step (fun _ => spec_l09Mail.l0.eq_2 ..) (ev_pos (Z42) (ev_pos (Z42) ?_))
   rw [idxU_drop u l i hlt, w64n (Z42)]
   by_cases h : (rd_T109 l (i : Int)).f0 = u
   ·rw [if_pos h]; exact ev_pos h (ev_some rfl)
   ·rw [if_neg h]; exact ev_neg h (ih (i + 1) (Z42))
 unfold spec_l09Mail.f
 have := loop l.length 0 (Z42)
 rwa [List.drop_zero] at this
theorem ownS_ev (l : List S98) (hl : l.length ≤ 1048576) (hm : ∀ b ∈ l, b.f3.length ≤ 1048576 ∧ b.f4.length ≤ 1048576) : Ev (fun k => spec_l09Own.f k l) l := by
 have loop : ∀ (m i : Nat), i + m = l.length → Ev (fun k => spec_l09Own.l0 k l (l.take i) i) l := by
  intro m
  induction m with
  | zero => intro i hi; rw [List.take_of_length_le (Z42)]; exact Ev.step (fun _ => spec_l09Own.l0.eq_2 ..) (ev_neg (Z42) (ev_some rfl))
  | succ m ih =>
   intro i hi
   have hlt : i < l.length := by omega
   have hz := hm l[i] (List.getElem_mem hlt)
   refine Ev.step (fun _ => spec_l09Own.l0.eq_2 ..) (ev_pos (Z42) (ev_pos (Z42) ?_))
   rw [rdBox l i hlt, w64n (Z42)]
   have e : spec_l09Box.f l[i].f0 l[i].f1 l[i].f2 l[i].f3 l[i].f4 = some (l[i].f0, l[i].f1, l[i].f2, l[i].f3, l[i].f4) := by
    unfold spec_l09Box.f
    simp
    omega
   rw [e]
   refine ev_pos (by rw [List.length_take]; omega) ?_
   have := ih (i + 1) (Z42)
   rwa [List.take_succ_eq_append_getElem hlt] at this
 unfold spec_l09Own.f
 exact loop l.length 0 (Z42)
theorem item_cells {w : World} {ad : Addr} {l : List S130} (h : Kd.C k130 w (some ad) l.length l) (k : Nat) (hk : k < l.length) : w.cell? (ad.add (k * 2)) = some (.string (rd_T130 l (k : Int)).f0) ∧ w.cell? ⟨(ad.add (k * 2)).block, (ad.add (k * 2)).off + 1, none⟩ = some (.string (rd_T130 l (k : Int)).f1) := by
 obtain ⟨ad', e, s, h1⟩ := at_T130 h (k : Int) (Z42) (Z42)
 cases e
 exact ⟨s, h1⟩
theorem s_flags (was mode flags : Int) (w : World) : Calls prog 88 #[.int .i64 was, .int .i64 mode, .int .i64 flags] w fun e w' => e = .returned (.int .i64 (newFlags mode was flags)) ∧ w' = w := by
 by_cases s : mode = 1
 ·have y : newFlags mode was flags = flags := if_pos s
  have I : (mode == 1) = true := beq_iff_eq.mpr s
  rw [y]
  clear y s
  go_enter func88, ntmps88
  go_wp2
  go_ret
  exact ⟨rfl, rfl⟩
 have I : (mode == 1) = false := beq_eq_false_iff_ne.mpr s
 by_cases D : mode = 2
 ·have y : newFlags mode was flags = Go.bits .or .i64 was flags := by unfold newFlags; rw [if_neg s, if_pos D]
  have J : (mode == 2) = true := beq_iff_eq.mpr D
  rw [y]
  clear y s D
  go_enter func88, ntmps88
  go_wp2
  go_ret
  exact ⟨rfl, rfl⟩
 have y : newFlags mode was flags = Go.bits .andNot .i64 was flags := by unfold newFlags; rw [if_neg s, if_neg D]
 have J : (mode == 2) = false := beq_eq_false_iff_ne.mpr D
 rw [y]
 clear y s D
 go_enter func88, ntmps88
 go_wp2
 go_ret
 exact ⟨rfl, rfl⟩
theorem s_apply (A0 : Option Addr) (c0 : Nat) (xs : List S98) (kind uid mode flags : Int) (nm : ByteArray) (A : Option Addr) (c : Nat) (l : List S130) (w : World) (hx : Kd.C k98 w A0 xs.length xs) (a6 : xs.length ≤ c0) (hit : Kd.C k130 w A l.length l)
  (hX : xs.length ≤ 1048576) (hM : ∀ b ∈ xs, b.f3.length ≤ 1048576 ∧ b.f4.length ≤ 1048576) (hl : l.length ≤ 1048576) :
  Calls prog 55 #[.slice A0 xs.length c0, .agg #[.int .i64 kind, .int .i64 uid, .int .i64 mode, .int .i64 flags, .string nm, .slice A l.length c]] w (ApRet w (mutL xs kind uid mode flags nm l)) := by
 have HX := aM (Kd.C_alloc hx (.cells #[.int .i64 kind, .int .i64 uid, .int .i64 mode, .int .i64 flags, .string nm, .slice A l.length c] 103))
 have HIT := aM (Kd.C_alloc hit (.cells #[.int .i64 kind, .int .i64 uid, .int .i64 mode, .int .i64 flags, .string nm, .slice A l.length c] 103))
 have BX := aM (show (w.alloc (.cells #[.int .i64 kind, .int .i64 uid, .int .i64 mode, .int .i64 flags, .string nm, .slice A l.length c] 103)).heap[w.heap.size]? = some (.cells #[.int .i64 kind, .int .i64 uid, .int .i64 mode, .int .i64 flags, .string nm, .slice A l.length c] 103 (0, 0)) from by simpa using heap_alloc_new w _)
 have HB := aM (show Below w.heap.size w (w.alloc (.cells #[.int .i64 kind, .int .i64 uid, .int .i64 mode, .int .i64 flags, .string nm, .slice A l.length c] 103)) from Below.alloc (Below.refl _ _) (Nat.le_refl _) _)
 have HZ := aM (show w.heap.size < (w.alloc (.cells #[.int .i64 kind, .int .i64 uid, .int .i64 mode, .int .i64 flags, .string nm, .slice A l.length c] 103)).heap.size from by simp)
 obtain ⟨y, bH⟩ := (findS_ev nm xs (Z42)).rounds
 have HF := aM bH
 obtain ⟨D, bI⟩ := (ownS_ev xs hX hM).rounds
 have HO := aM bI
 have HM := aM hM
 clear hx hit hM bH bI
 go_enter func55, ntmps55
 go_upto_region 1 with (fail)
 generalize bR : w.alloc (.cells #[.int .i64 kind, .int .i64 uid, .int .i64 mode, .int .i64 flags, .string nm, .slice A l.length c] 103) = W1 at HX HIT BX HB HZ ⊢
 clear bR
 generalize I : w.heap.size = x0 at BX ⊢
 have cJ := aM I
 clear I
 have y4 : W1.cell? ⟨x0, 4, none⟩ = some (.string nm) := (blk_cell BX.out 4).trans rfl
 go_wp2_with fail
 refine (spec_l09Find.calls y A0 c0 xs nm (idxN nm xs 0) _ (by with_reducible repeat (first | exact HX.out | apply Kd.C_drewN | apply Kd.C_drew)) a6 HF.out).mono ?_
 rintro e w2 ⟨rfl, hd⟩
 have aE : Below W1.heap.size W1 w2 := by obtain ⟨nd, rfl⟩ := hd; exact below_drewN (Below.refl _ _) _
 have X := aM (Kd.C_below HX.out aE)
 have a7 := aM (Kd.C_below HIT.out aE)
 have O := aM (blk_below BX.out aE)
 have HB2 := aM (Below.trans HB.out (aE.mono (Nat.le_of_lt HZ.out)))
 have J := aM (show w.heap.size < w2.heap.size from Nat.lt_of_lt_of_le HZ.out aE.size)
 clear HX HIT BX HB HZ y4 aE hd
 have y0 : w2.cell? ⟨x0, 0, none⟩ = some (.int .i64 kind) := (blk_cell O.out 0).trans rfl
 have y1 : w2.cell? ⟨x0, 1, none⟩ = some (.int .i64 uid) := (blk_cell O.out 1).trans rfl
 have y2 : w2.cell? ⟨x0, 2, none⟩ = some (.int .i64 mode) := (blk_cell O.out 2).trans rfl
 have y3 : w2.cell? ⟨x0, 3, none⟩ = some (.int .i64 flags) := (blk_cell O.out 3).trans rfl
 have y4 : w2.cell? ⟨x0, 4, none⟩ = some (.string nm) := (blk_cell O.out 4).trans rfl
 have y5 : w2.cell? ⟨x0, 5, none⟩ = some (.slice A l.length c) := (blk_cell O.out 5).trans rfl
 by_cases y : kind = 1
 ·have t1 : (kind == 1) = true := beq_iff_eq.mpr y
  by_cases hn : 0 ≤ idxN nm xs 0
  ·have tn : decide (0 ≤ idxN nm xs 0) = true := decide_eq_true hn
   have E := aM (by unfold mutL; rw [if_pos y, if_pos hn] : mutL xs kind uid mode flags nm l = (xs, 9))
   clear y hn
   go_wp2
   go_ret2
   exact ⟨_, (Z207), by rw [E.out]; simp, HB2.out⟩
  have tn : decide (0 ≤ idxN nm xs 0) = false := decide_eq_false hn
  by_cases h4 : xs.length = 4
  ·have t4 : ((xs.length : Int) == 4) = true := beq_iff_eq.mpr (Z42)
   have E := aM (by unfold mutL; rw [if_pos y, if_neg hn, if_pos h4] : mutL xs kind uid mode flags nm l = (xs, 7))
   clear y hn h4
   go_wp2
   go_ret2
   exact ⟨_, (Z207), by rw [E.out]; simp, HB2.out⟩
  have t4 : ((xs.length : Int) == 4) = false := beq_eq_false_iff_ne.mpr (Z42)
  have E := aM (by unfold mutL; rw [if_pos y, if_neg hn, if_neg h4] : mutL xs kind uid mode flags nm l = (xs ++ [⟨nm, (xs.length : Int) + 1, 1, [], []⟩], 0))
  clear y hn h4
  have X' := X.out
  have bT : (xs.length + 1) * 80 ≤ 140737488355328 := by omega
  have hwr : IntKind.i64.wrap ((xs.length : Int) + 1) = (xs.length : Int) + 1 := IntWalk.i64_in _ (Z42)
  go_wp2_with fail
  go_region_held3 (fun W => W.cell? ⟨x0, 4, none⟩ = some (.string nm))
   (first | assumption | exact old_cell (below_alloc (Below.refl _ _) _) (Z204) | exact old_cell R2.out y4 | exact old_cell (Z204) (Z204) | go_keep)
   (first
    | (go_at_call 86; refine (spec_l09Own.calls D A0 c0 xs xs _ (by (with_reducible repeat (first | apply Kd.C_alloc | apply Kd.C_drewN | apply Kd.C_drew)); exact X') a6 HO.out).mono ?_; rintro e w3 ⟨v0, rfl, hS, hb⟩; obtain ⟨N3, HN3, aG⟩ : ∃ N3, Aside0 (N3 = _) ∧ Aside0 (Kd.S k98 98 w3 N3 (fun k => N3 ≤ k ∧ k < w3.heap.size) v0 xs) := ⟨_, ⟨rfl⟩, ⟨Kd.S_mono (Kd.S_bound hS) (fun k hk => ⟨hk.2.1, hk.2.2.1⟩)⟩⟩)
    | (refine S_append_at2 k98 (w0 := w2) w2.heap.size (Z117) (.tmp 30) (.tmp 39) 33 98 (.agg #[.string ⟨#[]⟩, .int .i64 0, .int .i64 0, .slice none 0 0, .slice none 0 0]) 80 rfl underlying33 info98 rfl (Z101) (Z101) v0 xs (⟨nm, (xs.length : Int) + 1, 1, [], []⟩ : S98) (fun g1 g2 => [.string nm, .int .i64 ((xs.length : Int) + 1), .int .i64 1, .slice (some ⟨g1, 0, none⟩) 0 0, .slice (some ⟨g2, 0, none⟩) 0 0]) _ _ _ _ (.tmp 36) (.tmp 37) (fun _ => True) (fun k => ¬ (N3 ≤ k ∧ k < w3.heap.size)) rfl rfl rfl rfl ?_ ?_ ?_ (fun _ _ => trivial) ?_ ?_ ?_ bT ?_; (focus (exact (Z156))); (focus (exact k98_mkM _ _ _ (⟨nm, (xs.length : Int) + 1, 1, [], []⟩ : S98) (R_empty_at _ (Z156) (Z45) (Z45)) (R_empty_at _ (Z156) (Z45) (Z45)))); (focus (exact fun k hk => ⟨trivial, fun e => hk ((Kd.S_R aG.out).1 k e.symm)⟩)); (focus ((with_reducible repeat (first | apply Kd.S_alloc | apply Kd.S_drewN | apply Kd.S_drew)); exact Kd.S_lower (Kd.S_mono aG.out (fun k hk => ⟨trivial, not_not_intro hk⟩)) (Z45))); (focus (exact (by repeat (first | (with_reducible exact Below.refl _ _) | (with_reducible refine below_alloc ?_ _) | (with_reducible refine below_drew1 ?_) | (refine Below.trans ?_ (hb.mono (Z45))))))); (focus (exact (Z45))); intro v1 w4 ho hbb hg hat; obtain ⟨A1, c1, hv⟩ := Kd.S_slice ho; rw [List.length_append, List.length_singleton] at hv; subst hv; have R1 := aM ho; have R2 := aM hbb; clear ho hbb hg hat))
  all_goals
   (go_wp2
    go_ret2
    exact ⟨_, (Z207), fun _ => by rw [E.out]; exact Kd.S_lower R1.out (Nat.le_of_lt J.out), Below.trans HB2.out (R2.out.mono (Nat.le_of_lt J.out))⟩)
 have t1 : (kind == 1) = false := beq_eq_false_iff_ne.mpr y
 rcases idxN_lt nm xs 0 with hn | ⟨k, hk, -, hkl⟩
 ·have hn : idxN nm xs 0 < 0 := by simpa using hn
  have tn : decide (idxN nm xs 0 < 0) = true := decide_eq_true hn
  have E := aM (by unfold mutL; rw [if_neg y, if_pos hn] : mutL xs kind uid mode flags nm l = (xs, 5))
  clear y hn
  go_wp2
  go_ret2
  exact ⟨_, (Z207), by rw [E.out]; simp, HB2.out⟩
 have hk : idxN nm xs 0 = (k : Int) := by simpa using hk
 have hkl : k < xs.length := by omega
 have hnn : ¬ idxN nm xs 0 < 0 := by omega
 obtain ⟨b, hb⟩ : ∃ b, rd_T98 xs (k : Int) = b := ⟨_, rfl⟩
 have hbm : b ∈ xs := by rw [← hb, rdBox xs k hkl]; exact List.getElem_mem hkl
 have hbz := aM (HM.out b hbm)
 have E0 := aM (by unfold mutL; rw [if_neg y, if_neg hnn, hk, hb, Int.toNat_natCast] : mutL xs kind uid mode flags nm l = if kind = 2 then (xs.set k (addL b l).1, (addL b l).2)
  else if kind = 3 then (xs.set k (flagsL b uid mode flags).1, (flagsL b uid mode flags).2) else (xs.set k ⟨b.f0, b.f1, b.f2, b.f3.filter (fun x => !delB x), b.f4⟩, 0))
 rw [hk]
 have tn : decide ((k : Int) < 0) = false := decide_eq_false (Z42)
 have h0 : (0 : Int) ≤ (k : Int) := by omega
 have h1 : (k : Int) < (xs.length : Int) := by omega
 have X' := X.out
 go_wp2_with fail
 refine (spec_l09Own.calls D A0 c0 xs xs _ (by (with_reducible repeat (first | apply Kd.C_alloc | apply Kd.C_drewN | apply Kd.C_drew)); exact X') a6 HO.out).mono ?_
 rintro e w3 ⟨v0, rfl, hS, Y⟩
 have hN : w2.heap.size ≤ w3.heap.size := Y.size
 have aG := aM (show Kd.S k98 98 w3 w2.heap.size (fun k => w2.heap.size ≤ k) v0 xs from Kd.S_mono (Kd.S_bound hS) (fun k hk => hk.2.1))
 obtain ⟨g, cap, rfl, -, hgl, -⟩ := Kd.S_form aG.out (Z42)
 obtain ⟨vM, vK, hL⟩ := Lent.of_S aG.out (i := k) hkl (fun q hq => Nat.le_trans hN hq)
 rw [hb] at hL
 have HL := aM hL
 have hokg : w2.heap.size ≤ g := (Kd.S_R aG.out).1 g (by simp [Value.ownBlock])
 have aN := aM (Below.trans HB2.out (Y.mono (Nat.le_of_lt J.out)))
 have cL := aM (Kd.C_below a7.out Y)
 have aO := aM (blk_below O.out Y)
 have HN := aM hN
 obtain ⟨ok, hok⟩ : ∃ ok : Nat → Prop, ok = fun q => w2.heap.size ≤ q := ⟨_, rfl⟩
 have hokn : ∀ q, w2.heap.size ≤ q → ok q := fun q h => by rw [hok]; exact h
 have hnok : ∀ q, ok q → w2.heap.size ≤ q := fun q h => by rw [hok] at h; exact h
 have HWW := aM (fun (wr : World) (hq : KeptA w3 wr ok) => (Below.trans Y (hq.is_below hN hnok) : Below w2.heap.size w2 wr))
 have HWB := aM (fun (wr : World) (hq : KeptA w3 wr ok) => Below.trans HB2.out ((HWW.out wr hq).mono (Nat.le_of_lt J.out)))
 have HWC := aM (fun (wr : World) (hq : KeptA w3 wr ok) => Kd.C_below a7.out (HWW.out wr hq))
 have HWX := aM (fun (wr : World) (hq : KeptA w3 wr ok) => blk_below O.out (HWW.out wr hq))
 have HLW : Lent w2.heap.size ok w3 g xs.length cap xs k b vM vK := by rw [hok]; exact hL
 have HLK := aM HLW
 have hokg' : ok g := hokn g hokg
 have HNK := aM hokn
 clear hok HLW hokn hnok
 clear hS hL hb hk hbm hnn X HB2 a7 O X' hN y t1
 clear y0 y1 y2 y3 y4 y5
 have y0 : w3.cell? ⟨x0, 0, none⟩ = some (.int .i64 kind) := (blk_cell aO.out 0).trans rfl
 have y1 : w3.cell? ⟨x0, 1, none⟩ = some (.int .i64 uid) := (blk_cell aO.out 1).trans rfl
 have y2 : w3.cell? ⟨x0, 2, none⟩ = some (.int .i64 mode) := (blk_cell aO.out 2).trans rfl
 have y3 : w3.cell? ⟨x0, 3, none⟩ = some (.int .i64 flags) := (blk_cell aO.out 3).trans rfl
 have y5 : w3.cell? ⟨x0, 5, none⟩ = some (.slice A l.length c) := (blk_cell aO.out 5).trans rfl
 by_cases D : kind = 2
 ·have t2 : (kind == 2) = true := beq_iff_eq.mpr D
  have E := aM (by rw [E0.out, if_pos D] : mutL xs kind uid mode flags nm l = (xs.set k (addL b l).1, (addL b l).2))
  clear E0 D Y
  have hgf := HLK.out.lt
  go_wp2
  go_loopg [9, 94, 107, 115] l.length (fun gg s9 cM cN cO wr => ∃ (kk : Nat) (b' : S98) (vM' vK' : Value), kk ≤ l.length ∧ l.length - kk ≤ gg ∧ s9 = .int .i64 kk ∧ Aside0 (Lent w2.heap.size ok wr g xs.length cap xs k b' vM' vK') ∧ Aside0 (addL b l = addL b' (l.drop kk)) ∧ Aside0 (KeptA w3 wr ok) ∧ Aside0 (b'.f3.length ≤ 1048576 + kk ∧ b'.f4.length ≤ 1048576 + kk))
  case atStart => exact ⟨0, b, vM, vK, Nat.zero_le _, Z42, rfl, HLK, ⟨rfl⟩, ⟨KeptA.refl _ _⟩, ⟨by have := hbz.out; omega, by have := hbz.out; omega⟩⟩
  case round =>
   obtain ⟨kk, b', vM', vK', hkk, hgg, rfl, HB, HA, HK, HZ⟩ := hrel
   have y5 : wr.cell? ⟨x0, 5, none⟩ = some (.slice A l.length c) := (blk_cell (HWX.out wr HK.out) 5).trans rfl
   by_cases hlt : kk < l.length
   ·have hltz : (kk : Int) < (l.length : Int) := by omega
    have h0k : 0 ≤ (kk : Int) := by omega
    obtain ⟨ad, e, I, hx1⟩ := at_T130 (HWC.out wr HK.out) kk h0k hltz
    cases e
    simp only [Int.toNat_natCast] at I hx1
    have HIC := aM (fun (wc : World) (hq : KeptA w3 wc ok) => item_cells (HWC.out wc hq) kk hlt)
    have hstep := aM (addL_drop b' l kk hlt)
    have hgl' := HB.out.lt
    obtain ⟨Z, c4, rfl, aX, aP⟩ := HB.out.keys
    obtain ⟨U, c3, rfl, aY, aA⟩ := HB.out.mails
    obtain ⟨k9, bL⟩ := (hasS_ev b'.f4 (rd_T130 l (kk : Int)).f0 (by have := HZ.out; omega)).rounds
    have HQ := aM bL
    have bB := aM aP
    clear aP aA bL
    generalize (rd_T130 l (kk : Int)).f0 = q0 at *
    generalize (rd_T130 l (kk : Int)).f1 = q1 at *
    obtain ⟨z0, z1, z2, z3, z4⟩ := HB.out.cells
    go_upto_region 24 with (fail)
    cases hh : hasB b'.f4 q0 with
    | true =>
     rw [hh] at HQ
     go_quiet (first | (go_at_call 82; refine (spec_l06Has.calls k9 Z c4 b'.f4 q0 true _ (Kd.C_drewN bB.out _) aX HQ.out).mono ?_; rintro e w' ⟨rfl, ⟨nd, rfl⟩⟩; exact ⟨rfl, _, World.drewN_drewN _ _ _⟩))
     go_wp2
     go_ret2
     have s : mutL xs kind uid mode flags nm l = (xs.set k b', 9) := by rw [E.out, HA.out, hstep.out, hh]; rfl
     exact ⟨_, (by rw [s]; rfl), by rw [s]; simp, HWB.out _ (HK.out.drewN _)⟩
    | false =>
     rw [hh] at HQ
     have aQ := aM (HA.out.trans hstep.out)
     rw [hh] at aQ
     clear hstep
     go_quiet (first | (go_at_call 82; refine (spec_l06Has.calls k9 Z c4 b'.f4 q0 false _ (Kd.C_drewN bB.out _) aX HQ.out).mono ?_; rintro e w' ⟨rfl, ⟨nd, rfl⟩⟩; exact ⟨rfl, _, World.drewN_drewN _ _ _⟩))
     by_cases aZ : b'.f4.length = 60
     ·have bX : ((b'.f4.length : Int) == 60) = true := beq_iff_eq.mpr (Z42)
      have HX := aM aZ
      clear aZ
      go_wp2
      go_ret2
      have s : mutL xs kind uid mode flags nm l = (xs.set k b', 17) := by rw [E.out, aQ.out, if_neg (Z174), if_pos HX.out]
      exact ⟨_, (by rw [s]; rfl), by rw [s]; simp, HWB.out _ (HK.out.drewN _)⟩
     have bX : ((b'.f4.length : Int) == 60) = false := beq_eq_false_iff_ne.mpr (Z42)
     have HX := aM aZ
     clear aZ
     by_cases a2 : b'.f3.length = 30
     ·have bY : ((b'.f3.length : Int) == 30) = true := beq_iff_eq.mpr (Z42)
      have HY := aM a2
      clear a2
      go_wp2
      go_ret2
      have s : mutL xs kind uid mode flags nm l = (xs.set k b', 7) := by rw [E.out, aQ.out, if_neg (Z174), if_neg HX.out, if_pos HY.out]
      exact ⟨_, (by rw [s]; rfl), by rw [s]; simp, HWB.out _ (HK.out.drewN _)⟩
     have bY : ((b'.f3.length : Int) == 30) = false := beq_eq_false_iff_ne.mpr (Z42)
     have s := aM (by rw [aQ.out, if_neg (Z174), if_neg HX.out, if_neg a2] : addL b l = addL ⟨b'.f0, b'.f1, wrap64 (b'.f2 + 1), b'.f3 ++ [⟨b'.f2, 0, q1⟩], b'.f4 ++ [q0]⟩ (l.drop (kk + 1)))
     clear a2 HX aQ HA HQ
     go_upto_region 30 with (fail)
     go_cut [142] (fun cP wc => ∃ (bM : Value), Aside0 (Lent w2.heap.size ok wc g xs.length cap xs k ⟨b'.f0, b'.f1, b'.f2, b'.f3 ++ [⟨b'.f2, 0, q1⟩], b'.f4⟩ bM (.slice Z b'.f4.length c4)) ∧ Aside0 (KeptA w3 wc ok))
     case first =>
      obtain ⟨hin, oki, p1, p2, pH, p3, p4⟩ := HB.out
      have HP := aM (And.intro p1 (And.intro p2 (And.intro pH (And.intro p3 p4))))
      have J' := HZ.out
      clear p1 p2 pH p3 p4
      have bC := HB.out.lt
      have bD := HB.out.frozen (k * 5 + 3)
      have hNN := HN.out
      go_region_law (refine Kd.R_append_step k109 w2.heap.size (Z117) (.tmp 127) (.tmp 139) 96 109 (.agg #[.int .i64 0, .int .i64 0, .string ⟨#[]⟩]) 32 rfl underlying96 info109 rfl (Z101) (Z42) (.slice U b'.f3.length c3) b'.f3 (⟨b'.f2, 0, q1⟩ : S109) [.int .i64 b'.f2, .int .i64 0, .string q1] oki (fun _ => False) rfl rfl (k109_mkM _ _ _ _) (fun _ hk => hk.elim) (fun k hk => HP.out.1 k (by simpa using hk)) (by (with_reducible repeat (first | apply Kd.R_alloc | apply Kd.R_drewN | apply Kd.R_drew)); exact HP.out.2.2.2.1) (Below.refl _ _) (by have := HK.out.1; simp; omega) (Z42) ?_; intro v1 w1 ho hb hg hat; obtain ⟨A1, c1, hv⟩ := Kd.R_slice ho; rw [List.length_append, List.length_singleton] at hv; subst hv; have hne : some g ≠ (Value.slice U b'.f3.length c3).ownBlock := (by intro e; exact HP.out.2.1 (HP.out.2.2.2.1.1 g e.symm)); have q3 := grown_cell hg (g := g) (by simpa using bC) hne (k * 5 + 3); have q4 := q3.1.trans z3; have q5 := q3.2.trans bD; have R1 := aM (lent_mails (b := b') hin (fun k hk => HP.out.1 k (by simpa using hk)) HP.out.2.1 (Kd.H_below HP.out.2.2.1 (Z85)) (Kd.R_below HP.out.2.2.2.1 (Z85)) (Kd.R_below HP.out.2.2.2.2 (Z85)) hg ho); have R2 := aM (KeptA.setCell (p := ⟨g, k * 5 + 3, none⟩) (KeptA.of_grown hg (by (with_reducible repeat (first | apply KeptA.drewN | apply KeptA.drew)); exact HK.out) (fun k e => .inl (HP.out.2.2.1.1 k (HP.out.2.2.2.1.1 k e)))) (.inl hokg') (.slice A1 (b'.f3.length + 1) c1)); clear hb hat ho q3)
      all_goals (go_wp2; go_meet; exact ⟨_, R1, R2⟩)
     case rest =>
      obtain ⟨bM, HB2, HK2⟩ := hcut
      clear z0 z1 z2 z3 z4 y5 I hx1
      have y5 : wc.cell? ⟨x0, 5, none⟩ = some (.slice (some ad) l.length c) := (blk_cell (HWX.out wc HK2.out) 5).trans rfl
      obtain ⟨I, -⟩ := HIC.out wc HK2.out
      clear HB HK bB
      obtain ⟨z0, z1, z2, z3, z4⟩ := HB2.out.cells
      obtain ⟨U', c3', rfl, aY', -⟩ := HB2.out.mails
      go_upto_region 31 with (fail)
      go_cut [157] (fun cQ we => ∃ (bN : Value), Aside0 (Lent w2.heap.size ok we g xs.length cap xs k ⟨b'.f0, b'.f1, b'.f2, b'.f3 ++ [⟨b'.f2, 0, q1⟩], b'.f4 ++ [q0]⟩ (.slice U' (b'.f3 ++ [(⟨b'.f2, 0, q1⟩ : S109)]).length c3') bN) ∧ Aside0 (KeptA w3 we ok))
      case first =>
       obtain ⟨hin, oki, p1, p2, pH, p3, p4⟩ := HB2.out
       have HP := aM (And.intro p1 (And.intro p2 (And.intro pH (And.intro p3 p4))))
       have J' := HZ.out
       clear p1 p2 pH p3 p4
       have bC := HB2.out.lt
       have bD := HB2.out.frozen (k * 5 + 4)
       have hNN := HN.out
       go_region_law (refine Kd.R_append_step Kd.string (w0 := wc.drew) (W := wc.drew) w2.heap.size (Z117) (.tmp 147) (.tmp 154) 69 9 (.string ⟨#[]⟩) 16 rfl underlying69 info9 rfl (Z101) (Z42) (.slice Z b'.f4.length c4) b'.f4 q0 [.string q0] oki (fun _ => False) rfl rfl rfl (fun _ hk => hk.elim) (fun k hk => HP.out.1 k (by simpa using hk)) (by (with_reducible repeat (first | apply Kd.R_alloc | apply Kd.R_drewN | apply Kd.R_drew)); exact HP.out.2.2.2.2) (Below.refl _ _) (by have := HK2.out.1; simp; omega) (Z42) ?_; intro v1 w1 ho hb hg hat; obtain ⟨A1, c1, hv⟩ := Kd.R_slice ho; rw [List.length_append, List.length_singleton] at hv; subst hv; have hne : some g ≠ (Value.slice Z b'.f4.length c4).ownBlock := (by intro e; exact HP.out.2.1 (HP.out.2.2.2.2.1 g e.symm)); have q3 := grown_cell hg (g := g) (by simpa using bC) hne (k * 5 + 4); have q4 := q3.1.trans z4; have q5 := q3.2.trans bD; have R1 := aM (lent_keys (b := ⟨b'.f0, b'.f1, b'.f2, b'.f3 ++ [⟨b'.f2, 0, q1⟩], b'.f4⟩) hin (fun k hk => HP.out.1 k (by simpa using hk)) HP.out.2.1 (Kd.H_below HP.out.2.2.1 (Z85)) (Kd.R_below HP.out.2.2.2.1 (Z85)) (Kd.R_below HP.out.2.2.2.2 (Z85)) hg ho); have R2 := aM (KeptA.setCell (p := ⟨g, k * 5 + 4, none⟩) (KeptA.of_grown hg (by (with_reducible repeat (first | apply KeptA.drewN | apply KeptA.drew)); exact HK2.out) (fun k e => .inl (HP.out.2.2.1.1 k (HP.out.2.2.2.2.1 k e)))) (.inl hokg') (.slice A1 (b'.f4.length + 1) c1)); clear hb hat ho q3)
       all_goals (go_wp2; go_meet; exact ⟨_, R1, R2⟩)
      case rest =>
       obtain ⟨bN, aN, bE⟩ := hcut
       clear z0 z1 z2 z3 z4 y5 I HB2 HK2
       obtain ⟨z0, z1, z2, z3, z4⟩ := aN.out.cells
       have cR := aN.out.frozen (k * 5 + 2)
       have a3 := aM (aN.out.setNext (wrap64 (b'.f2 + 1)))
       have b1 := aM (KeptA.setCell (p := ⟨g, k * 5 + 2, none⟩) bE.out (.inl hokg') (.int .i64 (wrap64 (b'.f2 + 1))))
       have J' := HZ.out
       go_wp2
       go_roundg (l.length - (kk + 1))
       case measure => omega
       case rel => exact ⟨kk + 1, _, _, _, Z42, Z42, by go_num, a3, ⟨s.out⟩, b1, ⟨by simp; omega, by simp; omega⟩⟩
   ·have hltz : ¬ (kk : Int) < (l.length : Int) := by omega
    obtain rfl : kk = l.length := by omega
    go_wp2
    go_ret2
    have e := HA.out
    rw [List.drop_of_length_le (Nat.le_refl _)] at e
    have s : mutL xs kind uid mode flags nm l = (xs.set k b', 0) := by rw [E.out, e]; rfl
    exact ⟨_, (by rw [s]; rfl), fun _ => by rw [s]; exact Kd.S_lower (Kd.S_mono HB.out.back (fun _ _ => trivial)) (Nat.le_of_lt J.out), HWB.out _ HK.out⟩
 have t2 : (kind == 2) = false := beq_eq_false_iff_ne.mpr D
 by_cases k3 : kind = 3
 ·have t3 : (kind == 3) = true := beq_iff_eq.mpr k3
  have E := aM (by rw [E0.out, if_neg D, if_pos k3] : mutL xs kind uid mode flags nm l = (xs.set k (flagsL b uid mode flags).1, (flagsL b uid mode flags).2))
  clear E0 D k3
  obtain ⟨z0, z1, z2, z3, z4⟩ := HL.out.cells
  obtain ⟨U, c3, rfl, aY, aA⟩ := HL.out.mails
  obtain ⟨Z, c4, rfl, aX, aP⟩ := HL.out.keys
  obtain ⟨k5, bO⟩ := (mailS_ev b.f0 b.f1 b.f2 b.f3 b.f4 (by have := hbz.out; omega) uid).rounds
  have b7 := aM bO
  clear bO
  have bF := aM aA
  have b8 := aM aP
  clear aA aP Y
  go_wp2_with fail
  go_region_held3 (fun W => W.cell? ⟨g, k * 5, none⟩ = some (.string b.f0) ∧ W.cell? ⟨g, k * 5 + 1, none⟩ = some (.int .i64 b.f1) ∧ W.cell? ⟨g, k * 5 + 2, none⟩ = some (.int .i64 b.f2) ∧ W.cell? ⟨g, k * 5 + 3, none⟩ = some (.slice U b.f3.length c3) ∧ W.cell? ⟨g, k * 5 + 4, none⟩ = some (.slice Z b.f4.length c4) ∧ W.cell? ⟨x0, 1, none⟩ = some (.int .i64 uid))
   (first | assumption | exact ⟨old_cell M z0, old_cell M z1, old_cell M z2, old_cell M z3, old_cell M z4, old_cell M y1⟩ | go_keep)
   (first | (go_at_call 87; refine (spec_l09Mail.calls k5 b.f0 b.f1 b.f2 U c3 b.f3 Z c4 b.f4 uid (idxU uid b.f3 0) _ (by (with_reducible repeat (first | apply Kd.C_alloc | apply Kd.C_drewN | apply Kd.C_drew)); exact bF.out) aY (by (with_reducible repeat (first | apply Kd.C_alloc | apply Kd.C_drewN | apply Kd.C_drew)); exact b8.out) aX b7.out).mono ?_; rintro e w4 ⟨rfl, M⟩))
  have a3 := aM (Below.trans (Below.drew aN.out) (M.mono (Nat.le_trans (Nat.le_of_lt J.out) HN.out)))
  have a5 := aM (Lent.below (HL.out.below (Below.drew (Below.refl _ _))) M)
  have y2 := old_cell M y2
  have y3 := old_cell M y3
  clear M z0 z1 z2 z3 z4
  rcases idxU_lt uid b.f3 0 with hn | ⟨j, hj, -, hjl⟩
  ·have hn : idxU uid b.f3 0 < 0 := by simpa using hn
   have tj : decide (idxU uid b.f3 0 < 0) = true := decide_eq_true hn
   have E2 := aM (by rw [E.out]; unfold flagsL; rw [if_pos hn] : mutL xs kind uid mode flags nm l = (xs.set k b, 17))
   clear hn
   go_wp2
   go_ret2
   exact ⟨_, (by rw [E2.out]; rfl), by rw [E2.out]; simp, a3.out⟩
  have hj : idxU uid b.f3 0 = (j : Int) := by simpa using hj
  have hjl : j < b.f3.length := by omega
  rw [hj]
  have tj : decide ((j : Int) < 0) = false := decide_eq_false (Z42)
  obtain ⟨gm, c3', e3, hgm, hgne, hokgm⟩ := a5.out.form (Z42)
  injection e3 with e3a e3b e3c
  subst e3a; subst e3c
  obtain ⟨z0, z1, z2, z3, z4⟩ := a5.out.cells
  obtain ⟨r0, r1, r2, hfr⟩ := a5.out.mail j hjl
  have f1 : w4.frozen? ⟨gm, j * 3 + 1, none⟩ = false := hfr 1
  have hj0 : (0 : Int) ≤ (j : Int) := by omega
  have hj1 : (j : Int) < (b.f3.length : Int) := by omega
  go_wp2_with fail
  have s : flagsL b uid mode flags = (⟨b.f0, b.f1, b.f2, b.f3.set j ⟨b.f3[j].f0, newFlags mode b.f3[j].f1 flags, b.f3[j].f2⟩, b.f4⟩, 0) := by
   unfold flagsL
   rw [hj, if_neg (Z42)]
   have : rd_T109 b.f3 (j : Int) = b.f3[j] := by unfold rd_T109; simp [List.getD, List.getElem?_eq_getElem hjl]
   rw [this, Int.toNat_natCast]
  have E1 := aM (E.out.trans (by rw [s]))
  have HD := aM ((lent_flag a5.out j hjl (newFlags mode b.f3[j].f1 flags)).below (below_drew1 (Below.refl _ _)))
  have HBD := aM (fun (hz : w.heap.size ≤ gm) => (Below.drew (below_set (j := j * 3 + 1) (v := .int .i64 (newFlags mode b.f3[j].f1 flags)) a3.out hz)))
  have HGM := aM (show w2.heap.size ≤ gm from hokgm)
  have cA := J.out
  refine wp_region_still_tail 20 (Z18) (Z18) ?_
  simp only [List.take_succ_cons, List.take_zero, List.drop_succ_cons, List.drop_zero]
  repeat still_step
  still_call (s_flags _ _ _ _)
  repeat still_step
  refine wpStill_nil ?_
  go_wp2
  go_ret2
  exact ⟨_, (by rw [E1.out]; rfl), fun _ => by rw [E1.out]; exact Kd.S_lower (Kd.S_mono HD.out.back (fun _ _ => trivial)) (Nat.le_of_lt cA), HBD.out (by have := HGM.out; omega)⟩
 have t3 : (kind == 3) = false := beq_eq_false_iff_ne.mpr k3
 have E := aM (by rw [E0.out, if_neg D, if_neg k3] : mutL xs kind uid mode flags nm l = (xs.set k ⟨b.f0, b.f1, b.f2, b.f3.filter (fun x => !delB x), b.f4⟩, 0))
 clear E0 D k3
 obtain ⟨z0, z1, z2, z3, z4⟩ := HLK.out.cells
 obtain ⟨U, c3, rfl, aY, aA⟩ := HLK.out.mails
 have bF := aM aA
 have cV := hbz.out.1
 clear aA z0 z1 z2 z4 Y
 have y0' : True := trivial
 go_wp2_with fail
 go_loopg [11, 12] b.f3.length (fun gg cC cD wr => ∃ (kk : Nat), kk ≤ b.f3.length ∧ b.f3.length - kk ≤ gg ∧ cD = .int .i64 kk ∧ Aside0 (Kd.R k109 109 wr w3.heap.size (fun q => w3.heap.size ≤ q) cC ((b.f3.take kk).filter (fun x => !delB x))) ∧ Aside0 (Below w3.heap.size w3 wr))
 case atStart => exact ⟨0, Nat.zero_le _, Z42, rfl, ⟨R_empty_at _ (blk_made rfl) (Nat.le_refl _) (Nat.le_refl _)⟩, ⟨below_alloc (Below.refl _ _) _⟩⟩
 case round =>
  obtain ⟨kk, hkk, hgg, rfl, HR, HBW⟩ := hrel
  have z3w := old_cell HBW.out z3
  by_cases hlt : kk < b.f3.length
  ·have hltz : (kk : Int) < (b.f3.length : Int) := by omega
   have h0k : 0 ≤ (kk : Int) := by omega
   obtain ⟨ad, e, I, hx1, bG⟩ := at_T109 (Kd.C_below bF.out HBW.out) kk h0k hltz
   cases e
   simp only [Int.toNat_natCast] at I hx1 bG
   have hst := aM (take_filter_step b.f3 kk hlt)
   have hel : rd_T109 b.f3 (kk : Int) = b.f3[kk] := by unfold rd_T109; simp [List.getD, List.getElem?_eq_getElem hlt]
   rw [hel] at I hx1 bG
   have hfl := aM (show ((b.f3.take kk).filter (fun x => !delB x)).length ≤ 1048576 from by have := List.length_filter_le (fun x => !delB x) (b.f3.take kk); rw [List.length_take] at this; omega)
   obtain ⟨x, hxd⟩ : ∃ x, b.f3[kk] = x := ⟨_, rfl⟩
   rw [hxd] at I hx1 bG hst
   cases hd : delB x with
   | true =>
    have td : (Go.bits .and .i64 x.f1 8 == 0) = false := by unfold delB at hd; simpa [bne] using hd
    have aR := aM (by rw [hst.out, if_pos hd]; exact HR.out : Kd.R k109 109 wr w3.heap.size (fun q => w3.heap.size ≤ q) u11 ((b.f3.take (kk + 1)).filter (fun x => !delB x)))
    clear hst hd hxd hel
    go_wp2
    go_roundg (b.f3.length - (kk + 1))
    case measure => omega
    case rel => exact ⟨kk + 1, Z42, Z42, by go_num, aR, HBW⟩
   | false =>
    have td : (Go.bits .and .i64 x.f1 8 == 0) = true := by unfold delB at hd; simpa [bne] using hd
    have HE := aM (by rw [hst.out, if_neg (by rw [hd]; simp)] : (b.f3.take (kk + 1)).filter (fun x => !delB x) = (b.f3.take kk).filter (fun x => !delB x) ++ [x])
    clear hst hd hxd hel
    go_wp2_with (first | ((with_reducible refine gate_builtin (b := .append) (xs := #[.tmp 71, .tmp 79]) rfl ?_); at_builtin; refine Kd.R_append k109 (w0 := w3) w3.heap.size rfl (.tmp 71) (.tmp 79) 96 109 (.agg #[.int .i64 0, .int .i64 0, .string ⟨#[]⟩]) 32 rfl underlying96 info109 rfl (Z101) (Z42) u11 ((b.f3.take kk).filter (fun x => !delB x)) x [.int .i64 x.f0, .int .i64 x.f1, .string x.f2] (fun q => w3.heap.size ≤ q) (fun _ => False) rfl rfl (k109_mkM _ _ _ _) (fun _ hk => hk.elim) (fun q hq => Nat.le_trans HBW.out.size hq) HR.out HBW.out HBW.out.size (by have := hfl.out; omega) ?_; intro v1 w4 ho hb hg hat))
    go_roundg (b.f3.length - (kk + 1))
    case measure => omega
    case rel => exact ⟨kk + 1, Z42, Z42, by go_num, ⟨by rw [HE.out]; exact ho⟩, ⟨hb⟩⟩
  ·have hltz : ¬ (kk : Int) < (b.f3.length : Int) := by omega
   obtain rfl : kk = b.f3.length := by omega
   have e0 : b.f3.take b.f3.length = b.f3 := List.take_length
   have aR := aM HR.out
   rw [e0] at aR
   clear e0 HR
   obtain ⟨hin, oki, p1, p2, pH, p3, p4⟩ := HLK.out
   have HP := aM (And.intro p1 (And.intro p2 (And.intro pH (And.intro p3 p4))))
   clear p1 p2 pH p3 p4
   have cG := HLK.out.lt
   have cX : wr.frozen? ⟨g, k * 5 + 3, none⟩ = false := by rw [← HLK.out.frozen (k * 5 + 3)]; unfold World.frozen?; rw [HBW.out.block g cG]
   have bE := aM (KeptA.of_below HBW.out (fun q => (Value.slice U b.f3.length c3).ownBlock = some q))
   have cH := aM (lent_fewer hin HP.out.1 HP.out.2.1 HP.out.2.2.1 HP.out.2.2.2.1 HP.out.2.2.2.2 bE.out (Kd.R_lower (Kd.R_mono aR.out (fun q hq => HP.out.1 q hq)) HN.out))
   have HKF := aM (KeptA.setCell (p := ⟨g, k * 5 + 3, none⟩) (KeptA.of_below HBW.out ok) (.inl hokg') u11)
   obtain ⟨A1, c1, cI⟩ := Kd.R_slice aR.out
   subst cI
   go_wp2
   go_ret2
   exact ⟨_, (Z207), fun _ => by rw [E.out]; exact Kd.S_lower (Kd.S_mono cH.out.back (fun _ _ => trivial)) (Nat.le_of_lt J.out), HWB.out _ HKF.out⟩
abbrev SmallB (xs : List S98) : Prop := xs.length ≤ 1048576 ∧ ∀ b ∈ xs, b.f3.length ≤ 1048576 ∧ b.f4.length ≤ 1048576
def replF (rd : ByteArray → Option (Int × Int × Int × Int × ByteArray × (List S130) × Bool)) : List ByteArray → List S98 → Option (Option (List S98))
 | [], xs => some (some xs)
 | r :: rs, xs => (rd r).bind fun m => if m.2.2.2.2.2.2 = true then
   (if SmallB xs ∧ m.2.2.2.2.2.1.length ≤ 1048576 then
    (if (mutL xs m.1 m.2.1 m.2.2.1 m.2.2.2.1 m.2.2.2.2.1 m.2.2.2.2.2.1).2 = 0 then replF rd rs (mutL xs m.1 m.2.1 m.2.2.1 m.2.2.2.1 m.2.2.2.2.1 m.2.2.2.2.2.1).1 else some none) else none) else some none
theorem replF_cons {rd : ByteArray → Option (Int × Int × Int × Int × ByteArray × (List S130) × Bool)} {rs : List ByteArray} {xs : List S98} {o : Option (List S98)} {k : Nat} (h : replF rd (rs.drop k) xs = some o) (hk : k < rs.length) :
  ∃ m1 m2 m3 m4 m5 m6 m7, rd (rdOf ByteArray.empty rs (k : Int)) = some (m1, m2, m3, m4, m5, m6, m7) ∧
   (m7 = false ∧ o = none ∨ m7 = true ∧ SmallB xs ∧ m6.length ≤ 1048576 ∧ ((mutL xs m1 m2 m3 m4 m5 m6).2 ≠ 0 ∧ o = none ∨ (mutL xs m1 m2 m3 m4 m5 m6).2 = 0 ∧ replF rd (rs.drop (k + 1)) (mutL xs m1 m2 m3 m4 m5 m6).1 = some o)) := by
 rw [List.drop_eq_getElem_cons hk] at h
 unfold replF at h
 obtain ⟨⟨m1, m2, m3, m4, m5, m6, m7⟩, hm, h⟩ := Option.bind_eq_some_iff.mp h
 refine ⟨m1, m2, m3, m4, m5, m6, m7, by rw [rdOf_nat _ rs k hk]; exact hm, ?_⟩
 dsimp only at h
 by_cases s : m7 = true
 ·rw [if_pos s] at h
  by_cases hs : SmallB xs ∧ m6.length ≤ 1048576
  ·rw [if_pos hs] at h
   by_cases y : (mutL xs m1 m2 m3 m4 m5 m6).2 = 0
   ·rw [if_pos y] at h; exact .inr ⟨s, hs.1, hs.2, .inr ⟨y, h⟩⟩
   ·rw [if_neg y] at h; injection h with h; exact .inr ⟨s, hs.1, hs.2, .inl ⟨y, h.symm⟩⟩
  ·rw [if_neg hs] at h; cases h
 ·rw [if_neg s] at h; injection h with h; exact .inl ⟨by simpa using s, h.symm⟩
theorem replF_nil {rd : ByteArray → Option (Int × Int × Int × Int × ByteArray × (List S130) × Bool)} {xs : List S98} {o : Option (List S98)} (h : replF rd [] xs = some o) : o = some xs := by
 unfold replF at h; injection h with h; exact h.symm
theorem S_empty_at {α : Type} (d : Kd α) {W : World} {base e g : Nat} {ok : Nat → Prop} (hb : W.heap[g]? = some (.cells #[] e (0, 0))) (hbase : base ≤ g) (hok : ok g) : Kd.S d e W base ok (.slice (some ⟨g, 0, none⟩) 0 0) [] :=
 ⟨fun _ => 0, R_empty_at _ hb hbase hok⟩
def ReplRet (w : World) (s : List S98) (y D : Int) (e : Ending) (w' : World) : Prop :=
 ∃ v0_ : Value, e = .returned (.tuple #[v0_, .int .i64 y, .int .i64 D]) ∧ Kd.S k98 98 w' w.heap.size (fun _ => True) v0_ s ∧ Below w.heap.size w w'
def spec_l10Replay.f (k : Nat) (a0 : ByteArray) : Option ((List S98) × Int × Int) :=
 (spec_l08Records.f k a0).bind fun q => if q.1.length ≤ 1048576 then (replF (spec_l09Read.f k) q.1 []).bind fun o => (match o with
  | none => some ([], 0, 3)
  | some xs => if q.2.2 = 8 then some ([], 0, 8) else some (xs, (q.1.length : Int), 0)) else none
theorem s_replay (k : Nat) (a0 : ByteArray) (r1 : List S98) (r2 r3 : Int) (w : World) (h : spec_l10Replay.f k a0 = some (r1, r2, r3)) :
  Calls prog 27 #[.string a0] w (ReplRet w r1 r2 r3) := by
 unfold spec_l10Replay.f at h
 obtain ⟨⟨rs, q2, I⟩, hq, h⟩ := Option.bind_eq_some_iff.mp h
 dsimp only at h
 have hrl : rs.length ≤ 1048576 := by
  by_cases c : rs.length ≤ 1048576
  ·exact c
  ·rw [if_neg c] at h; cases h
 rw [if_pos hrl] at h
 obtain ⟨o, ho, h⟩ := Option.bind_eq_some_iff.mp h
 have HQ := aM hq
 have HO := aM ho
 have HH := aM h
 clear h hq ho
 go_enter func27, ntmps27
 go_wp2_with fail
 refine (spec_l08Records.calls k a0 rs q2 I _ HQ.out).mono ?_
 rintro e w1 ⟨v, rfl, hR, hb⟩
 obtain ⟨A, c, rfl, hc, hC⟩ := Kd.R_reads hR
 have HC := aM hC
 have HB := aM hb
 clear hC hb hR
 go_wp2_with fail
 go_loopg [8, 9] rs.length (fun gg s8 s9 wr => ∃ (kk : Nat) (xs : List S98), kk ≤ rs.length ∧ rs.length - kk ≤ gg ∧ s9 = .int .i64 kk ∧ Aside0 (Kd.S k98 98 wr w1.heap.size (fun _ => True) s8 xs) ∧ Aside0 (Below w1.heap.size w1 wr) ∧ Aside0 (replF (spec_l09Read.f k) (rs.drop kk) xs = some o))
 case atStart => exact ⟨0, [], Nat.zero_le _, Z42, rfl, ⟨S_empty_at _ (blk_made rfl) (Nat.le_refl _) trivial⟩, ⟨below_alloc (Below.refl _ _) _⟩, HO⟩
 case round =>
  obtain ⟨kk, xs, hkk, hgg, rfl, HS, HBW, HR⟩ := hrel
  by_cases hlt : kk < rs.length
  ·have hltz : (kk : Int) < (rs.length : Int) := by omega
   have h0k : 0 ≤ (kk : Int) := by omega
   obtain ⟨m1, m2, m3, m4, m5, m6, m7, hm, hor⟩ := replF_cons HR.out hlt
   have HM := aM hm
   obtain ⟨ad, e, aD⟩ := Kd.at_string (Kd.C_below HC.out HBW.out) (kk : Int) h0k hltz
   cases e
   simp only [Int.toNat_natCast] at aD
   clear hm HR
   generalize (rdOf ByteArray.empty rs (kk : Int)) = q0 at *
   have HOR := aM hor
   clear hor
   go_wp2_with fail
   refine (spec_l09Read.calls k q0 m1 m2 m3 m4 m5 m6 m7 _ HM.out).mono ?_
   rintro e w3 ⟨v5, rfl, aE, J⟩
   obtain ⟨s, c6, rfl, aT, aF⟩ := Kd.R_reads aE
   have M := aM (Kd.S_below HS.out J)
   have D := aM (Below.trans HBW.out (J.mono HBW.out.size))
   have aG := aM aF
   clear aE aF J HS HBW aD
   rcases HOR.out with ⟨rfl, rfl⟩ | ⟨rfl, hs, aN, hcase⟩
   ·have hh := HH.out
    dsimp only at hh
    simp only [Option.some.injEq, Prod.mk.injEq] at hh
    obtain ⟨rfl, rfl, rfl⟩ := hh
    go_wp2
    go_ret3
    exact ⟨_, rfl, S_empty_at _ (blk_made (Z174)) (by have := HB.out.size; have := D.out.size; omega) trivial, below_alloc (below_alloc (Below.trans HB.out (D.out.mono HB.out.size)) _) _⟩
   ·obtain ⟨AS, cS, rfl⟩ := Kd.S_slice M.out
    have HSM := aM hs
    have HCA := aM hcase
    clear hs hcase HOR
    have aH := aM (Kd.S_alloc M.out (.cells #[.int .i64 m1, .int .i64 m2, .int .i64 m3, .int .i64 m4, .string m5, .slice s m6.length c6] 103))
    have aO := aM (Kd.C_alloc aG.out (.cells #[.int .i64 m1, .int .i64 m2, .int .i64 m3, .int .i64 m4, .string m5, .slice s m6.length c6] 103))
    have O := aM (below_alloc D.out (.cells #[.int .i64 m1, .int .i64 m2, .int .i64 m3, .int .i64 m4, .string m5, .slice s m6.length c6] 103))
    clear M aG D
    go_wp2_with fail
    generalize w3.alloc (.cells #[.int .i64 m1, .int .i64 m2, .int .i64 m3, .int .i64 m4, .string m5, .slice s m6.length c6] 103) = w4 at *
    refine (s_apply AS cS xs m1 m2 m3 m4 m5 s c6 m6 w4 (Kd.S_reads' aH.out).2.2 (Kd.S_reads' aH.out).2.1 aO.out HSM.out.1 HSM.out.2 aN).mono ?_
    rintro e w5 ⟨v7, rfl, U, X⟩
    have Y := aM (Below.trans O.out (X.mono O.out.size))
    rcases HCA.out with ⟨hne, rfl⟩ | ⟨Z, hr⟩
    ·have hh := HH.out
     dsimp only at hh
     simp only [Option.some.injEq, Prod.mk.injEq] at hh
     obtain ⟨rfl, rfl, rfl⟩ := hh
     have tne : ((mutL xs m1 m2 m3 m4 m5 m6).2 != 0) = true := bne_iff_ne.mpr hne
     clear hne X U HCA
     generalize (mutL xs m1 m2 m3 m4 m5 m6).2 = cd at *
     go_wp2
     go_ret3
     exact ⟨_, rfl, S_empty_at _ (blk_made rfl) (Nat.le_trans HB.out.size Y.out.size) trivial, below_alloc (Below.trans HB.out (Y.out.mono HB.out.size)) _⟩
    ·have aP := aM (U Z)
     have aQ := aM hr
     clear U hr HCA X
     generalize (mutL xs m1 m2 m3 m4 m5 m6).1 = xs' at *
     rw [Z]
     clear Z
     have aR := aM (O.out.size)
     go_wp2
     go_roundg (rs.length - (kk + 1))
     case measure => omega
     case rel => exact ⟨kk + 1, xs', Z42, Z42, by go_num, ⟨Kd.S_lower aP.out aR.out⟩, Y, aQ⟩
  ·have hltz : ¬ (kk : Int) < (rs.length : Int) := by omega
   obtain rfl : kk = rs.length := by omega
   have hr := HR.out
   rw [List.drop_of_length_le (Nat.le_refl _)] at hr
   have hoe := replF_nil hr
   subst hoe
   have hh := HH.out
   dsimp only at hh
   clear hr
   obtain ⟨AS, cS, rfl⟩ := Kd.S_slice HS.out
   by_cases y : I = 8
   ·rw [if_pos y] at hh
    simp only [Option.some.injEq, Prod.mk.injEq] at hh
    obtain ⟨rfl, rfl, rfl⟩ := hh
    subst y
    go_wp2
    go_ret3
    exact ⟨_, rfl, S_empty_at _ (blk_made rfl) (Nat.le_trans HB.out.size HBW.out.size) trivial, below_alloc (Below.trans HB.out (HBW.out.mono HB.out.size)) _⟩
   ·rw [if_neg y] at hh
    simp only [Option.some.injEq, Prod.mk.injEq] at hh
    obtain ⟨rfl, rfl, rfl⟩ := hh
    have t8 : (I == 8) = false := beq_eq_false_iff_ne.mpr y
    clear y
    go_wp2
    go_ret3
    exact ⟨_, rfl, Kd.S_lower HS.out HB.out.size, Below.trans HB.out (HBW.out.mono HB.out.size)⟩
theorem spec_l10Replay.calls (k : Nat) (a0 : ByteArray) (s : List S98) (y D : Int) (w : World) (h : spec_l10Replay.f k a0 = some (s, y, D)) :
  Calls prog 27 #[.string a0] w fun e w' => ∃ v0_ : Value, e = .returned (.tuple #[v0_, .int .i64 y, .int .i64 D]) ∧ Kd.S k98 98 w' w.heap.size (fun _ => True) v0_ s ∧ Below w.heap.size w w' := s_replay k a0 s y D w h
end Go.Proofs.YtifkmkiljpeaaacGreat.PFnExactWorldOK
