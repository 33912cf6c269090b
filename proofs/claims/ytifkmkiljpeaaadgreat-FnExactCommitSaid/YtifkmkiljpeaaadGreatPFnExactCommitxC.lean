import Derived.Test.YtifkmkiljpeaaadGreatPFnExactCommitxA
import Derived.Test.YtifkmkiljpeaaadGreatPFnExactCommitxB
set_option maxHeartbeats 40000000
set_option maxRecDepth 100000
namespace Go.Proofs.YtifkmkiljpeaaadGreat.PFnExactCommit
open Go.RowKit Go.Proofs.YtifkmkiljpeaaadGreatW.PrintWords Go.Proofs.YtifkmkiljpeaaadGreatW.PrintLast Go.Proofs.YtifkmkiljpeaaadGreatW.PrintMore Go.Proofs.YtifkmkiljpeaaadGreat.Mac Go.Proofs.Tryz
set_option linter.unusedVariables false
set_option linter.unusedSimpArgs false
structure dm (w W : World) (S : Nat -> Prop) : Prop where
 size : w.heap.size <= W.heap.size
 block : ∀ i, i < w.heap.size -> ¬ S i -> W.heap[i]? = w.heap[i]?
 os : W.os = w.os
 tape : W.tape = w.tape
 output : W.output = w.output
section
variable {w W W2 : World} {S S2 S' : Nat -> Prop}
theorem dm.refl (w : World) (S : Nat -> Prop) : dm w w S := ⟨bj _, fun _ _ _ => rfl, rfl, rfl, rfl⟩
theorem dm.of_below (h : Below w.heap.size w W) (S : Nat -> Prop) : dm w W S := ⟨h.size, fun i hi _ => h.block i hi, h.os, h.tape, h.output⟩
theorem dm.mono (h : dm w W S) (hs : ∀ k, S k -> S' k) : dm w W S' := ⟨h.1, fun i hi hn => h.2 i hi (fun hk => hn (hs i hk)), h.os, h.tape, h.output⟩
theorem dm.then_ (h : dm w W S) (k : dm W W2 S2) (hs : ∀ k, S2 k -> S k ∨ w.heap.size <= k) : dm w W2 S :=
 ⟨Nat.le_trans h.1 k.1, fun i hi hn => (k.2 i (Nat.lt_of_lt_of_le hi h.1) (fun h2 => (hs i h2).elim hn (fun s => by omega))).trans (h.2 i hi hn), k.os.trans h.os, k.tape.trans h.tape, k.output.trans h.output⟩
theorem dm.of_grown {row : Option Nat} (hg : W.grownBy W2 row) (h : dm w W S) (hr : ∀ k, row = some k -> S k ∨ w.heap.size <= k) : dm w W2 S :=
 h.then_ (S2 := fun k => row = some k) ⟨hg.size, fun i hi hn => hg.block i hi (fun he => hn he.symm), hg.os, hg.tape, hg.output⟩ hr
theorem dm.below (h : dm w W S) (hb : Below W.heap.size W W2) : dm w W2 S := h.then_ (dm.of_below hb (fun _ => False)) (fun _ hk => hk.elim)
theorem dm.alloc (h : dm w W S) (o : Obj) : dm w (W.alloc o) S := h.below (ab (bi _ _) o)
theorem dm.drew (h : dm w W S) : dm w W.drew S := ⟨h.size, h.block, h.os, h.tape, h.output⟩
theorem dm.drewN (h : dm w W S) (m : Nat) : dm w (W.drewN m) S := ⟨h.size, h.block, h.os, h.tape, h.output⟩
theorem dm.setCell (h : dm w W S) {p : Addr} (hp : S p.block ∨ w.heap.size <= p.block) (u : Value) : dm w (W.setCell p u) S :=
 h.then_ (S2 := fun k => k = p.block) ⟨by simp [World.setCell], fun i _ hn => Below.heap_setCell W p u i hn, rfl, rfl, rfl⟩ (fun k hk => by rw [hk]; exact hp)
theorem dm.is_below {N : Nat} (h : dm w W S) (hN : N <= w.heap.size) (hS : ∀ k, S k -> N <= k) : Below N w W :=
 ⟨h.os, h.tape, h.output, h.size, fun k hk => h.block k (Z31) (fun hs => by have := hS k hs; omega)⟩
end
def hasB (l : List ByteArray) (x : ByteArray) : Bool := l.any (fun y => decide (y = x))
theorem hasB_cons (a : ByteArray) (l : List ByteArray) (x : ByteArray) : hasB (a :: l) x = (decide (a = x) || hasB l x) := rfl
theorem toList_inj {a b : ByteArray} : a.toList = b.toList ↔ a = b := by
 constructor
 ·intro h; rw [ByteArray.toList_eq, ByteArray.toList_eq] at h; rw [← bs_of a, ← bs_of b, h]
 rintro rfl; rfl
theorem hasS_ev (l : List ByteArray) (x : ByteArray) (hl : l.length <= 1099511627776) : Ev (fun k => ev.f k l x) (hasB l x) := by
 have loop : ∀ (m i : Nat), i + m = l.length -> Ev (fun k => ev.l0 k l x i) (hasB (l.drop i) x) := by
  intro m
  induction m with
  | zero => intro i hi; rw [List.drop_of_length_le (Z31)]; exact Ev.step (fun _ => ev.l0.eq_2 ..) (bv (Z31) (bq rfl))
  | succ m ih =>
   intro i hi
   have hlt : i < l.length := by omega
   refine Ev.step (fun _ => ev.l0.eq_2 ..) (bp (Z31) (bp (Z31) ?_))
   rw [rdOf_nat _ l i hlt, List.drop_eq_getElem_cons hlt, w64n (Z31)]
   by_cases h : l[i] = x
   ·exact bp (toList_inj.mpr h) (bq (by rw [hasB_cons, az h]; rfl))
   refine bv (fun e => h (toList_inj.mp e)) (ev_to ?_ (ih (i + 1) (Z31)))
   rw [hasB_cons, ba h, Bool.false_or]
 unfold ev.f
 exact loop l.length 0 (Z31)
theorem hasI_ev (l : List ByteArray) (x : ByteArray) (hl : l.length <= 1099511627776) : Ev (fun k => dc.f k l x) (hasB l x) := by
 have loop : ∀ (m i : Nat), i + m = l.length -> ∃ r : Int, Ev (fun k => cn.l0 k l x (l.length : Int) i) r /\ decide (r ≥ 0) = hasB (l.drop i) x := by
  intro m
  induction m with
  | zero => intro i hi; rw [List.drop_of_length_le (Z31)]; exact ⟨-1, Ev.step (fun _ => cn.l0.eq_2 ..) (bv (Z31) (bq rfl)), rfl⟩
  | succ m ih =>
   intro i hi
   have hlt : i < l.length := by omega
   rw [List.drop_eq_getElem_cons hlt]
   by_cases h : l[i] = x
   ·refine ⟨i, Ev.step (fun _ => cn.l0.eq_2 ..) (bp (Z31) (bp (Z31) (bp (Z31) ?_))), ?_⟩
    ·rw [rdOf_nat _ l i hlt]
     exact bp (toList_inj.mpr h.symm) (bq rfl)
    rw [az (by omega : (i : Int) ≥ 0), hasB_cons, az h]; rfl
   obtain ⟨r, h1, h2⟩ := ih (i + 1) (Z31)
   refine ⟨r, Ev.step (fun _ => cn.l0.eq_2 ..) (bp (Z31) (bp (Z31) (bp (Z31) ?_))), ?_⟩
   ·rw [rdOf_nat _ l i hlt, w64n (Z31)]
    exact bv (fun e => h (toList_inj.mp e).symm) h1
   rw [h2, hasB_cons, ba h, Bool.false_or]
 obtain ⟨r, h1, h2⟩ := loop l.length 0 (Z31)
 unfold dc.f cn.f
 exact Ev.bind h1 (bq (by rw [h2, List.drop_zero]))
def gl (base : Nat) (ok : Nat -> Prop) (w : World) (g n cap : Nat) (xs : List S82) (i : Nat) (b : S82) (vM vK : Value) : Prop :=
 i < n /\ ∃ oki : Nat -> Prop, (∀ k, w.heap.size <= k -> oki k) /\ ¬ oki g /\ Kd.H k82 82 w base ok (.slice (some ⟨g, 0, none⟩) n cap) xs (i : Int) oki [.string b.f0, .int .i64 b.f1, .int .i64 b.f2, vM, vK] /\
  Kd.R k113 113 w base oki vM b.f3 /\ Kd.R Kd.string 9 w base oki vK b.f4
section
variable {base g n cap i : Nat} {ok : Nat -> Prop} {w w1 : World} {xs : List S82} {b : S82} {vM vK : Value}
theorem gl.of_S (h : Kd.S k82 82 w base ok (.slice (some ⟨g, 0, none⟩) n cap) xs) (hi : i < n) (hnew : ∀ k, w.heap.size <= k -> ok k) : ∃ vM vK, gl base ok w g n cap xs i (ax xs (i : Int)) vM vK := by
 obtain ⟨oki, c, hcl, hM, hcc, hoki, hH⟩ := Kd.S_lend h z82 (i : Int) (Z31) (Z31)
 obtain ⟨vM, vK, rfl, s, y⟩ := k82_openM hM
 have hlt : g < w.heap.size := Kd.S_lt h g (Z203)
 refine ⟨vM, vK, hi, fun k => oki k ∨ ok k /\ w.heap.size <= k, fun k hk => .inr ⟨hnew k hk, hk⟩, fun hk => hk.elim (fun h => (hoki g h).2 rfl) (fun h => by omega), Kd.H_widen hH, Kd.R_mono s (fun _ h => .inl h), Kd.R_mono y (fun _ h => .inl h)⟩
theorem gl.back (h : gl base ok w g n cap xs i b vM vK) : Kd.S k82 82 w base ok (.slice (some ⟨g, 0, none⟩) n cap) (xs.set i b) := by
 obtain ⟨hi, oki, h1, h2, hH, s, y⟩ := h
 have := Kd.H_back hH (x' := b) (k82_mkM _ _ _ b s y) (fun _ h => h)
 simpa using this
theorem gl.cells (h : gl base ok w g n cap xs i b vM vK) : w.cell? ⟨g, i * 5, none⟩ = some (.string b.f0) /\ w.cell? ⟨g, i * 5 + 1, none⟩ = some (.int .i64 b.f1) /\ w.cell? ⟨g, i * 5 + 2, none⟩ = some (.int .i64 b.f2) /\ w.cell? ⟨g, i * 5 + 3, none⟩ = some vM /\ w.cell? ⟨g, i * 5 + 4, none⟩ = some vK := by
 obtain ⟨hi, oki, h1, h2, hH, s, y⟩ := h
 obtain ⟨rows, _, _, _, _, hcc, _⟩ := Kd.H_raw hH (Z31) (Z31)
 have hs : k82.sz = 5 := rfl
 rw [hs, Int.toNat_natCast] at hcc
 exact ⟨hcc 0 _ rfl, hcc 1 _ rfl, hcc 2 _ rfl, hcc 3 _ rfl, hcc 4 _ rfl⟩
theorem gl.frozen (h : gl base ok w g n cap xs i b vM vK) (o : Nat) : w.frozen? ⟨g, o, none⟩ = false := by
 obtain ⟨hi, oki, h1, h2, ⟨_, f, hR⟩, s, y⟩ := h
 obtain ⟨cells, hc⟩ := Kd.R_typed hR g (Z203)
 exact am hc o
theorem gl.lt (h : gl base ok w g n cap xs i b vM vK) : g < w.heap.size := by
 obtain ⟨hi, oki, h1, h2, ⟨_, f, hR⟩, s, y⟩ := h
 exact Kd.R_lt hR g (Z203)
theorem gl.mails (h : gl base ok w g n cap xs i b vM vK) : ∃ A c, vM = .slice A b.f3.length c /\ b.f3.length <= c /\ Kd.C k113 w A b.f3.length b.f3 := by
 obtain ⟨hi, oki, h1, h2, hH, s, y⟩ := h
 exact Kd.R_reads s
theorem gl.keys (h : gl base ok w g n cap xs i b vM vK) : ∃ A c, vK = .slice A b.f4.length c /\ b.f4.length <= c /\ Kd.C Kd.string w A b.f4.length b.f4 := by
 obtain ⟨hi, oki, h1, h2, hH, y, s⟩ := h
 exact Kd.R_reads s
theorem gl.below (h : gl base ok w g n cap xs i b vM vK) (hb : Below w.heap.size w w1) : gl base ok w1 g n cap xs i b vM vK := by
 obtain ⟨hi, oki, h1, h2, hH, s, y⟩ := h
 exact ⟨hi, oki, fun k hk => h1 k (Nat.le_trans hb.size hk), h2, Kd.H_below hH hb, Kd.R_below s hb, Kd.R_below y hb⟩
theorem gl.setNext (h : gl base ok w g n cap xs i b vM vK) (x : Int) : gl base ok (w.setCell ⟨g, i * 5 + 2, none⟩ (.int .i64 x)) g n cap xs i ⟨b.f0, b.f1, x, b.f3, b.f4⟩ vM vK := by
 obtain ⟨hi, oki, h1, h2, hH, s, y⟩ := h
 obtain ⟨hH', hg⟩ := Kd.H_seg hH (Z31) (Z31) (seg := [.int .i64 x]) (j := 2) (show 3 <= 5 by decide) (by simp [Value.oneCell'])
 have hs : k82.sz = 5 := rfl
 rw [hs, Int.toNat_natCast] at hH' hg
 have hne : ∀ k, oki k -> some k ≠ some g := fun k hk e => h2 (Z200)
 exact ⟨hi, oki, fun k hk => h1 k (by simpa using hk), h2, hH', Kd.R_grown s hg hne, Kd.R_grown y hg hne⟩
end
section
variable {base g n cap i : Nat} {ok oki : Nat -> Prop} {W w1 : World} {xs : List S82} {b : S82} {vM vK v1 : Value}
theorem lent_mails {ms : List S113} (hi : i < n) (h1 : ∀ k, W.heap.size <= k -> oki k) (h2 : ¬ oki g) (hH : Kd.H k82 82 W base ok (.slice (some ⟨g, 0, none⟩) n cap) xs (i : Int) oki [.string b.f0, .int .i64 b.f1, .int .i64 b.f2, vM, vK])
  (s : Kd.R k113 113 W base oki vM b.f3) (y : Kd.R Kd.string 9 W base oki vK b.f4) (hg : W.grownBy w1 vM.ownBlock) (s' : Kd.R k113 113 w1 base oki v1 ms) :
  gl base ok (w1.setCell ⟨g, i * 5 + 3, none⟩ v1) g n cap xs i ⟨b.f0, b.f1, b.f2, ms, b.f4⟩ v1 vK := by
 have D := Kd.H_grown hH hg (fun k hk => s.1 k hk)
 have I := Kd.R_over y s (Z68) hg
 obtain ⟨hH', hg'⟩ := Kd.H_seg D (Z31) (Z31) (seg := [v1]) (j := 3) (show 4 <= 5 by decide) (by simpa using (Kd.R_val s').2)
 have hs : k82.sz = 5 := rfl
 rw [hs, Int.toNat_natCast] at hH' hg'
 have hne : ∀ k, oki k -> some k ≠ some g := fun k hk e => h2 (Z200)
 have hz := hg.size
 exact ⟨hi, oki, fun k hk => h1 k (by have h_ : (w1.setCell ⟨g, i * 5 + 3, none⟩ v1).heap.size = w1.heap.size := (fg); omega), h2, hH', Kd.R_grown s' hg' hne, Kd.R_grown I hg' hne⟩
theorem lent_keys {ks : List ByteArray} (hi : i < n) (h1 : ∀ k, W.heap.size <= k -> oki k) (h2 : ¬ oki g) (hH : Kd.H k82 82 W base ok (.slice (some ⟨g, 0, none⟩) n cap) xs (i : Int) oki [.string b.f0, .int .i64 b.f1, .int .i64 b.f2, vM, vK])
  (y : Kd.R k113 113 W base oki vM b.f3) (s : Kd.R Kd.string 9 W base oki vK b.f4) (hg : W.grownBy w1 vK.ownBlock) (s' : Kd.R Kd.string 9 w1 base oki v1 ks) :
  gl base ok (w1.setCell ⟨g, i * 5 + 4, none⟩ v1) g n cap xs i ⟨b.f0, b.f1, b.f2, b.f3, ks⟩ vM v1 := by
 have D := Kd.H_grown hH hg (fun k hk => s.1 k hk)
 have I := Kd.R_over y s (Z68) hg
 obtain ⟨hH', hg'⟩ := Kd.H_seg D (Z31) (Z31) (seg := [v1]) (j := 4) (show 5 <= 5 by decide) (by simpa using (Kd.R_val s').2)
 have hs : k82.sz = 5 := rfl
 rw [hs, Int.toNat_natCast] at hH' hg'
 have hne : ∀ k, oki k -> some k ≠ some g := fun k hk e => h2 (Z200)
 have hz := hg.size
 exact ⟨hi, oki, fun k hk => h1 k (by have h_ : (w1.setCell ⟨g, i * 5 + 4, none⟩ v1).heap.size = w1.heap.size := (fg); omega), h2, hH', Kd.R_grown I hg' hne, Kd.R_grown s' hg' hne⟩
theorem grown_cell {row : Option Nat} (hg : W.grownBy w1 row) (hlt : g < W.heap.size) (hne : some g ≠ row) (o : Nat) : w1.cell? ⟨g, o, none⟩ = W.cell? ⟨g, o, none⟩ /\ w1.frozen? ⟨g, o, none⟩ = W.frozen? ⟨g, o, none⟩ := by
 have := hg.block g hlt hne
 exact ⟨World.cell?_of_block (w := W) this, by unfold World.frozen?; rw [this]⟩
end
def BoxRet (base : Nat) (ok : Nat -> Prop) (w : World) (g n cap i : Nat) (xs : List S82) (q : S82 × Int) (e : Ending) (w' : World) : Prop :=
 ∃ vM vK, e = .returned (.int .i64 q.2) /\ gl base ok w' g n cap xs i q.1 vM vK /\ dm w w' ok
section
variable {base g n cap i : Nat} {ok : Nat -> Prop} {w : World} {xs : List S82} {b : S82} {vM vK : Value}
theorem gl.form (h : gl base ok w g n cap xs i b vM vK) (hp : 0 < b.f3.length) : ∃ gm c, vM = .slice (some ⟨gm, 0, none⟩) b.f3.length c /\ gm < w.heap.size /\ gm ≠ g /\ ok gm := by
 obtain ⟨hi, oki, h1, h2, hH, s, y⟩ := h
 obtain ⟨gm, c, e, -, hlt, -⟩ := Kd.R_form s hp
 have ho : oki gm := s.1 gm (by rw [e]; simp [Value.ownBlock])
 exact ⟨gm, c, e, hlt, fun e => h2 (e ▸ ho), hH.1 gm ho⟩
theorem gl.mail {gm c : Nat} (h : gl base ok w g n cap xs i b (.slice (some ⟨gm, 0, none⟩) b.f3.length c) vK) (k : Nat) (hk : k < b.f3.length) :
  w.cell? ⟨gm, k * 3, none⟩ = some (.int .i64 b.f3[k].f0) /\ w.cell? ⟨gm, k * 3 + 1, none⟩ = some (.int .i64 b.f3[k].f1) /\ w.cell? ⟨gm, k * 3 + 2, none⟩ = some (.string b.f3[k].f2) /\ ∀ j, w.frozen? ⟨gm, k * 3 + j, none⟩ = false := by
 obtain ⟨hi, oki, h1, h2, hH, s, y⟩ := h
 obtain ⟨ce, hcl, hM, hcc, hfr⟩ := Kd.R_elem s z113 (k : Int) (Z31) (Z31)
 have hg : b.f3.getD (k : Int).toNat z113 = b.f3[k] := by simp [List.getD, List.getElem?_eq_getElem hk]
 rw [hg] at hM
 obtain rfl := k113_openM hM
 exact ⟨hcc 0 _ rfl, hcc 1 _ rfl, hcc 2 _ rfl, hfr⟩
end
def addL (b : S82) : List S84 -> S82 × Int
 | [] => (b, 0)
 | x :: r => if hasB b.f4 x.f0 then (b, 9) else if b.f4.length = 60 then (b, 17) else if b.f3.length = 30 then (b, 7)
  else addL ⟨b.f0, b.f1, wrap64 (b.f2 + 1), b.f3 ++ [⟨b.f2, 0, x.f1⟩], b.f4 ++ [x.f0]⟩ r
theorem addL_drop (b : S82) (l : List S84) (k : Nat) (h : k < l.length) : addL b (l.drop k) = if hasB b.f4 (ay l (k : Int)).f0 then (b, 9) else if b.f4.length = 60 then (b, 17) else if b.f3.length = 30 then (b, 7)
  else addL ⟨b.f0, b.f1, wrap64 (b.f2 + 1), b.f3 ++ [⟨b.f2, 0, (ay l (k : Int)).f1⟩], b.f4 ++ [(ay l (k : Int)).f0]⟩ (l.drop (k + 1)) := by
 rw [List.drop_eq_getElem_cons h, addL, rdItem l k h]
theorem box_add (base : Nat) (ok : Nat -> Prop) (g n cap i : Nat) (xs : List S82) (b : S82) (vM vK : Value) (A : Option Addr) (c : Nat) (l : List S84) (w : World) (HL : gl base ok w g n cap xs i b vM vK) (hbase : base <= w.heap.size) (hokg : ok g)
  (hit : ∀ W', dm w W' ok -> Kd.C k84 W' A l.length l) (hM : b.f3.length <= 1048576) (hK : b.f4.length <= 1048576) (hl : l.length <= 1048576) :
  Calls prog 100 #[.pointer (some ⟨g, i * 5, none⟩), .slice A l.length c] w (BoxRet base ok w g n cap i xs (addL b l)) := by
 have HIT := aM hit
 have aP := aM HL
 clear hit HL
 go_enter func100, ntmps100
 go_wp2
 go_loopg [6, 9, 13, 21, 28] l.length (fun gg s6 s9 a7 a8 a9 wr => ∃ (kk : Nat) (b' : S82) (vM' vK' : Value), kk <= l.length /\ l.length - kk <= gg /\ s9 = .int .i64 kk /\ ap (gl base ok wr g n cap xs i b' vM' vK') /\ ap (addL b l = addL b' (l.drop kk)) /\ ap (dm w wr ok) /\ ap (b'.f3.length <= 1048576 + kk /\ b'.f4.length <= 1048576 + kk))
 case atStart => exact ⟨0, b, vM, vK, Nat.zero_le _, Z31, rfl, aP, ⟨rfl⟩, ⟨dm.refl _ _⟩, ⟨Z31, Z31⟩⟩
 case round =>
  obtain ⟨kk, b', vM', vK', hkk, hgg, rfl, HB, HA, HK, HZ⟩ := hrel
  by_cases hlt : kk < l.length
  ·have hltz : (kk : Int) < (l.length : Int) := by omega
   have h0 : 0 <= (kk : Int) := by omega
   obtain ⟨ad, e, aF, hx1⟩ := at_T84 (HIT.out wr HK.out) kk h0 hltz
   cases e
   simp only [Int.toNat_natCast] at aF hx1
   have hstep := aM (addL_drop b' l kk hlt)
   have hgl := HB.out.lt
   obtain ⟨M, c4, rfl, aG, aH⟩ := HB.out.keys
   obtain ⟨U, c3, rfl, aS, aT⟩ := HB.out.mails
   have hq := hasI_ev b'.f4 (ay l (kk : Int)).f0 (by have := HZ.out; omega)
   obtain ⟨k1, aJ⟩ := hq.rounds
   have HQ := aM aJ
   have D := aM (HB.out.below (ab (bi _ _) (.cells #[.string (ay l (kk : Int)).f0, .string (ay l (kk : Int)).f1] 84)))
   have HK1 := aM (HK.out.alloc (.cells #[.string (ay l (kk : Int)).f0, .string (ay l (kk : Int)).f1] 84))
   have X := aM (Kd.C_alloc aH (.cells #[.string (ay l (kk : Int)).f0, .string (ay l (kk : Int)).f1] 84))
   have BX := aM (show (wr.alloc (.cells #[.string (ay l (kk : Int)).f0, .string (ay l (kk : Int)).f1] 84)).heap[wr.heap.size]? = some (.cells #[.string (ay l (kk : Int)).f0, .string (ay l (kk : Int)).f1] 84 (0, 0)) from by simpa using heap_alloc_new wr _)
   clear aH aT aJ hq
   go_upto_region 4 with (fail)
   clear aF hx1
   generalize aU : wr.alloc (.cells #[.string (ay l (kk : Int)).f0, .string (ay l (kk : Int)).f1] 84) = W1 at D HK1 X BX ⊢
   clear aU HB HK
   generalize wr.heap.size = x0 at BX ⊢
   generalize (ay l (kk : Int)).f0 = s at *
   generalize (ay l (kk : Int)).f1 = I at *
   obtain ⟨z0, z1, z2, z3, z4⟩ := D.out.cells
   obtain ⟨y0, y1⟩ := cl2 BX.out
   cases hh : hasB b'.f4 s with
   | true =>
    rw [hh] at HQ
    go_quiet (first | (go_at_call 115; refine (dc.calls k1 M c4 b'.f4 s true _ (Kd.C_drewN X.out _) aG HQ.out).mono ?_; rintro e w' ⟨rfl, ⟨nd, rfl⟩⟩; exact ⟨rfl, _, World.drewN_drewN _ _ _⟩))
    go_wp2
    go_ret
    have y : addL b l = (b', 9) := by rw [HA.out, hstep.out, hh]; rfl
    exact ⟨_, _, (by rw [y]; rfl), by rw [y]; exact D.out.below (below_drewN (bi _ _) _), HK1.out.drewN _⟩
   | false =>
    rw [hh] at HQ
    have O := aM (HA.out.trans hstep.out)
    rw [hh] at O
    clear hstep
    go_quiet (first | (go_at_call 115; refine (dc.calls k1 M c4 b'.f4 s false _ (Kd.C_drewN X.out _) aG HQ.out).mono ?_; rintro e w' ⟨rfl, ⟨nd, rfl⟩⟩; exact ⟨rfl, _, World.drewN_drewN _ _ _⟩))
    by_cases Y : b'.f4.length = 60
    ·have aW : ((b'.f4.length : Int) == 60) = true := bf (Z31)
     have HX := aM Y
     clear Y
     go_wp2
     go_ret
     have y : addL b l = (b', 17) := by rw [O.out, if_neg (fg), if_pos HX.out]
     exact ⟨_, _, (by rw [y]; rfl), by rw [y]; exact D.out.below (below_drewN (bi _ _) _), HK1.out.drewN _⟩
    have aW : ((b'.f4.length : Int) == 60) = false := bb (Z31)
    have HX := aM Y
    clear Y
    by_cases Z : b'.f3.length = 30
    ·have aX : ((b'.f3.length : Int) == 30) = true := bf (Z31)
     have HY := aM Z
     clear Z
     go_wp2
     go_ret
     have y : addL b l = (b', 7) := by rw [O.out, if_neg (fg), if_neg HX.out, if_pos HY.out]
     exact ⟨_, _, (by rw [y]; rfl), by rw [y]; exact D.out.below (below_drewN (bi _ _) _), HK1.out.drewN _⟩
    have aX : ((b'.f3.length : Int) == 30) = false := bb (Z31)
    have y := aM (by rw [O.out, if_neg (fg), if_neg HX.out, if_neg Z] : addL b l = addL ⟨b'.f0, b'.f1, wrap64 (b'.f2 + 1), b'.f3 ++ [⟨b'.f2, 0, I⟩], b'.f4 ++ [s]⟩ (l.drop (kk + 1)))
    clear Z HX O HA HQ
    go_upto_region 10 with (fail)
    go_cut [50] (fun bA wc => ∃ (aK : Value), ap (gl base ok wc g n cap xs i ⟨b'.f0, b'.f1, b'.f2, b'.f3 ++ [⟨b'.f2, 0, I⟩], b'.f4⟩ aK (.slice M b'.f4.length c4)) /\ ap (dm w wc ok) /\ ap (wc.heap[x0]? = some (.cells #[.string s, .string I] 84 (0, 0))))
    case first =>
     obtain ⟨hin, oki, p1, p2, pH, p3, p4⟩ := D.out
     have HP := aM (And.intro p1 (And.intro p2 (And.intro pH (And.intro p3 p4))))
     have aL := HZ.out
     clear p1 p2 pH p3 p4
     have aC := D.out.lt
     have aD := D.out.frozen (i * 5 + 3)
     have hgx : x0 ≠ g := by
      rintro rfl
      obtain ⟨cs, hc⟩ := Kd.R_typed HP.out.2.2.1.2.choose_spec x0 (Z203)
      have := hc.symm.trans BX.out
      injection this with this
      injection this with _ this
      exact absurd this (Z68)
     go_region_law (refine Kd.R_append_step k113 base (Z96) (.tmp 39) (.tmp 47) 80 113 (.agg #[.int .i64 0, .int .i64 0, .string ⟨#[]⟩]) 32 rfl underlying80 info113 rfl (Z68) (Z31) (.slice U b'.f3.length c3) b'.f3 (⟨b'.f2, 0, I⟩ : S113) [.int .i64 b'.f2, .int .i64 0, .string I] oki (fun _ => False) rfl rfl (k113_mkM _ _ _ _) (fun _ hk => hk.elim) (fun k hk => HP.out.1 k (by simpa using hk)) (by (with_reducible repeat (first | apply Kd.R_alloc | apply Kd.R_drewN | apply Kd.R_drew)); exact HP.out.2.2.2.1) (bi _ _) (by have := HK1.out.1; simp; omega) (Z31) ?_; intro v1 w1 ho hb hg hat; obtain ⟨A1, c1, hv⟩ := Kd.R_slice ho; rw [List.length_append, List.length_singleton] at hv; subst hv; have hne : some g ≠ (Value.slice U b'.f3.length c3).ownBlock := (by intro e; exact HP.out.2.1 (HP.out.2.2.2.1.1 g e.symm)); have J := grown_cell hg (g := g) (by simpa using aC) hne (i * 5 + 3); have q4 := J.1.trans z3; have q5 := J.2.trans aD; have R1 := aM (lent_mails (b := b') hin (fun k hk => HP.out.1 k (by simpa using hk)) HP.out.2.1 (Kd.H_below HP.out.2.2.1 (Z69)) (Kd.R_below HP.out.2.2.2.1 (Z69)) (Kd.R_below HP.out.2.2.2.2 (Z69)) hg ho); have R2 := aM (dm.setCell (p := ⟨g, i * 5 + 3, none⟩) (dm.of_grown hg (by (with_reducible repeat (first | apply dm.drewN | apply dm.drew)); exact HK1.out) (fun k e => .inl (HP.out.2.2.1.1 k (HP.out.2.2.2.1.1 k e)))) (.inl hokg) (.slice A1 (b'.f3.length + 1) c1)); have R3 := aM (blk_far (p := ⟨g, i * 5 + 3, none⟩) (fm (by (with_reducible repeat (first | refine aj ?_ _ | refine ag ?_)); exact BX.out) hg (Kd.R_ne HP.out.2.2.2.1 BX.out (Z68))) hgx (.slice A1 (b'.f3.length + 1) c1)); clear hb hat ho J)
     all_goals (go_wp2; go_meet; exact ⟨_, R1, R2, R3⟩)
    case rest =>
     obtain ⟨aK, HB2, HK2, aN⟩ := hcut
     clear z0 z1 z2 z3 z4 y0 y1 D HK1 X BX
     obtain ⟨z0, z1, z2, z3, z4⟩ := HB2.out.cells
     have y0 := cl1 aN.out
     obtain ⟨U', c3', rfl, aS', -⟩ := HB2.out.mails
     go_upto_region 11 with (fail)
     go_cut [68] (fun bB we => ∃ (aO : Value), ap (gl base ok we g n cap xs i ⟨b'.f0, b'.f1, b'.f2, b'.f3 ++ [⟨b'.f2, 0, I⟩], b'.f4 ++ [s]⟩ (.slice U' (b'.f3 ++ [(⟨b'.f2, 0, I⟩ : S113)]).length c3') aO) /\ ap (dm w we ok))
     case first =>
      obtain ⟨hin, oki, p1, p2, pH, p3, p4⟩ := HB2.out
      have HP := aM (And.intro p1 (And.intro p2 (And.intro pH (And.intro p3 p4))))
      have aL := HZ.out
      clear p1 p2 pH p3 p4
      have aC := HB2.out.lt
      have aD := HB2.out.frozen (i * 5 + 4)
      go_region_law (refine Kd.R_append_step Kd.string (w0 := wc.drew) (W := wc.drew) base (Z96) (.tmp 55) (.tmp 58) 66 9 (.string ⟨#[]⟩) 16 rfl underlying66 info9 rfl (Z68) (Z31) (.slice M b'.f4.length c4) b'.f4 s [.string s] oki (fun _ => False) rfl rfl rfl (fun _ hk => hk.elim) (fun k hk => HP.out.1 k (by simpa using hk)) (by (with_reducible repeat (first | apply Kd.R_alloc | apply Kd.R_drewN | apply Kd.R_drew)); exact HP.out.2.2.2.2) (bi _ _) (by have := HK2.out.1; simp; omega) (Z31) ?_; intro v1 w1 ho hb hg hat; obtain ⟨A1, c1, hv⟩ := Kd.R_slice ho; rw [List.length_append, List.length_singleton] at hv; subst hv; have hne : some g ≠ (Value.slice M b'.f4.length c4).ownBlock := (by intro e; exact HP.out.2.1 (HP.out.2.2.2.2.1 g e.symm)); have J := grown_cell hg (g := g) (by simpa using aC) hne (i * 5 + 4); have q4 := J.1.trans z4; have q5 := J.2.trans aD; have R1 := aM (lent_keys (b := ⟨b'.f0, b'.f1, b'.f2, b'.f3 ++ [⟨b'.f2, 0, I⟩], b'.f4⟩) hin (fun k hk => HP.out.1 k (by simpa using hk)) HP.out.2.1 (Kd.H_below HP.out.2.2.1 (Z69)) (Kd.R_below HP.out.2.2.2.1 (Z69)) (Kd.R_below HP.out.2.2.2.2 (Z69)) hg ho); have R2 := aM (dm.setCell (p := ⟨g, i * 5 + 4, none⟩) (dm.of_grown hg (by (with_reducible repeat (first | apply dm.drewN | apply dm.drew)); exact HK2.out) (fun k e => .inl (HP.out.2.2.1.1 k (HP.out.2.2.2.2.1 k e)))) (.inl hokg) (.slice A1 (b'.f4.length + 1) c1)); clear hb hat ho J)
      all_goals (go_wp2; go_meet; exact ⟨_, R1, R2⟩)
     case rest =>
      obtain ⟨aO, aE, a2⟩ := hcut
      clear z0 z1 z2 z3 z4 y0 HB2 HK2 aN
      obtain ⟨z0, z1, z2, z3, z4⟩ := aE.out.cells
      have bC := aE.out.frozen (i * 5 + 2)
      have a3 := aM (aE.out.setNext (wrap64 (b'.f2 + 1)))
      have a5 := aM (dm.setCell (p := ⟨g, i * 5 + 2, none⟩) a2.out (.inl hokg) (.int .i64 (wrap64 (b'.f2 + 1))))
      have aL := HZ.out
      go_wp2
      go_roundg (l.length - (kk + 1))
      case measure => omega
      case rel => exact ⟨kk + 1, _, _, _, Z31, Z31, by go_num, a3, ⟨y.out⟩, a5, ⟨by simp; omega, by simp; omega⟩⟩
  have hltz : ¬ (kk : Int) < (l.length : Int) := by omega
  obtain rfl : kk = l.length := by omega
  go_wp2
  go_ret
  have e := HA.out
  rw [List.drop_of_length_le (bj _)] at e
  rw [e]
  exact ⟨_, _, rfl, HB.out, HK.out⟩
theorem lent_mailIndex {base g n cap i : Nat} {ok : Nat -> Prop} {w : World} {xs : List S82} {b : S82} {vM vK : Value} (HL : gl base ok w g n cap xs i b vM vK) (hl : b.f3.length <= 1099511627776) (u : Int) :
  Calls prog 125 #[.pointer (some ⟨g, i * 5, none⟩), .int .i64 u] w fun e w' => e = .returned (.int .i64 (idxU u b.f3 0)) /\ Below w.heap.size w w' := by
 obtain ⟨y, c3, rfl, D, s⟩ := HL.mails
 have HC := aM (Kd.C_alloc s (.cells #[.int .i64 u] 3))
 have HB := aM (HL.below (ab (bi _ _) (.cells #[.int .i64 u] 3)))
 obtain ⟨-, -, -, z3, -⟩ := HB.out.cells
 clear s HL
 go_enter func125, ntmps125
 go_wp2_with (go_at_call 126; refine (mailsIndex y c3 b.f3 u w.heap.size _ HC.out (fg) (by simp [go_sem]) hl).mono ?_; rintro e w' ⟨rfl, hb'⟩)
 go_ret
 exact ⟨rfl, Below.trans (Below.alloc (bi _ _) (bj _) _) (hb'.mono (fg))⟩
theorem lent_flag {base g n cap i : Nat} {ok : Nat -> Prop} {w : World} {xs : List S82} {b : S82} {gm c : Nat} {vK : Value} (HL : gl base ok w g n cap xs i b (.slice (some ⟨gm, 0, none⟩) b.f3.length c) vK) (k : Nat) (hk : k < b.f3.length) (x : Int) :
  gl base ok (w.setCell ⟨gm, k * 3 + 1, none⟩ (.int .i64 x)) g n cap xs i ⟨b.f0, b.f1, b.f2, b.f3.set k ⟨b.f3[k].f0, x, b.f3[k].f2⟩, b.f4⟩ (.slice (some ⟨gm, 0, none⟩) b.f3.length c) vK := by
 obtain ⟨hi, oki, h1, h2, hH, s, y⟩ := HL
 obtain ⟨ce, hcl, hM, hcc, hfr⟩ := Kd.R_elem s z113 (k : Int) (Z31) (Z31)
 have hg : b.f3.getD (k : Int).toNat z113 = b.f3[k] := by simp [List.getD, List.getElem?_eq_getElem hk]
 rw [hg] at hM
 obtain rfl := k113_openM hM
 have hs : k113.sz = 3 := rfl
 obtain ⟨hR, hgr⟩ := Kd.R_seg s (k : Int) (Z31) (Z31) hcl hcc (seg := [.int .i64 x]) (j := 1) (show 2 <= 3 by decide) (x' := ⟨b.f3[k].f0, x, b.f3[k].f2⟩) (k113_mkM _ _ (fun _ => False) _) (fun _ h => h.elim)
 rw [hs, Int.toNat_natCast] at hR hgr
 have hH' := Kd.H_grown hH hgr (fun q e => by injection e with e; subst e; exact s.1 gm (Z203))
 have y' := Kd.R_over y s (Z68) (by simpa [Value.ownBlock] using hgr)
 have hl : (b.f3.set k ⟨b.f3[k].f0, x, b.f3[k].f2⟩).length = b.f3.length := List.length_set
 have hz := hgr.size
 exact ⟨hi, oki, fun q hq => h1 q (Nat.le_trans hz hq), h2, hH', hR, y'⟩
def newFlags (mode was flags : Int) : Int := if mode = 1 then flags else if mode = 2 then Go.bits .or .i64 was flags else Go.bits .andNot .i64 was flags
def flagsL (b : S82) (uid mode flags : Int) : S82 × Int :=
 if idxU uid b.f3 0 < 0 then (b, 17)
 else (⟨b.f0, b.f1, b.f2, b.f3.set (idxU uid b.f3 0).toNat ⟨(ar b.f3 (idxU uid b.f3 0)).f0, newFlags mode (ar b.f3 (idxU uid b.f3 0)).f1 flags, (ar b.f3 (idxU uid b.f3 0)).f2⟩, b.f4⟩, 0)
theorem idxU_lt (u : Int) : ∀ (l : List S113) (i : Nat), idxU u l i < 0 ∨ ∃ k : Nat, idxU u l i = k /\ i <= k /\ k < i + l.length
 | [], i => .inl (by simp [idxU])
 | m :: r, i => by
  unfold idxU
  by_cases h : m.f0 = u
  ·rw [if_pos h]; exact .inr ⟨i, rfl, bj _, fg⟩
  rw [if_neg h]
  rcases idxU_lt u r (i + 1) with h1 | ⟨k, h1, h2, s⟩
  ·exact .inl (by simpa using h1)
  exact .inr ⟨k, by simpa using h1, Z31, by simp; omega⟩
theorem box_flags (base : Nat) (ok : Nat -> Prop) (g n cap i : Nat) (xs : List S82) (b : S82) (vM vK : Value) (m0 uid mode flags : Int) (nm : ByteArray) (vI : Value) (w : World) (HL : gl base ok w g n cap xs i b vM vK) (hnew : ∀ k, w.heap.size <= k -> ok k) (hM : b.f3.length <= 1048576) (hvI : ∃ A n c, vI = .slice A n c) :
  Calls prog 101 #[.pointer (some ⟨g, i * 5, none⟩), .agg #[.int .i64 m0, .int .i64 uid, .int .i64 mode, .int .i64 flags, .string nm, vI]] w (BoxRet base ok w g n cap i xs (flagsL b uid mode flags)) := by
 obtain ⟨AI, nI, cI, rfl⟩ := hvI
 have HB := aM (HL.below (ab (bi _ _) (.cells #[.int .i64 m0, .int .i64 uid, .int .i64 mode, .int .i64 flags, .string nm, .slice AI nI cI] 41)))
 have BX := aM (show (w.alloc (.cells #[.int .i64 m0, .int .i64 uid, .int .i64 mode, .int .i64 flags, .string nm, .slice AI nI cI] 41)).heap[w.heap.size]? = some (.cells #[.int .i64 m0, .int .i64 uid, .int .i64 mode, .int .i64 flags, .string nm, .slice AI nI cI] 41 (0, 0)) from by simpa using heap_alloc_new w _)
 have HK := aM ((dm.refl w ok).alloc (.cells #[.int .i64 m0, .int .i64 uid, .int .i64 mode, .int .i64 flags, .string nm, .slice AI nI cI] 41))
 have U := aM hM
 clear HL hM
 go_enter func101, ntmps101
 go_upto_region 1 with (fail)
 generalize X : w.alloc (.cells #[.int .i64 m0, .int .i64 uid, .int .i64 mode, .int .i64 flags, .string nm, .slice AI nI cI] 41) = W1 at HB BX HK ⊢
 have Z : w.heap.size = w.heap.size := rfl
 clear X
 generalize w.heap.size = x0 at BX ⊢
 obtain ⟨-, Y⟩ := cl2 BX.out
 go_wp2_with fail
 refine (lent_mailIndex HB.out (by have := U.out; omega) uid).mono ?_
 rintro e w2 ⟨rfl, M⟩
 have HB2 := aM (HB.out.below M)
 have HK2 := aM (HK.out.below M)
 have O := aM (ai BX.out M)
 clear HB HK BX Y M
 rcases idxU_lt uid b.f3 0 with hn | ⟨k, hk, -, hkl⟩
 ·have t0 : decide (idxU uid b.f3 0 < 0) = true := az hn
  have I : flagsL b uid mode flags = (b, 17) := if_pos hn
  have D := aM I
  clear I hn
  go_wp2
  go_ret
  exact ⟨_, _, (by rw [D.out]; rfl), by rw [D.out]; exact HB2.out, HK2.out⟩
 have hk : idxU uid b.f3 0 = (k : Int) := by simpa using hk
 have hkl : k < b.f3.length := by omega
 have I : flagsL b uid mode flags = (⟨b.f0, b.f1, b.f2, b.f3.set k ⟨b.f3[k].f0, newFlags mode b.f3[k].f1 flags, b.f3[k].f2⟩, b.f4⟩, 0) := by
  unfold flagsL
  rw [hk, if_neg (Z31)]
  have : ar b.f3 (k : Int) = b.f3[k] := by unfold ar; simp [List.getD, List.getElem?_eq_getElem hkl]
  rw [this, Int.toNat_natCast]
 rw [hk]
 have D := aM I
 clear I hk
 obtain ⟨gm, c, rfl, hgl, hgg, hok⟩ := HB2.out.form (Z31)
 obtain ⟨-, -, -, z3, -⟩ := HB2.out.cells
 obtain ⟨-, m1, -, hf⟩ := HB2.out.mail k hkl
 have aB := hf 1
 obtain ⟨-, -, y2, y3⟩ := cl4 O.out
 have h0 : (0 : Int) <= (k : Int) := by omega
 have h1 : (k : Int) < (b.f3.length : Int) := by omega
 have hneg : decide ((k : Int) < 0) = false := ba (Z31)
 have R1 := aM (fun x => lent_flag HB2.out k hkl x)
 have R2 := aM (fun x => dm.setCell (p := ⟨gm, k * 3 + 1, none⟩) HK2.out (.inl hok) (.int .i64 x))
 clear hf
 by_cases y : mode = 1
 ·have s : newFlags mode b.f3[k].f1 flags = flags := if_pos y
  have E2 := aM (by rw [D.out, s] : flagsL b uid mode flags = (⟨b.f0, b.f1, b.f2, b.f3.set k ⟨b.f3[k].f0, flags, b.f3[k].f2⟩, b.f4⟩, 0))
  subst y
  clear s
  go_upto_region 7 with (fail)
  go_region
  all_goals (go_wp2; go_ret; exact ⟨_, _, (by rw [E2.out]; rfl), Z173, Z195⟩)
 by_cases J : mode = 2
 ·have s : newFlags mode b.f3[k].f1 flags = Go.bits .or .i64 b.f3[k].f1 flags := by unfold newFlags; rw [if_neg y, if_pos J]
  have E2 := aM (by rw [D.out, s] : flagsL b uid mode flags = (⟨b.f0, b.f1, b.f2, b.f3.set k ⟨b.f3[k].f0, (Go.bits .or .i64 b.f3[k].f1 flags), b.f3[k].f2⟩, b.f4⟩, 0))
  subst J
  clear s y
  go_upto_region 9 with (fail)
  go_region
  all_goals (go_wp2; go_ret; exact ⟨_, _, (by rw [E2.out]; rfl), Z173, Z195⟩)
 have s : newFlags mode b.f3[k].f1 flags = Go.bits .andNot .i64 b.f3[k].f1 flags := by unfold newFlags; rw [if_neg y, if_neg J]
 have E2 := aM (by rw [D.out, s] : flagsL b uid mode flags = (⟨b.f0, b.f1, b.f2, b.f3.set k ⟨b.f3[k].f0, (Go.bits .andNot .i64 b.f3[k].f1 flags), b.f3[k].f2⟩, b.f4⟩, 0))
 have t1 : (mode == 1) = false := bb y
 have t2 : (mode == 2) = false := bb J
 clear s y J
 go_upto_region 5 with (fail)
 go_region
 all_goals (go_wp2; go_ret; exact ⟨_, _, (by rw [E2.out]; rfl), Z173, Z195⟩)
def delB (x : S113) : Bool := Go.bits .and .i64 x.f1 8 != 0
def idxD : List S113 -> Int -> Int
 | [], _ => -1
 | m :: r, i => if delB m = true then i else idxD r (i + 1)
theorem rdStored (l : List S113) (k : Nat) (h : k < l.length) : ar l (k : Int) = l[k] := by unfold ar; simp [List.getD, List.getElem?_eq_getElem h]
theorem idxD_drop (l : List S113) (k : Nat) (h : k < l.length) : idxD (l.drop k) k = if delB (ar l (k : Int)) = true then (k : Int) else idxD (l.drop (k + 1)) ((k + 1 : Nat) : Int) := by
 rw [List.drop_eq_getElem_cons h, idxD, rdStored l k h]; rfl
theorem delIs (x : S113) (w : World) :
  Calls prog 103 #[.agg #[.int .i64 x.f0, .int .i64 x.f1, .string x.f2]] w fun e w' => e = .returned (.bool (delB x)) /\ Below w.heap.size w w' := by
 go_enter func103, ntmps103
 go_wp2
 go_ret
 exact ⟨by first | rfl | (simp [delB]; done), Z6⟩
theorem delIndex (A : Option Addr) (c : Nat) (l : List S113) (w : World) (hC : Kd.C k113 w A l.length l) (hl : l.length <= 1099511627776) :
  Calls prog 126 #[.slice A l.length c, .func (.func 103) #[] #[]] w fun e w' => e = .returned (.int .i64 (idxD l 0)) /\ Below w.heap.size w w' := by
 have eg := enters_of func103 (Z16) rfl
 have HC := aM hC
 clear hC
 go_enter func126, ntmps126
 go_wp2
 go_loopg [5, 8] l.length (fun gg _ D wr => ∃ kk : Nat, kk <= l.length /\ l.length - kk <= gg /\ D = .int .i64 kk /\ ap (Below w.heap.size w wr) /\ ap (idxD l 0 = idxD (l.drop kk) kk))
 case atStart => exact ⟨0, Nat.zero_le _, Z31, rfl, ⟨bi _ w⟩, ⟨rfl⟩⟩
 case round =>
  obtain ⟨kk, hkk, hg, rfl, BW, AI⟩ := hrel
  by_cases hlt : kk < l.length
  ·have hltz : (kk : Int) < (l.length : Int) := by omega
   have I : 0 <= (kk : Int) := by omega
   obtain ⟨ad, e, s, hx1, y⟩ := ed HC.out kk I hltz
   cases e
   simp only [Int.toNat_natCast] at s hx1 y
   replace s := (BW.out.cell (World.block_lt_of_cell? w _ s)).trans s
   replace hx1 := (BW.out.cell (World.block_lt_of_cell? w _ hx1)).trans hx1
   replace y := (BW.out.cell (World.block_lt_of_cell? w _ y)).trans y
   have hstep := idxD_drop l kk hlt
   have hcall := delIs (ar l (kk : Int)) wr
   cases hq : delB (ar l (kk : Int)) with
   | true =>
    rw [hq] at hstep hcall
    rw [if_pos rfl] at hstep
    have HS := aM hstep
    clear hstep hq
    go_wp2_with (go_at_call 103; refine hcall.mono ?_; rintro e w' ⟨rfl, hb'⟩)
    go_ret
    exact ⟨by rw [AI.out, HS.out]; rfl, Below.trans BW.out (hb'.mono BW.out.size)⟩
   | false =>
    rw [hq] at hstep hcall
    rw [if_neg (fg)] at hstep
    have HS := aM hstep
    clear hstep hq
    go_wp2_with (go_at_call 103; refine hcall.mono ?_; rintro e w' ⟨rfl, hb'⟩)
    go_roundg (l.length - (kk + 1))
    case measure => omega
    case rel => exact ⟨kk + 1, Z31, Z31, by go_num, ⟨Below.trans BW.out (hb'.mono BW.out.size)⟩, ⟨AI.out.trans HS.out⟩⟩
  have hltz : ¬ (kk : Int) < (l.length : Int) := by omega
  obtain rfl : kk = l.length := by omega
  go_wp2
  go_ret
  exact ⟨Z197, BW.out⟩
section
variable {w : World} {base g n c : Nat} {ok : Nat -> Prop} {ys : List S113}
theorem row_at (h : Kd.R k113 113 w base ok (.slice (some ⟨g, 0, none⟩) n c) ys) (k : Nat) (hk : k < ys.length) :
  w.cell? ⟨g, k * 3, none⟩ = some (.int .i64 ys[k].f0) /\ w.cell? ⟨g, k * 3 + 1, none⟩ = some (.int .i64 ys[k].f1) /\ w.cell? ⟨g, k * 3 + 2, none⟩ = some (.string ys[k].f2) /\ ∀ j, w.frozen? ⟨g, k * 3 + j, none⟩ = false := by
 have hn := (Kd.R_reads' h).1
 obtain ⟨ce, hcl, hM, hcc, hfr⟩ := Kd.R_elem h z113 (k : Int) (Z31) (Z31)
 have hg : ys.getD (k : Int).toNat z113 = ys[k] := by simp [List.getD, List.getElem?_eq_getElem hk]
 rw [hg] at hM
 obtain rfl := k113_openM hM
 exact ⟨hcc 0 _ rfl, hcc 1 _ rfl, hcc 2 _ rfl, hfr⟩
theorem row_put (h : Kd.R k113 113 w base ok (.slice (some ⟨g, 0, none⟩) n c) ys) (a : Nat) (ha : a < n) (x : S113) :
  Kd.R k113 113 (((w.setCell ⟨g, a * 3, none⟩ (.int .i64 x.f0)).setCell ⟨g, a * 3 + 1, none⟩ (.int .i64 x.f1)).setCell ⟨g, a * 3 + 2, none⟩ (.string x.f2)) base ok (.slice (some ⟨g, 0, none⟩) n c) (ys.set a x) := by
 obtain ⟨ce, hcl, hM, hcc, hfr⟩ := Kd.R_elem h z113 (a : Int) (Z31) (Z31)
 have := (Kd.R_seg h (a : Int) (Z31) (Z31) hcl hcc (okp := fun _ => False) (seg := [.int .i64 x.f0, .int .i64 x.f1, .string x.f2]) (j := 0) (show 3 <= 3 by decide) (x' := x) (by
  have hl : ce.drop 3 = [] := List.drop_of_length_le (Nat.le_of_eq hcl)
  show k113.M _ _ _ x (ce.take 0 ++ [.int .i64 x.f0, .int .i64 x.f1, .string x.f2] ++ ce.drop 3)
  rw [hl]; exact k113_mkM _ _ (fun _ => False) x) (fun _ h => h.elim)).1
 have hs : k113.sz = 3 := rfl
 rw [hs, Int.toNat_natCast] at this
 exact this
theorem row_len (h : Kd.R k113 113 w base ok (.slice (some ⟨g, 0, none⟩) n c) ys) : n = ys.length /\ n <= c := ⟨(Kd.R_reads' h).1, (Kd.R_reads' h).2.1⟩
theorem row_block (h : Kd.R k113 113 w base ok (.slice (some ⟨g, 0, none⟩) n c) ys) : ∃ cur, w.heap[g]? = some (.cells cur 113 (0, 0)) /\ cur.size = c * 3 := by
 obtain ⟨_, inner, ⟨_, h2⟩, _⟩ := h
 rcases h2 with ⟨e, _⟩ | ⟨g', cap, cur, e, _, hh, _, _, hsz, _⟩
 ·cases e
 cases e; exact ⟨cur, hh, hsz⟩
theorem row_spare (h : Kd.R k113 113 w base ok (.slice (some ⟨g, 0, none⟩) n c) ys) (o : Nat) (seg : List Value) (ho : n * 3 <= o) (hf : o + seg.length <= c * 3) :
  Kd.R k113 113 (w.setCells g o seg) base ok (.slice (some ⟨g, 0, none⟩) n c) ys := by
 obtain ⟨y, inner, ⟨h1, h2⟩, hr⟩ := h
 rcases h2 with ⟨e, _⟩ | ⟨g', cap, cur, e, hb, hh, hn, hm, hsz, ht⟩
 ·cases e
 injection e with s D I
 injection s with s
 injection s with s
 subst s; subst I
 have hs : k113.sz = 3 := rfl
 rw [hs] at hsz ht
 obtain ⟨cur', J, M, O⟩ := setCells_row seg o w cur hh (Z31)
 refine ⟨y, inner, ⟨h1, .inr ⟨g, c, cur', by rw [D], hb, J, hn, hm, by rw [M, hs]; exact hsz, ?_⟩⟩, hr.imp_ (fun p cs hp => ?_)⟩
 ·have hcl : cur.toList.length = c * 3 := by rw [Array.length_toList]; exact hsz
  have ht' : List.take (ys.length * 3) cur.toList = inner := ht
  show List.take (ys.length * 3) cur'.toList = inner
  rw [O, ← ht', List.append_assoc, List.take_append_of_le_length (by rw [List.length_take]; omega), List.take_take]
  congr 1; omega
 obtain rfl := k113_openM hp; exact k113_mkM _ _ _ _
theorem row_clear (h : Kd.R k113 113 w base ok (.slice (some ⟨g, 0, none⟩) n c) ys) (a : Nat) (ha : a <= n) (ty : TypeId) (c' : Nat) :
  ∃ seg : List Value, (Builtin.clear_ #[80] ty #[.slice (some ⟨g, a * 3, none⟩) (n - a) c']).run prog w = .ok (.tuple #[]) (w.setCells g (a * 3) seg) /\ Kd.R k113 113 (w.setCells g (a * 3) seg) base ok (.slice (some ⟨g, 0, none⟩) a c) (ys.take a) := by
 obtain ⟨hn, hc⟩ := row_len h
 have hT := Kd.R_take h (m := a) (Z31)
 by_cases s : n - a = 0
 ·refine ⟨[], ?_, hT⟩
  rw [s]
  have hu := run_underlying (P := prog) (w := w) underlying80
  simp [Builtin.clear_, hu]
  rfl
 obtain ⟨cur, hb, hsz⟩ := row_block h
 obtain ⟨i0, hi, y, D, I⟩ := info_parts info113
 have hl : (Builtin.zeroCells (Value.agg #[.int .i64 0, .int .i64 0, .string ⟨#[]⟩]).cells (n - a)).toList.length = (n - a) * 3 := by simp [Builtin.zeroCells, Value.cells]
 have hone : ∀ u ∈ (Builtin.zeroCells (Value.agg #[.int .i64 0, .int .i64 0, .string ⟨#[]⟩]).cells (n - a)).toList, u.oneCell' = true := by
  intro u hu
  simp only [Builtin.zeroCells, Value.cells] at hu
  simp at hu
  obtain ⟨j, hj, rfl⟩ := hu
  have : j % 3 = 0 ∨ j % 3 = 1 ∨ j % 3 = 2 := by omega
  rcases this with e | e | e <;> rw [e] <;> rfl
 have hst := run_storeCells_cells (P := prog) g (a * 3) _ 0 w (fun j hj => by
  rw [hl] at hj
  have := al hb (a * 3 + 0 + j)
  rw [this]
  have hlt : a * 3 + 0 + j < cur.size := by rw [hsz]; omega
  rw [Array.getElem?_eq_getElem hlt]; rfl) (fun j hj => am hb _) hone
 refine ⟨_, ?_, row_spare hT (a * 3) (Builtin.zeroCells (Value.agg #[.int .i64 0, .int .i64 0, .string ⟨#[]⟩]).cells (n - a)).toList (bj _) (by rw [hl]; omega)⟩
 have hu := run_underlying (P := prog) (w := w) underlying80
 have hv : (zeroValue 113).run prog w = .ok (.agg #[.int .i64 0, .int .i64 0, .string ⟨#[]⟩]) w := by simp [zeroValue, typeInfo, hi, y]
 obtain ⟨m, hm⟩ : ∃ m, n - a = m + 1 := ⟨n - a - 1, Z31⟩
 rw [hm] at hst ⊢
 simp only [Nat.add_zero] at hst
 simp [Builtin.clear_, hu, hv, hst]
end
theorem take_filter_step (ms : List S113) (j : Nat) (h : j < ms.length) : (ms.take (j + 1)).filter (fun x => !delB x) = if delB ms[j] = true then (ms.take j).filter (fun x => !delB x) else (ms.take j).filter (fun x => !delB x) ++ [ms[j]] := by
 rw [List.take_succ_eq_append_getElem h, List.filter_append]
 cases hd : delB ms[j] with
 | true => simp [hd]
 | false => simp [hd]
theorem idxD_spec : ∀ (l : List S113) (i : Nat), (idxD l i = -1 /\ l.filter (fun x => !delB x) = l) ∨ ∃ k : Nat, idxD l i = ((i + k : Nat) : Int) /\ k < l.length /\ (l.take (k + 1)).filter (fun x => !delB x) = l.take k
 | [], i => .inl ⟨rfl, rfl⟩
 | m :: r, i => by
  unfold idxD
  cases hd : delB m with
  | true => rw [if_pos rfl]; exact .inr ⟨0, fg, fg, by simp [hd]⟩
  | false =>
   rw [if_neg (fg)]
   rcases idxD_spec r (i + 1) with ⟨h1, h2⟩ | ⟨k, h1, h2, s⟩
   ·exact .inl ⟨by simpa using h1, by simp [hd, h2]⟩
   exact .inr ⟨k + 1, (by have h_ : ((i : Int) + 1) = ((i + 1 : Nat) : Int) := (Z31); rw [h_, h1]; omega), by simp; omega, by simp [hd]; simpa using s⟩
def DelRet (base : Nat) (okm : Nat -> Prop) (w : World) (gm : Nat) (ms : List S113) (e : Ending) (w' : World) : Prop :=
 ∃ v, e = .returned v /\ Kd.R k113 113 w' base okm v (ms.filter (fun x => !delB x)) /\ dm w w' (fun k => k = gm)
theorem mails_delete (base : Nat) (okm : Nat -> Prop) (gm n c : Nat) (ms : List S113) (w : World) (h : Kd.R k113 113 w base okm (.slice (some ⟨gm, 0, none⟩) n c) ms) (hl : ms.length <= 1048576) :
  Calls prog 102 #[.slice (some ⟨gm, 0, none⟩) n c, .func (.func 103) #[] #[]] w (DelRet base okm w gm ms) := by
 have eg := enters_of func103 (Z16) rfl
 obtain ⟨rfl, hnc⟩ := row_len h
 have HR := aM h
 have hC := (Kd.R_reads' h).2.2
 have HL := aM hl
 clear h hl
 go_enter func102, ntmps102
 go_wp2_with fail
 refine (delIndex (some ⟨gm, 0, none⟩) c ms w hC (by have := HL.out; omega)).mono ?_
 rintro e w1 ⟨rfl, J⟩
 have U := aM (Kd.R_below HR.out J)
 have HK1 := aM (dm.of_below J (fun k => k = gm))
 clear hC J HR
 rcases idxD_spec ms 0 with ⟨h1, h2⟩ | ⟨k, h1, h2, X⟩
 ·have y : idxD ms 0 = -1 := by simpa using h1
  rw [y]
  have HF := aM h2
  clear h1 h2 y
  go_wp2
  go_ret
  exact ⟨_, rfl, by rw [HF.out]; exact U.out, HK1.out⟩
 have y : idxD ms 0 = (k : Int) := by simpa using h1
 rw [y]
 have HF := aM X
 have hkm : ((k : Int) == -1) = false := bb (Z31)
 clear h1 X y
 have aI := HL.out
 go_wp2
 go_loopg [5, 6, 7] ms.length (fun gg s5 s6 s7 wr => ∃ (a j : Nat) (ys : List S113), a < j /\ j <= ms.length /\ ms.length - j <= gg /\ s5 = .int .i64 a /\ s6 = .int .i64 j /\ ap (Kd.R k113 113 wr base okm (.slice (some ⟨gm, 0, none⟩) ms.length c) ys) /\
  ap (ys.take a = (ms.take j).filter (fun x => !delB x)) /\ ap (ys.drop j = ms.drop j) /\ ap (dm w wr (fun k => k = gm)) /\ ap (ys.length = ms.length))
 case atStart => exact ⟨k, k + 1, ms, Z31, Z31, Z31, rfl, by go_num, U, ⟨HF.out.symm⟩, ⟨rfl⟩, HK1, ⟨rfl⟩⟩
 case round =>
  obtain ⟨a, j, ys, haj, hjm, hgg, rfl, rfl, M, HT, HD, HK2, HY⟩ := hrel
  by_cases hlt : j < ms.length
  ·have hltz : (j : Int) < (ms.length : Int) := by omega
   have h0 : (0 : Int) <= (j : Int) := by omega
   have hjy : j < ys.length := by rw [HY.out]; exact hlt
   have ej : ys[j] = ms[j] := by
    have := congrArg (fun l => l[0]?) HD.out
    simp only [List.getElem?_drop, Nat.add_zero] at this
    rw [List.getElem?_eq_getElem hjy, List.getElem?_eq_getElem hlt] at this
    exact Option.some.inj this
   obtain ⟨z0, z1, z2, -⟩ := row_at M.out j hjy
   rw [ej] at z0 z1 z2
   have HS := aM (take_filter_step ms j hlt)
   have hcall := delIs ms[j] (wr.alloc (.cells #[.int .i64 ms[j].f0, .int .i64 ms[j].f1, .string ms[j].f2] 113))
   have BX := aM (show (wr.alloc (.cells #[.int .i64 ms[j].f0, .int .i64 ms[j].f1, .string ms[j].f2] 113)).heap[wr.heap.size]? = some (.cells #[.int .i64 ms[j].f0, .int .i64 ms[j].f1, .string ms[j].f2] 113 (0, 0)) from by simpa using heap_alloc_new wr _)
   have D := aM (Kd.R_alloc M.out (.cells #[.int .i64 ms[j].f0, .int .i64 ms[j].f1, .string ms[j].f2] 113))
   have Y := aM (HK2.out.alloc (.cells #[.int .i64 ms[j].f0, .int .i64 ms[j].f1, .string ms[j].f2] 113))
   have Z := aM (show ys.drop (j + 1) = ms.drop (j + 1) from by have := congrArg (List.drop 1) HD.out; simpa [List.drop_drop] using this)
   cases hd : delB ms[j] with
   | true =>
    rw [hd] at hcall
    have O := aM (by rw [HS.out, if_pos hd] : (ms.take (j + 1)).filter (fun x => !delB x) = (ms.take j).filter (fun x => !delB x))
    have HC := aM hcall
    clear hcall HS
    go_wp2_with (go_at_call 103; refine HC.out.mono ?_; rintro e w2 ⟨rfl, s⟩)
    go_roundg (ms.length - (j + 1))
    case measure => omega
    case rel => exact ⟨a, j + 1, ys, Z31, Z31, Z31, rfl, by go_num, ⟨Kd.R_below D.out s⟩, ⟨HT.out.trans O.out.symm⟩, Z, ⟨Y.out.below s⟩, HY⟩
   | false =>
    rw [hd] at hcall
    have O := aM (by rw [HS.out, if_neg (by rw [hd]; simp)] : (ms.take (j + 1)).filter (fun x => !delB x) = (ms.take j).filter (fun x => !delB x) ++ [ms[j]])
    have HC := aM hcall
    clear hcall HS ej hjy
    have hay : a < ys.length := by rw [HY.out]; omega
    have aF : (0 : Int) <= (a : Int) := by omega
    have aG : (a : Int) < (ms.length : Int) := by omega
    go_wp2_with (go_at_call 103; refine HC.out.mono ?_; rintro e w2 ⟨rfl, s⟩; have I := ai BX.out s; have y0 : w2.cell? ⟨wr.heap.size, 0, none⟩ = _ := (al I 0).trans rfl; have y1 : w2.cell? ⟨wr.heap.size, 1, none⟩ = _ := (al I 1).trans rfl; have y2 : w2.cell? ⟨wr.heap.size, 2, none⟩ = _ := (al I 2).trans rfl; clear I; have aA := aM (Kd.R_below D.out s); have aH := aM (Y.out.below s); clear s; obtain ⟨r0, r1, r2, hf⟩ := row_at aA.out a hay; have f0 : w2.frozen? ⟨gm, a * 3, none⟩ = false := hf 0; have f1 := hf 1; have f2 := hf 2; clear hf)
    go_roundg (ms.length - (j + 1))
    case measure => omega
    case rel =>
     refine ⟨a + 1, j + 1, ys.set a ms[j], Z31, Z31, Z31, by go_num, by go_num, ⟨row_put aA.out a (Z31) ms[j]⟩, ⟨?_⟩, ⟨?_⟩, ⟨dm.setCell (p := ⟨gm, a * 3 + 2, none⟩) (dm.setCell (p := ⟨gm, a * 3 + 1, none⟩) (dm.setCell (p := ⟨gm, a * 3, none⟩) aH.out (.inl rfl) _) (.inl rfl) _) (.inl rfl) _⟩, ⟨by rw [List.length_set]; exact HY.out⟩⟩
     ·rw [List.take_succ_eq_append_getElem (by simpa using hay), List.take_set_of_le (bj _), HT.out, List.getElem_set_self, O.out]
     rw [List.drop_set_of_lt (Z31)]; exact Z.out
  have hltz : ¬ (j : Int) < (ms.length : Int) := by omega
  obtain rfl : j = ms.length := by omega
  have aF : (0 : Int) <= (a : Int) := by omega
  have aG : (a : Int) <= (ms.length : Int) := by omega
  have aS : (a : Int) <= (c : Int) := by omega
  have hac : a <= c := by omega
  have ham : a <= ms.length := by omega
  obtain ⟨seg, q1, q2⟩ := row_clear M.out a (Z31) 0 (c - a)
  have HQ := aM q1
  have D := aM q2
  clear q1 q2
  have ET := aM (by rw [HT.out, List.take_of_length_le (bj _)] : ys.take a = ms.filter (fun x => !delB x))
  go_wp2_with fail
  rw [HQ.out]
  go_wp2
  go_ret
  refine ⟨_, rfl, ?_, ?_⟩
  ·rw [← ET.out]; exact D.out
  exact HK2.out.then_ (S2 := fun k => k = gm) ⟨by rw [(setCells_same gm seg (a * 3) wr).2.2.2]; exact bj _, fun q _ hn => setCells_far seg (a * 3) q hn, (setCells_same gm seg (a * 3) wr).1, (setCells_same gm seg (a * 3) wr).2.1, (setCells_same gm seg (a * 3) wr).2.2.1⟩ (fun q hq => .inl hq)
def DelRetA (base : Nat) (okm : Nat -> Prop) (w : World) (v : Value) (ms : List S113) (e : Ending) (w' : World) : Prop :=
 ∃ v1, e = .returned v1 /\ Kd.R k113 113 w' base okm v1 (ms.filter (fun x => !delB x)) /\ dm w w' (fun k => v.ownBlock = some k)
theorem mails_delete_any (base : Nat) (okm : Nat -> Prop) (v : Value) (ms : List S113) (w : World) (h : Kd.R k113 113 w base okm v ms) (hl : ms.length <= 1048576) :
  Calls prog 102 #[v, .func (.func 103) #[] #[]] w (DelRetA base okm w v ms) := by
 rcases Nat.eq_zero_or_pos ms.length with s | s
 ·have I : ms = [] := List.eq_nil_of_length_eq_zero s
  subst I
  obtain ⟨A, c, rfl⟩ := Kd.R_slice h
  have hC := (Kd.R_reads' h).2.2
  have HR := aM h
  have eg := enters_of func103 (Z16) rfl
  clear h s hl
  go_enter func102, ntmps102
  go_wp2_with fail
  refine (delIndex A c [] w hC (fg)).mono ?_
  rintro e w1 ⟨rfl, y⟩
  have J := aM (Kd.R_below HR.out y)
  have HK1 := aM (dm.of_below y (fun k => (Value.slice A ([] : List S113).length c).ownBlock = some k))
  have D : idxD [] 0 = -1 := rfl
  rw [D]
  clear hC y D
  go_wp2
  go_ret
  exact ⟨_, rfl, J.out, HK1.out⟩
 obtain ⟨g, c, rfl, -, -, -⟩ := Kd.R_form h s
 refine (mails_delete base okm g ms.length c ms w h hl).mono fun e w' ⟨v1, he, hr, hk⟩ => ⟨v1, he, hr, hk.mono fun k hk => by rw [hk]; simp [Value.ownBlock]⟩
section
variable {base g n cap i : Nat} {ok oki : Nat -> Prop} {W w1 : World} {xs : List S82} {b : S82} {vM vK v1 : Value}
theorem lent_fewer {ms : List S113} (hi : i < n) (h1 : ∀ k, W.heap.size <= k -> oki k) (h2 : ¬ oki g) (hH : Kd.H k82 82 W base ok (.slice (some ⟨g, 0, none⟩) n cap) xs (i : Int) oki [.string b.f0, .int .i64 b.f1, .int .i64 b.f2, vM, vK])
  (s : Kd.R k113 113 W base oki vM b.f3) (y : Kd.R Kd.string 9 W base oki vK b.f4) (hk : dm W w1 (fun k => vM.ownBlock = some k)) (s' : Kd.R k113 113 w1 base oki v1 ms) :
  gl base ok (w1.setCell ⟨g, i * 5 + 3, none⟩ v1) g n cap xs i ⟨b.f0, b.f1, b.f2, ms, b.f4⟩ v1 vK := by
 have D := Kd.H_step hH (fun k _ hn hlt => hk.2 k hlt (fun e => hn (s.1 k e)))
 have I : Kd.R Kd.string 9 w1 base oki vK b.f4 := Kd.R_mono (Kd.R_step (Kd.R_apart' y (Kd.R_typed s) (Z68)) (fun k hk' hlt => hk.2 k hlt (fun e => hk'.2 e.symm))) (fun _ h => h.1)
 obtain ⟨hH', hg'⟩ := Kd.H_seg D (Z31) (Z31) (seg := [v1]) (j := 3) (show 4 <= 5 by decide) (by simpa using (Kd.R_val s').2)
 have hs : k82.sz = 5 := rfl
 rw [hs, Int.toNat_natCast] at hH' hg'
 have hne : ∀ k, oki k -> some k ≠ some g := fun k hk e => h2 (Z200)
 have hz := hk.1
 exact ⟨hi, oki, fun k hk => h1 k (by have h_ : (w1.setCell ⟨g, i * 5 + 3, none⟩ v1).heap.size = w1.heap.size := (fg); omega), h2, hH', Kd.R_grown s' hg' hne, Kd.R_grown I hg' hne⟩
end
theorem idxN_lt (u : ByteArray) : ∀ (l : List S82) (i : Nat), idxN u l i < 0 ∨ ∃ k : Nat, idxN u l i = k /\ i <= k /\ k < i + l.length
 | [], i => .inl (by simp [idxN])
 | m :: r, i => by
  unfold idxN
  by_cases h : m.f0.toList = u.toList
  ·rw [if_pos h]; exact .inr ⟨i, rfl, bj _, fg⟩
  rw [if_neg h]
  rcases idxN_lt u r (i + 1) with h1 | ⟨k, h1, h2, s⟩
  ·exact .inl (by simpa using h1)
  exact .inr ⟨k, by simpa using h1, Z31, by simp; omega⟩
def gi (xs : List S82) (kind uid mode flags : Int) (nm : ByteArray) (its : List S84) : List S82 × Int :=
 if kind = 1 then (if 0 <= idxN nm xs 0 then (xs, 9) else if xs.length = 4 then (xs, 7) else (xs ++ [⟨nm, (xs.length : Int) + 1, 1, [], []⟩], 0))
 else if idxN nm xs 0 < 0 then (xs, 5)
 else if kind = 2 then (xs.set (idxN nm xs 0).toNat (addL (ax xs (idxN nm xs 0)) its).1, (addL (ax xs (idxN nm xs 0)) its).2)
 else if kind = 3 then (xs.set (idxN nm xs 0).toNat (flagsL (ax xs (idxN nm xs 0)) uid mode flags).1, (flagsL (ax xs (idxN nm xs 0)) uid mode flags).2)
 else (xs.set (idxN nm xs 0).toNat ⟨(ax xs (idxN nm xs 0)).f0, (ax xs (idxN nm xs 0)).f1, (ax xs (idxN nm xs 0)).f2, (ax xs (idxN nm xs 0)).f3.filter (fun x => !delB x), (ax xs (idxN nm xs 0)).f4⟩, 0)
def MutRet (base : Nat) (ok : Nat -> Prop) (w : World) (q : List S82 × Int) (e : Ending) (w' : World) : Prop :=
 ∃ v, e = .returned (.tuple #[v, .int .i64 q.2]) /\ Kd.S k82 82 w' base ok v q.1 /\ dm w w' ok
theorem i_mutate (base : Nat) (ok : Nat -> Prop) (v : Value) (xs : List S82) (kind uid mode flags : Int) (nm : ByteArray) (A : Option Addr) (c : Nat) (l : List S84) (w : World) (hS : Kd.S k82 82 w base ok v xs) (hbase : base <= w.heap.size) (hnew : ∀ k, w.heap.size <= k -> ok k)
  (hit : ∀ W', dm w W' ok -> Kd.C k84 W' A l.length l) (hX : xs.length <= 1048576) (hM : ∀ b ∈ xs, b.f3.length <= 1048576 /\ b.f4.length <= 1048576) (hl : l.length <= 1048576) :
  Calls prog 56 #[v, .agg #[.int .i64 kind, .int .i64 uid, .int .i64 mode, .int .i64 flags, .string nm, .slice A l.length c]] w (MutRet base ok w (gi xs kind uid mode flags nm l)) := by
 obtain ⟨A0, c0, rfl⟩ := Kd.S_slice hS
 have HS := aM (Kd.S_alloc hS (.cells #[.int .i64 kind, .int .i64 uid, .int .i64 mode, .int .i64 flags, .string nm, .slice A l.length c] 41))
 have BX := aM (show (w.alloc (.cells #[.int .i64 kind, .int .i64 uid, .int .i64 mode, .int .i64 flags, .string nm, .slice A l.length c] 41)).heap[w.heap.size]? = some (.cells #[.int .i64 kind, .int .i64 uid, .int .i64 mode, .int .i64 flags, .string nm, .slice A l.length c] 41 (0, 0)) from by simpa using heap_alloc_new w _)
 have HK := aM ((dm.refl w ok).alloc (.cells #[.int .i64 kind, .int .i64 uid, .int .i64 mode, .int .i64 flags, .string nm, .slice A l.length c] 41))
 have HZ := aM (show w.heap.size <= (w.alloc (.cells #[.int .i64 kind, .int .i64 uid, .int .i64 mode, .int .i64 flags, .string nm, .slice A l.length c] 41)).heap.size from by simp)
 have HIT := aM hit
 have HM := aM hM
 clear hS hit hM
 go_enter func56, ntmps56
 go_upto_region 1 with (fail)
 generalize aH : w.alloc (.cells #[.int .i64 kind, .int .i64 uid, .int .i64 mode, .int .i64 flags, .string nm, .slice A l.length c] 41) = W1 at HS BX HK HZ ⊢
 clear aH
 generalize aF : w.heap.size = x0 at BX ⊢
 have aR := aM aF
 clear aF
 obtain ⟨-, -, -, -, y4⟩ := cl5 BX.out
 go_wp2_with fail
 refine (gp.calls A0 c0 xs nm (idxN nm xs 0) W1 (Kd.S_reads' HS.out).2.2 (Kd.S_reads' HS.out).2.1 (if_pos (Z31))).mono ?_
 rintro e w2 ⟨rfl, U⟩
 have D := aM (Kd.S_below HS.out U)
 have HK2 := aM (HK.out.below U)
 have J := aM (ai BX.out U)
 have X := aM (show w.heap.size <= w2.heap.size from Nat.le_trans HZ.out U.size)
 clear HS HK BX HZ y4 U
 obtain ⟨y0, y1, y2, y3, y4, y5⟩ := cl6 J.out
 by_cases s : kind = 1
 ·have t1 : (kind == 1) = true := bf s
  by_cases hn : 0 <= idxN nm xs 0
  ·have tn : decide (0 <= idxN nm xs 0) = true := az hn
   have E := aM (by unfold gi; rw [if_pos s, if_pos hn] : gi xs kind uid mode flags nm l = (xs, 9))
   clear s hn
   go_wp2
   go_ret2
   exact ⟨_, (Z199), by rw [E.out]; exact D.out, HK2.out⟩
  have tn : decide (0 <= idxN nm xs 0) = false := ba hn
  by_cases h4 : xs.length = 4
  ·have t4 : ((xs.length : Int) == 4) = true := bf (Z31)
   have E := aM (by unfold gi; rw [if_pos s, if_neg hn, if_pos h4] : gi xs kind uid mode flags nm l = (xs, 7))
   clear s hn h4
   go_wp2
   go_ret2
   exact ⟨_, (Z199), by rw [E.out]; exact D.out, HK2.out⟩
  have t4 : ((xs.length : Int) == 4) = false := bb (Z31)
  have E := aM (by unfold gi; rw [if_pos s, if_neg hn, if_neg h4] : gi xs kind uid mode flags nm l = (xs ++ [⟨nm, (xs.length : Int) + 1, 1, [], []⟩], 0))
  clear s hn h4
  go_wp2_with (at_builtin; refine Kd.S_append k82 base rfl (.tmp 24) (.tmp 31) 33 82 (.agg #[.string ⟨#[]⟩, .int .i64 0, .int .i64 0, .slice none 0 0, .slice none 0 0]) 80 rfl underlying33 info82 rfl (Z68) (Z31) (.slice A0 xs.length c0) xs (⟨nm, (xs.length : Int) + 1, 1, [], []⟩ : S82) [.string nm, .int .i64 ((xs.length : Int) + 1), .int .i64 1, .slice none 0 0, .slice none 0 0] ok (fun _ => False) rfl rfl (k82_mkM _ _ _ _ (Kd.R_nil _ _ _ _ _) (Kd.R_nil _ _ _ _ _)) (fun _ h => h.elim) (fun k hk => hnew k (Nat.le_trans X.out hk)) (Kd.S_mono D.out (fun k hk => ⟨hk, fun h => h⟩)) (bi _ _) (Nat.le_trans hbase X.out) (Z31) ?_; intro v1 w3 hs hb hg hat)
  go_ret2
  exact ⟨_, (Z199), by rw [E.out]; exact hs, dm.of_grown hg HK2.out (fun k e => .inl ((Kd.S_R D.out).1 k e))⟩
 have t1 : (kind == 1) = false := bb s
 rcases idxN_lt nm xs 0 with hn | ⟨k, hk, -, hkl⟩
 ·have hn : idxN nm xs 0 < 0 := by simpa using hn
  have tn : decide (idxN nm xs 0 < 0) = true := az hn
  have E := aM (by unfold gi; rw [if_neg s, if_pos hn] : gi xs kind uid mode flags nm l = (xs, 5))
  clear s hn
  go_wp2
  go_ret2
  exact ⟨_, (Z199), by rw [E.out]; exact D.out, HK2.out⟩
 have hk : idxN nm xs 0 = (k : Int) := by simpa using hk
 have hkl : k < xs.length := by omega
 have hnn : ¬ idxN nm xs 0 < 0 := by omega
 obtain ⟨b, hb⟩ : ∃ b, ax xs (k : Int) = b := ⟨_, rfl⟩
 have hbm : b ∈ xs := by rw [← hb, rdBox xs k hkl]; exact List.getElem_mem hkl
 have hbz := HM.out b hbm
 have M := aM (by unfold gi; rw [if_neg s, if_neg hnn, hk, hb, Int.toNat_natCast] : gi xs kind uid mode flags nm l = if kind = 2 then (xs.set k (addL b l).1, (addL b l).2)
  else if kind = 3 then (xs.set k (flagsL b uid mode flags).1, (flagsL b uid mode flags).2) else (xs.set k ⟨b.f0, b.f1, b.f2, b.f3.filter (fun x => !delB x), b.f4⟩, 0))
 rw [hk]
 obtain ⟨g, cap, eA, -, hgl, -⟩ := Kd.S_form D.out (Z31)
 injection eA with aK aX aL
 subst aK; subst aL
 obtain ⟨vM, vK, hL⟩ := gl.of_S D.out (i := k) hkl (fun q hq => hnew q (Nat.le_trans X.out hq))
 rw [hb] at hL
 have HL := aM hL
 have hokg : ok g := (Kd.S_R D.out).1 g (Z203)
 have h0 : (0 : Int) <= (k : Int) := by omega
 have h1 : (k : Int) < (xs.length : Int) := by omega
 have tn : decide ((k : Int) < 0) = false := ba (Z31)
 clear hk hb hbm hnn hL s
 by_cases I : kind = 2
 ·have t2 : (kind == 2) = true := bf I
  have E := aM (by rw [M.out, if_pos I] : gi xs kind uid mode flags nm l = (xs.set k (addL b l).1, (addL b l).2))
  clear M I
  go_wp2_with fail
  refine (box_add base ok g xs.length _ k xs b vM vK A c l w2 HL.out (Nat.le_trans hbase X.out) hokg (fun W' hk' => HIT.out W' (HK2.out.then_ hk' (fun _ h => .inl h))) hbz.1 hbz.2 hl).mono ?_
  rintro e w3 ⟨vM', vK', rfl, Y, y⟩
  have Z := aM Y
  have aA := aM (HK2.out.then_ y (fun _ h => .inl h))
  clear Y y
  go_wp2
  go_ret2
  exact ⟨_, (Z199), by rw [E.out]; exact Z.out.back, aA.out⟩
 have t2 : (kind == 2) = false := bb I
 by_cases O : kind = 3
 ·have t3 : (kind == 3) = true := bf O
  have E := aM (by rw [M.out, if_neg I, if_pos O] : gi xs kind uid mode flags nm l = (xs.set k (flagsL b uid mode flags).1, (flagsL b uid mode flags).2))
  clear M I O
  go_wp2_with fail
  refine (box_flags base ok g xs.length _ k xs b vM vK kind uid mode flags nm (.slice A l.length c) w2 HL.out (fun q hq => hnew q (Nat.le_trans X.out hq)) hbz.1 ⟨_, _, _, rfl⟩).mono ?_
  rintro e w3 ⟨vM', vK', rfl, Y, y⟩
  have Z := aM Y
  have aA := aM (HK2.out.then_ y (fun _ h => .inl h))
  clear Y y
  go_wp2
  go_ret2
  exact ⟨_, (Z199), by rw [E.out]; exact Z.out.back, aA.out⟩
 have t3 : (kind == 3) = false := bb O
 have E := aM (by rw [M.out, if_neg I, if_neg O] : gi xs kind uid mode flags nm l = (xs.set k ⟨b.f0, b.f1, b.f2, b.f3.filter (fun x => !delB x), b.f4⟩, 0))
 clear M I O
 obtain ⟨hin, oki, p1, p2, pH, p3, p4⟩ := HL.out
 have HP := aM (And.intro p1 (And.intro p2 (And.intro pH (And.intro p3 p4))))
 obtain ⟨-, -, -, z3, -⟩ := HL.out.cells
 have aC := HL.out.frozen (k * 5 + 3)
 have aP := HL.out.lt
 clear p1 p2 pH p3 p4
 go_wp2_with fail
 refine (mails_delete_any base oki vM b.f3 w2 HP.out.2.2.2.1 hbz.1).mono ?_
 rintro e w3 ⟨v1, rfl, aD, y⟩
 have hgne : ¬ vM.ownBlock = some g := fun e => HP.out.2.1 (HP.out.2.2.2.1.1 g e)
 have hgb := y.2 g aP hgne
 have z3' : w3.cell? ⟨g, k * 5 + 3, none⟩ = some vM := (World.cell?_of_block (w := w2) hgb).trans z3
 have aC' : w3.frozen? ⟨g, k * 5 + 3, none⟩ = false := by rw [← aC]; unfold World.frozen?; rw [hgb]
 have Z := aM (lent_fewer hin HP.out.1 HP.out.2.1 HP.out.2.2.1 HP.out.2.2.2.1 HP.out.2.2.2.2 y aD)
 have aA := aM (dm.setCell (p := ⟨g, k * 5 + 3, none⟩) (HK2.out.then_ y (fun q hq => .inl (HP.out.2.2.1.1 q (HP.out.2.2.2.1.1 q hq)))) (.inl hokg) v1)
 obtain ⟨A1, c1, aQ⟩ := Kd.R_slice aD
 subst aQ
 clear aD y hgb z3 aC
 go_wp2
 go_ret2
 exact ⟨_, (Z199), by rw [E.out]; exact Z.out.back, aA.out⟩
def fo.l0 : Nat -> Int -> Int -> ByteArray -> Int -> Int -> List (S113) -> List ByteArray -> Option (Int)
 | 0, _, _, _, _, _, _, _ => none
 | k + 1, x1, x5, y, D, I, s, J => if x5 < (s.length : Int) then (if 0 <= x5 then (if ((ar s x5).f0) = x1 then (some x5) else (fo.l0 k x1 (wrap64 (x5 + 1)) y D I s J)) else (none)) else (some (-1))
def fo.f (k : Nat) (s : ByteArray) (y : Int) (D : Int) (l0_3 : List (S113)) (I : List ByteArray) (a1 : Int) : Option (Int) := fo.l0 k a1 0 s y D l0_3 I
theorem fo.calls (k : Nat) (I : ByteArray) (J : Int) (M : Int) (Y : Option Addr) (Z : Nat) (l0_3 : List (S113)) (aA : Option Addr) (aB : Nat) (s : List ByteArray) (a1 : Int) (r : Int) (w : World) (aC : Kd.C k113 w Y l0_3.length l0_3) (aF : l0_3.length <= Z) (aG : Kd.C Kd.string w aA s.length s) (aH : s.length <= aB) (h : fo.f k I J M l0_3 s a1 = some r) :
  Calls prog 78 #[.agg #[.string I, .int .i64 J, .int .i64 M, .slice Y l0_3.length Z, .slice aA s.length aB], .int .i64 a1] w fun e w' => e = .returned (.int .i64 r) /\ Below w.heap.size w w' := by
 have aQ := underlying82
 replace aC := aM aC
 replace aF := aM aF
 replace aG := aM aG
 replace aH := aM aH
 have HB := aM (bi w.heap.size w)
 have H := h
 clear h
 unfold fo.f at H
 have H' := aM H
 clear H
 go_enter func78, ntmps78
 go_wp2_with (first | ((with_reducible refine gD 2 ?_); refine bxF w 2 #[.string I, .int .i64 J, .int .i64 M, .slice Y l0_3.length Z, .slice aA s.length aB] 82 (Z0) ?_; intro aI hg w3 aD aR GE200 HB hb; clear hb hg))
 go_loopg [5] k (fun kq v5 w' => ∃ (x5_1 : Int), v5 = .int .i64 x5_1 /\ ap (fo.l0 kq a1 x5_1 I J M l0_3 s = some r) /\ ap (kq <= k) /\ ap (w'.heap[aI]? = some (.cells #[.string I, .int .i64 J, .int .i64 M, (.slice Y l0_3.length Z), (.slice aA s.length aB)] 82 (0, 0))) /\ ap (Below w.heap.size w w'))
 case atStart => exact ⟨(0), (Z3), H', ⟨bj _⟩, ⟨zB⟩, ⟨Z106⟩⟩
 case round =>
  clear H'
  obtain ⟨x5_1, rfl, HA, HK1, aD, HB⟩ := hrel
  cases gk with
  | zero => exact absurd HA.out (by simp [fo.l0])
  | succ k1 =>
   have H := HA.out
   clear HA
   simp only [fo.l0] at H
   by_cases c4 : x5_1 < (l0_3.length : Int)
   ·rw [if_pos c4] at H
    have aL := az c4
    clear c4
    obtain ⟨c5, H⟩ := ifS H
    have aS := az c5
    clear c5
    by_cases c6 : ((ar l0_3 x5_1).f0) = a1
    ·rw [if_pos c6] at H
     have aN := bf c6
     have aO := bc c6
     clear c6
     obtain rfl := oI H
     refine bD5 aD ?_
     intros
     have y : 0 <= (x5_1 : Int) := dT (Z4)
     have D : x5_1 < (l0_3.length : Int) := dT (Z4)
     obtain ⟨aP, aE, O, U, X⟩ := ed aC.out x5_1 y D
     cases aE
     replace O := cB HB.out O
     replace U := cB HB.out U
     replace X := cB HB.out X
     replace y := bh y
     replace D := bh D
     go_wp2
     go_ret
     exact ⟨Z1, Z106⟩
    rw [if_neg c6] at H
    have aN := bb c6
    have aO := bg c6
    have H' := aM H
    clear H
    refine bD5 aD ?_
    intros
    have y : 0 <= (x5_1 : Int) := dT (Z4)
    have D : x5_1 < (l0_3.length : Int) := dT (Z4)
    obtain ⟨aP, aE, O, U, X⟩ := ed aC.out x5_1 y D
    cases aE
    replace O := cB HB.out O
    replace U := cB HB.out U
    replace X := cB HB.out X
    replace y := bh y
    replace D := bh D
    go_wp2
    go_roundg k1
    case measure => have := HK1.out; omega
    case rel => exact ⟨(wrap64 (x5_1 + 1)), (Z3), H', ⟨Z85⟩, ⟨zB⟩, ⟨Z106⟩⟩
   rw [if_neg c4] at H
   have aL := ba c4
   clear c4
   obtain rfl := oI H
   refine bD5 aD ?_
   intros
   go_wp2
   go_ret
   exact ⟨Z1, Z106⟩
def spec_l09Flags.f (a0 : Int) (a1 : Int) (s : Int) : Option (Int) := if a1 = 1 then (some s) else (if a1 = 2 then (some (Go.bits .or .i64 a0 s)) else (some (Go.bits .andNot .i64 a0 s)))
theorem spec_l09Flags.calls (a0 : Int) (a1 : Int) (s : Int) (r : Int) (w : World) (h : spec_l09Flags.f a0 a1 s = some r) :
  Calls prog 79 #[.int .i64 a0, .int .i64 a1, .int .i64 s] w fun e w' => e = .returned (.int .i64 r) /\ ew w w' := by
 have H := h
 clear h
 unfold spec_l09Flags.f at H
 by_cases c4 : a1 = 1
 ·rw [if_pos c4] at H
  have y := bf c4
  have D := bc c4
  clear c4
  obtain rfl := oI H
  go_enter func79, ntmps79
  go_wp2
  go_ret
  exact ⟨Z3, Z12⟩
 rw [if_neg c4] at H
 have y := bb c4
 have D := bg c4
 by_cases c5 : a1 = 2
 ·rw [if_pos c5] at H
  have I := bf c5
  have J := bc c5
  clear c5
  obtain rfl := oI H
  go_enter func79, ntmps79
  go_wp2
  go_ret
  exact ⟨Z3, Z12⟩
 rw [if_neg c5] at H
 have I := bb c5
 have J := bg c5
 obtain rfl := oI H
 go_enter func79, ntmps79
 go_wp2
 go_ret
 exact ⟨Z3, Z12⟩
def ApRet (w : World) (q : List S82 × Int) (e : Ending) (w' : World) : Prop :=
 ∃ v, e = .returned (.tuple #[v, .int .i64 q.2]) /\ (q.2 = 0 -> Kd.S k82 82 w' w.heap.size (fun _ => True) v q.1) /\ Below w.heap.size w w'
theorem old_cell {w W' : World} (hk : Below w.heap.size w W') {p : Addr} {u : Value} (h : w.cell? p = some u) : W'.cell? p = some u := (hk.cell (World.block_lt_of_cell? w _ h)).trans h
theorem R_empty_at {α : Type} (d : Kd α) {W : World} {base e g : Nat} {ok : Nat -> Prop} (hb : W.heap[g]? = some (.cells #[] e (0, 0))) (hbase : base <= g) (hok : ok g) : Kd.R d e W base ok (.slice (some ⟨g, 0, none⟩) 0 0) [] :=
 ⟨fun k hk => (by simp [Value.ownBlock] at hk; exact hk ▸ hok), [], ⟨fg, .inr ⟨g, 0, #[], rfl, hbase, hb, bj _, Nat.zero_le _, fg, fg⟩⟩, fc.none _ _⟩
theorem S_append_at {P : Program} {ops : Array Oper} {o : Oper} {a : Act} {Q : Exit -> Act -> World -> Prop} {Kc : Act -> World -> Prop} {α : Type} (d : Kd α) {w0 W : World} (base : Nat) (hw : Region.wanted o (yielded ops a.tmps) = true) (s x : Operand) (t e : TypeId) (z : Value) (bytes : Nat)
  (ho : o.op = .call { callee := .builtin .append, args := #[s, x], argTypes := #[t, t] })
  (ht : P.underlying t = some (.slice e)) (hinfo : (P.info? e).map (fun i => (i.zero, i.size, i.bytes)) = some (some z, d.sz, bytes)) (hz : z.cells.size = d.sz) (D : 0 < d.sz) (I : 0 < bytes)
  (v : Value) (xs : List α) (p : α) (cs : List Value) (gx c : Nat) (ok okp : Nat -> Prop) (hs : a.eval s = v) (hx : a.eval x = .slice (some ⟨gx, 0, none⟩) 1 c) (hblk : W.heap[gx]? = some (.cells cs.toArray e (0, 0))) (hp : d.M W base okp p cs) (hokp : ∀ k, okp k -> ok k /\ some k ≠ v.ownBlock) (hfresh : ∀ k, W.heap.size <= k -> ok k)
  (HO : Kd.S d e W base (fun k => ok k /\ ¬ okp k) v xs) (HB : Below base w0 W) (hbase : base <= W.heap.size) (hl : (xs.length + 1) * bytes <= 140737488355328)
  (h : ∀ y w1, Kd.S d e w1 base ok y (xs ++ [p]) -> Below base w0 w1 -> W.grownBy w1 v.ownBlock -> (y.ownBlock = v.ownBlock ∨ ∃ b, y.ownBlock = some b /\ W.heap.size <= b) -> Kc (a.put o.dst y) w1) :
  if Region.wanted o (yielded ops a.tmps) = true then Oper.wp P o a W Kc Q else Kc (a.put o.dst undef) W := by
 obtain ⟨f, hf, hR⟩ := Kd.S_tag HO xs.length okp (fun _ hk h2 => h2.2 hk)
 refine Kd.R_append_rows_step (Kd.tag f d) (Rr := fun q c => q = (p, xs.length) /\ c = cs) base hw s x t e z bytes ho ht hinfo hz D I v xs.zipIdx [(p, xs.length)] (some ⟨gx, 0, none⟩) 1 c ok okp hs hx (Kd.R_mono hR (fun _ hk => hk.1)) ⟨rfl, Z68, fun _ => ⟨_, rfl, fun j q hj => ?_⟩⟩ ?_ hokp hfresh HB hbase (by rw [List.length_zipIdx]; exact hl) ?_
 ·obtain rfl : j = 0 := by
   rcases j with _ | j
   ·rfl
   simp at hj
  simp at hj
  refine ⟨cs, d.K_len (d.K_of_M hp), ⟨hj.symm, rfl⟩, fun i u hi => ?_⟩
  have := al hblk i
  have J : ((⟨gx, 0, none⟩ : Addr).add (0 * (Kd.tag f d).sz + i)) = ⟨gx, i, none⟩ := by
   rw [Nat.zero_mul, Nat.zero_add]; unfold Addr.add; split
   ·next O => simp_all
   simp
  rw [J, this]; simpa using hi
 ·rintro q c ⟨rfl, rfl⟩
  exact d.M_mono (fun k hk => ⟨hk, hf k hk⟩) hp
 intro y w1 hr
 rw [← Kd.zip_snoc] at hr
 exact h y w1 ⟨f, hr⟩
theorem S_append_at2 {P : Program} {ops : Array Oper} {o : Oper} {a : Act} {Q : Exit -> Act -> World -> Prop} {Kc : Act -> World -> Prop} {α : Type} (d : Kd α) {w0 W : World} (base : Nat) (hw : Region.wanted o (yielded ops a.tmps) = true) (s x : Operand) (t e : TypeId) (z : Value) (bytes : Nat)
  (ho : o.op = .call { callee := .builtin .append, args := #[s, x], argTypes := #[t, t] })
  (ht : P.underlying t = some (.slice e)) (hinfo : (P.info? e).map (fun i => (i.zero, i.size, i.bytes)) = some (some z, d.sz, bytes)) (hz : z.cells.size = d.sz) (I : 0 < d.sz) (J : 0 < bytes)
  (v : Value) (xs : List α) (p : α) (csf : Nat -> Nat -> List Value) (gx c y g2 : Nat) (O U : Operand) (ok okp : Nat -> Prop) (X : a.eval O = .slice (some ⟨y, 0, none⟩) 0 0) (Y : a.eval U = .slice (some ⟨g2, 0, none⟩) 0 0) (hs : a.eval s = v) (hx : a.eval x = .slice (some ⟨gx, 0, none⟩) 1 c) (hblk : W.heap[gx]? = some (.cells (csf y g2).toArray e (0, 0))) (hp : d.M W base okp p (csf y g2)) (hokp : ∀ k, okp k -> ok k /\ some k ≠ v.ownBlock) (hfresh : ∀ k, W.heap.size <= k -> ok k)
  (HO : Kd.S d e W base (fun k => ok k /\ ¬ okp k) v xs) (HB : Below base w0 W) (hbase : base <= W.heap.size) (hl : (xs.length + 1) * bytes <= 140737488355328)
  (h : ∀ D w1, Kd.S d e w1 base ok D (xs ++ [p]) -> Below base w0 w1 -> W.grownBy w1 v.ownBlock -> (D.ownBlock = v.ownBlock ∨ ∃ b, D.ownBlock = some b /\ W.heap.size <= b) -> Kc (a.put o.dst D) w1) :
  if Region.wanted o (yielded ops a.tmps) = true then Oper.wp P o a W Kc Q else Kc (a.put o.dst undef) W :=
 S_append_at d base hw s x t e z bytes ho ht hinfo hz I J v xs p (csf y g2) gx c ok okp hs hx hblk hp hokp hfresh HO HB hbase hl h
theorem blk_made {W : World} {o : Obj} {g : Nat} (h : g = W.heap.size) : (W.alloc o).heap[g]? = some o := by rw [h]; simpa using heap_alloc_new W o
theorem findS_ev (u : ByteArray) (l : List S82) (hl : l.length <= 1099511627776) : Ev (fun k => dq.f k l u) (idxN u l 0) := by
 have loop : ∀ (m i : Nat), i + m = l.length -> Ev (fun k => dq.l0 k l u i) (idxN u (l.drop i) i) := by
  intro m
  induction m with
  | zero => intro i hi; rw [List.drop_of_length_le (Z31)]; exact Ev.step (fun _ => dq.l0.eq_2 ..) (bv (Z31) (bq rfl))
  | succ m ih =>
   intro i hi
   have hlt : i < l.length := by omega
   refine Ev.step (fun _ => dq.l0.eq_2 ..) (bp (Z31) (bp (Z31) ?_))
   rw [idxN_drop u l i hlt, w64n (Z31)]
   by_cases h : (ax l (i : Int)).f0.toList = u.toList
   ·rw [if_pos h]; exact bp h (bq rfl)
   rw [if_neg h]; exact bv h (ih (i + 1) (Z31))
 unfold dq.f
 have := loop l.length 0 (Z31)
 rwa [List.drop_zero] at this
theorem mailS_ev (n : ByteArray) (v x : Int) (l : List S113) (ks : List ByteArray) (hl : l.length <= 1099511627776) (u : Int) : Ev (fun k => fo.f k n v x l ks u) (idxU u l 0) := by
 have loop : ∀ (m i : Nat), i + m = l.length -> Ev (fun k => fo.l0 k u i n v x l ks) (idxU u (l.drop i) i) := by
  intro m
  induction m with
  | zero => intro i hi; rw [List.drop_of_length_le (Z31)]; exact Ev.step (fun _ => fo.l0.eq_2 ..) (bv (Z31) (bq rfl))
  | succ m ih =>
   intro i hi
   have hlt : i < l.length := by omega
   refine Ev.step (fun _ => fo.l0.eq_2 ..) (bp (Z31) (bp (Z31) ?_))
   rw [idxU_drop u l i hlt, w64n (Z31)]
   by_cases h : (ar l (i : Int)).f0 = u
   ·rw [if_pos h]; exact bp h (bq rfl)
   rw [if_neg h]; exact bv h (ih (i + 1) (Z31))
 unfold fo.f
 have := loop l.length 0 (Z31)
 rwa [List.drop_zero] at this
theorem ownS_ev (l : List S82) (hl : l.length <= 1048576) (hm : ∀ b ∈ l, b.f3.length <= 1048576 /\ b.f4.length <= 1048576) : Ev (fun k => du.f k l) l := by
 have loop : ∀ (m i : Nat), i + m = l.length -> Ev (fun k => du.l0 k l (l.take i) i) l := by
  intro m
  induction m with
  | zero => intro i hi; rw [List.take_of_length_le (Z31)]; exact Ev.step (fun _ => du.l0.eq_2 ..) (bv (Z31) (bq rfl))
  | succ m ih =>
   intro i hi
   have hlt : i < l.length := by omega
   have hz := hm l[i] (List.getElem_mem hlt)
   refine Ev.step (fun _ => du.l0.eq_2 ..) (bp (Z31) (bp (Z31) ?_))
   rw [rdBox l i hlt, w64n (Z31)]
   have e : spec_l09Box.f l[i].f0 l[i].f1 l[i].f2 l[i].f3 l[i].f4 = some (l[i].f0, l[i].f1, l[i].f2, l[i].f3, l[i].f4) := by
    unfold spec_l09Box.f
    simp
    omega
   rw [e]
   refine bp (by rw [List.length_take]; omega) ?_
   have := ih (i + 1) (Z31)
   rwa [List.take_succ_eq_append_getElem hlt] at this
 unfold du.f
 exact loop l.length 0 (Z31)
theorem item_cells {w : World} {ad : Addr} {l : List S84} (h : Kd.C k84 w (some ad) l.length l) (k : Nat) (hk : k < l.length) : w.cell? (ad.add (k * 2)) = some (.string (ay l (k : Int)).f0) /\ w.cell? ⟨(ad.add (k * 2)).block, (ad.add (k * 2)).off + 1, none⟩ = some (.string (ay l (k : Int)).f1) := by
 obtain ⟨ad', e, s, h1⟩ := at_T84 h (k : Int) (Z31) (Z31)
 cases e
 exact ⟨s, h1⟩
theorem s_flags (was mode flags : Int) (w : World) : Calls prog 79 #[.int .i64 was, .int .i64 mode, .int .i64 flags] w fun e w' => e = .returned (.int .i64 (newFlags mode was flags)) /\ w' = w := by
 by_cases s : mode = 1
 ·have y : newFlags mode was flags = flags := if_pos s
  have I : (mode == 1) = true := bf s
  rw [y]
  clear y s
  go_enter func79, ntmps79
  go_wp2
  go_ret
  exact ⟨rfl, rfl⟩
 have I : (mode == 1) = false := bb s
 by_cases D : mode = 2
 ·have y : newFlags mode was flags = Go.bits .or .i64 was flags := by unfold newFlags; rw [if_neg s, if_pos D]
  have J : (mode == 2) = true := bf D
  rw [y]
  clear y s D
  go_enter func79, ntmps79
  go_wp2
  go_ret
  exact ⟨rfl, rfl⟩
 have y : newFlags mode was flags = Go.bits .andNot .i64 was flags := by unfold newFlags; rw [if_neg s, if_neg D]
 have J : (mode == 2) = false := bb D
 rw [y]
 clear y s D
 go_enter func79, ntmps79
 go_wp2
 go_ret
 exact ⟨rfl, rfl⟩
theorem s_apply (A0 : Option Addr) (c0 : Nat) (xs : List S82) (kind uid mode flags : Int) (nm : ByteArray) (A : Option Addr) (c : Nat) (l : List S84) (w : World) (hx : Kd.C k82 w A0 xs.length xs) (a6 : xs.length <= c0) (hit : Kd.C k84 w A l.length l)
  (hX : xs.length <= 1048576) (hM : ∀ b ∈ xs, b.f3.length <= 1048576 /\ b.f4.length <= 1048576) (hl : l.length <= 1048576) :
  Calls prog 38 #[.slice A0 xs.length c0, .agg #[.int .i64 kind, .int .i64 uid, .int .i64 mode, .int .i64 flags, .string nm, .slice A l.length c]] w (ApRet w (gi xs kind uid mode flags nm l)) := by
 have HX := aM (Kd.C_alloc hx (.cells #[.int .i64 kind, .int .i64 uid, .int .i64 mode, .int .i64 flags, .string nm, .slice A l.length c] 41))
 have HIT := aM (Kd.C_alloc hit (.cells #[.int .i64 kind, .int .i64 uid, .int .i64 mode, .int .i64 flags, .string nm, .slice A l.length c] 41))
 have BX := aM (show (w.alloc (.cells #[.int .i64 kind, .int .i64 uid, .int .i64 mode, .int .i64 flags, .string nm, .slice A l.length c] 41)).heap[w.heap.size]? = some (.cells #[.int .i64 kind, .int .i64 uid, .int .i64 mode, .int .i64 flags, .string nm, .slice A l.length c] 41 (0, 0)) from by simpa using heap_alloc_new w _)
 have HB := aM (show Below w.heap.size w (w.alloc (.cells #[.int .i64 kind, .int .i64 uid, .int .i64 mode, .int .i64 flags, .string nm, .slice A l.length c] 41)) from Below.alloc (bi _ _) (bj _) _)
 have HZ := aM (show w.heap.size < (w.alloc (.cells #[.int .i64 kind, .int .i64 uid, .int .i64 mode, .int .i64 flags, .string nm, .slice A l.length c] 41)).heap.size from by simp)
 obtain ⟨y, bH⟩ := (findS_ev nm xs (Z31)).rounds
 have HF := aM bH
 obtain ⟨D, bI⟩ := (ownS_ev xs hX hM).rounds
 have HO := aM bI
 have HM := aM hM
 clear hx hit hM bH bI
 go_enter func38, ntmps38
 go_upto_region 1 with (fail)
 generalize bR : w.alloc (.cells #[.int .i64 kind, .int .i64 uid, .int .i64 mode, .int .i64 flags, .string nm, .slice A l.length c] 41) = W1 at HX HIT BX HB HZ ⊢
 clear bR
 generalize I : w.heap.size = x0 at BX ⊢
 have cJ := aM I
 clear I
 obtain ⟨-, -, -, -, y4⟩ := cl5 BX.out
 go_wp2_with fail
 refine (dq.calls y A0 c0 xs nm (idxN nm xs 0) _ (by with_reducible repeat (first | exact HX.out | apply Kd.C_drewN | apply Kd.C_drew)) a6 HF.out).mono ?_
 rintro e w2 ⟨rfl, hd⟩
 have aE : Below W1.heap.size W1 w2 := by obtain ⟨nd, rfl⟩ := hd; exact below_drewN (bi _ _) _
 have X := aM (Kd.C_below HX.out aE)
 have a7 := aM (Kd.C_below HIT.out aE)
 have O := aM (ai BX.out aE)
 have HB2 := aM (Below.trans HB.out (aE.mono (Nat.le_of_lt HZ.out)))
 have J := aM (show w.heap.size < w2.heap.size from Nat.lt_of_lt_of_le HZ.out aE.size)
 clear HX HIT BX HB HZ y4 aE hd
 obtain ⟨y0, y1, y2, y3, y4, y5⟩ := cl6 O.out
 by_cases y : kind = 1
 ·have t1 : (kind == 1) = true := bf y
  by_cases hn : 0 <= idxN nm xs 0
  ·have tn : decide (0 <= idxN nm xs 0) = true := az hn
   have E := aM (by unfold gi; rw [if_pos y, if_pos hn] : gi xs kind uid mode flags nm l = (xs, 9))
   clear y hn
   go_wp2
   go_ret2
   exact ⟨_, (Z199), by rw [E.out]; simp, HB2.out⟩
  have tn : decide (0 <= idxN nm xs 0) = false := ba hn
  by_cases h4 : xs.length = 4
  ·have t4 : ((xs.length : Int) == 4) = true := bf (Z31)
   have E := aM (by unfold gi; rw [if_pos y, if_neg hn, if_pos h4] : gi xs kind uid mode flags nm l = (xs, 7))
   clear y hn h4
   go_wp2
   go_ret2
   exact ⟨_, (Z199), by rw [E.out]; simp, HB2.out⟩
  have t4 : ((xs.length : Int) == 4) = false := bb (Z31)
  have E := aM (by unfold gi; rw [if_pos y, if_neg hn, if_neg h4] : gi xs kind uid mode flags nm l = (xs ++ [⟨nm, (xs.length : Int) + 1, 1, [], []⟩], 0))
  clear y hn h4
  have X' := X.out
  have bT : (xs.length + 1) * 80 <= 140737488355328 := by omega
  have hwr : IntKind.i64.wrap ((xs.length : Int) + 1) = (xs.length : Int) + 1 := IntWalk.i64_in _ (Z31)
  go_wp2_with fail
  go_region_held3 (fun W => W.cell? ⟨x0, 4, none⟩ = some (.string nm))
   (first | assumption | exact old_cell (ab (bi _ _) _) (Z196) | exact old_cell R2.out y4 | exact old_cell (Z196) (Z196) | go_keep)
   (first
    | (go_at_call 42; refine (du.calls D A0 c0 xs xs _ (by (with_reducible repeat (first | apply Kd.C_alloc | apply Kd.C_drewN | apply Kd.C_drew)); exact X') a6 HO.out).mono ?_; rintro e w3 ⟨v0, rfl, hS, hb⟩; obtain ⟨N3, HN3, aG⟩ : ∃ N3, ap (N3 = _) /\ ap (Kd.S k82 82 w3 N3 (fun k => N3 <= k /\ k < w3.heap.size) v0 xs) := ⟨_, ⟨rfl⟩, ⟨Kd.S_mono (Kd.S_bound hS) (fun k hk => ⟨hk.2.1, hk.2.2.1⟩)⟩⟩)
    | (refine S_append_at2 k82 (w0 := w2) w2.heap.size (Z96) (.tmp 30) (.tmp 39) 33 82 (.agg #[.string ⟨#[]⟩, .int .i64 0, .int .i64 0, .slice none 0 0, .slice none 0 0]) 80 rfl underlying33 info82 rfl (Z68) (Z68) v0 xs (⟨nm, (xs.length : Int) + 1, 1, [], []⟩ : S82) (fun g1 g2 => [.string nm, .int .i64 ((xs.length : Int) + 1), .int .i64 1, .slice (some ⟨g1, 0, none⟩) 0 0, .slice (some ⟨g2, 0, none⟩) 0 0]) _ _ _ _ (.tmp 36) (.tmp 37) (fun _ => True) (fun k => ¬ (N3 <= k /\ k < w3.heap.size)) rfl rfl rfl rfl ?_ ?_ ?_ (fun _ _ => trivial) ?_ ?_ ?_ bT ?_; (focus (exact (Z132))); (focus (exact k82_mkM _ _ _ (⟨nm, (xs.length : Int) + 1, 1, [], []⟩ : S82) (R_empty_at _ (Z132) (Z39) (Z39)) (R_empty_at _ (Z132) (Z39) (Z39)))); (focus (exact fun k hk => ⟨trivial, fun e => hk ((Kd.S_R aG.out).1 k e.symm)⟩)); (focus ((with_reducible repeat (first | apply Kd.S_alloc | apply Kd.S_drewN | apply Kd.S_drew)); exact Kd.S_lower (Kd.S_mono aG.out (fun k hk => ⟨trivial, not_not_intro hk⟩)) (Z39))); (focus (exact (by repeat (first | (with_reducible exact bi _ _) | (with_reducible refine ab ?_ _) | (with_reducible refine ac ?_) | (refine Below.trans ?_ (hb.mono (Z39))))))); (focus (exact (Z39))); intro v1 w4 ho hbb hg hat; obtain ⟨A1, c1, hv⟩ := Kd.S_slice ho; rw [List.length_append, List.length_singleton] at hv; subst hv; have R1 := aM ho; have R2 := aM hbb; clear ho hbb hg hat))
  all_goals
   (go_wp2
    go_ret2
    exact ⟨_, (Z199), fun _ => by rw [E.out]; exact Kd.S_lower R1.out (Nat.le_of_lt J.out), Below.trans HB2.out (R2.out.mono (Nat.le_of_lt J.out))⟩)
 have t1 : (kind == 1) = false := bb y
 rcases idxN_lt nm xs 0 with hn | ⟨k, hk, -, hkl⟩
 ·have hn : idxN nm xs 0 < 0 := by simpa using hn
  have tn : decide (idxN nm xs 0 < 0) = true := az hn
  have E := aM (by unfold gi; rw [if_neg y, if_pos hn] : gi xs kind uid mode flags nm l = (xs, 5))
  clear y hn
  go_wp2
  go_ret2
  exact ⟨_, (Z199), by rw [E.out]; simp, HB2.out⟩
 have hk : idxN nm xs 0 = (k : Int) := by simpa using hk
 have hkl : k < xs.length := by omega
 have hnn : ¬ idxN nm xs 0 < 0 := by omega
 obtain ⟨b, hb⟩ : ∃ b, ax xs (k : Int) = b := ⟨_, rfl⟩
 have hbm : b ∈ xs := by rw [← hb, rdBox xs k hkl]; exact List.getElem_mem hkl
 have hbz := aM (HM.out b hbm)
 have E0 := aM (by unfold gi; rw [if_neg y, if_neg hnn, hk, hb, Int.toNat_natCast] : gi xs kind uid mode flags nm l = if kind = 2 then (xs.set k (addL b l).1, (addL b l).2)
  else if kind = 3 then (xs.set k (flagsL b uid mode flags).1, (flagsL b uid mode flags).2) else (xs.set k ⟨b.f0, b.f1, b.f2, b.f3.filter (fun x => !delB x), b.f4⟩, 0))
 rw [hk]
 have tn : decide ((k : Int) < 0) = false := ba (Z31)
 have h0 : (0 : Int) <= (k : Int) := by omega
 have h1 : (k : Int) < (xs.length : Int) := by omega
 have X' := X.out
 go_wp2_with fail
 refine (du.calls D A0 c0 xs xs _ (by (with_reducible repeat (first | apply Kd.C_alloc | apply Kd.C_drewN | apply Kd.C_drew)); exact X') a6 HO.out).mono ?_
 rintro e w3 ⟨v0, rfl, hS, Y⟩
 have hN : w2.heap.size <= w3.heap.size := Y.size
 have aG := aM (show Kd.S k82 82 w3 w2.heap.size (fun k => w2.heap.size <= k) v0 xs from Kd.S_mono (Kd.S_bound hS) (fun k hk => hk.2.1))
 obtain ⟨g, cap, rfl, -, hgl, -⟩ := Kd.S_form aG.out (Z31)
 obtain ⟨vM, vK, hL⟩ := gl.of_S aG.out (i := k) hkl (fun q hq => Nat.le_trans hN hq)
 rw [hb] at hL
 have HL := aM hL
 have hokg : w2.heap.size <= g := (Kd.S_R aG.out).1 g (Z203)
 have aN := aM (Below.trans HB2.out (Y.mono (Nat.le_of_lt J.out)))
 have cL := aM (Kd.C_below a7.out Y)
 have aO := aM (ai O.out Y)
 have HN := aM hN
 obtain ⟨ok, hok⟩ : ∃ ok : Nat -> Prop, ok = fun q => w2.heap.size <= q := ⟨_, rfl⟩
 have hokn : ∀ q, w2.heap.size <= q -> ok q := fun q h => by rw [hok]; exact h
 have hnok : ∀ q, ok q -> w2.heap.size <= q := fun q h => by rw [hok] at h; exact h
 have HWW := aM (fun (wr : World) (hq : dm w3 wr ok) => (Below.trans Y (hq.is_below hN hnok) : Below w2.heap.size w2 wr))
 have HWB := aM (fun (wr : World) (hq : dm w3 wr ok) => Below.trans HB2.out ((HWW.out wr hq).mono (Nat.le_of_lt J.out)))
 have HWC := aM (fun (wr : World) (hq : dm w3 wr ok) => Kd.C_below a7.out (HWW.out wr hq))
 have HWX := aM (fun (wr : World) (hq : dm w3 wr ok) => ai O.out (HWW.out wr hq))
 have HLW : gl w2.heap.size ok w3 g xs.length cap xs k b vM vK := by rw [hok]; exact hL
 have HLK := aM HLW
 have hokg' : ok g := hokn g hokg
 have HNK := aM hokn
 clear hok HLW hokn hnok
 clear hS hL hb hk hbm hnn X HB2 a7 O X' hN y t1
 clear y0 y1 y2 y3 y4 y5
 obtain ⟨y0, y1, y2, y3, -, y5⟩ := cl6 aO.out
 by_cases D : kind = 2
 ·have t2 : (kind == 2) = true := bf D
  have E := aM (by rw [E0.out, if_pos D] : gi xs kind uid mode flags nm l = (xs.set k (addL b l).1, (addL b l).2))
  clear E0 D Y
  have hgf := HLK.out.lt
  go_wp2
  go_loopg [9, 94, 107, 115] l.length (fun gg s9 cM cN cO wr => ∃ (kk : Nat) (b' : S82) (vM' vK' : Value), kk <= l.length /\ l.length - kk <= gg /\ s9 = .int .i64 kk /\ ap (gl w2.heap.size ok wr g xs.length cap xs k b' vM' vK') /\ ap (addL b l = addL b' (l.drop kk)) /\ ap (dm w3 wr ok) /\ ap (b'.f3.length <= 1048576 + kk /\ b'.f4.length <= 1048576 + kk))
  case atStart => exact ⟨0, b, vM, vK, Nat.zero_le _, Z31, rfl, HLK, ⟨rfl⟩, ⟨dm.refl _ _⟩, ⟨by have := hbz.out; omega, by have := hbz.out; omega⟩⟩
  case round =>
   obtain ⟨kk, b', vM', vK', hkk, hgg, rfl, HB, HA, HK, HZ⟩ := hrel
   have y5 : wr.cell? ⟨x0, 5, none⟩ = some (.slice A l.length c) := (al (HWX.out wr HK.out) 5).trans rfl
   by_cases hlt : kk < l.length
   ·have hltz : (kk : Int) < (l.length : Int) := by omega
    have h0k : 0 <= (kk : Int) := by omega
    obtain ⟨ad, e, I, hx1⟩ := at_T84 (HWC.out wr HK.out) kk h0k hltz
    cases e
    simp only [Int.toNat_natCast] at I hx1
    have HIC := aM (fun (wc : World) (hq : dm w3 wc ok) => item_cells (HWC.out wc hq) kk hlt)
    have hstep := aM (addL_drop b' l kk hlt)
    have hgl' := HB.out.lt
    obtain ⟨Z, c4, rfl, aX, aP⟩ := HB.out.keys
    obtain ⟨U, c3, rfl, aY, aA⟩ := HB.out.mails
    obtain ⟨k9, bL⟩ := (hasS_ev b'.f4 (ay l (kk : Int)).f0 (by have := HZ.out; omega)).rounds
    have HQ := aM bL
    have bB := aM aP
    clear aP aA bL
    generalize (ay l (kk : Int)).f0 = q0 at *
    generalize (ay l (kk : Int)).f1 = q1 at *
    obtain ⟨z0, z1, z2, z3, z4⟩ := HB.out.cells
    go_upto_region 24 with (fail)
    cases hh : hasB b'.f4 q0 with
    | true =>
     rw [hh] at HQ
     go_quiet (first | (go_at_call 77; refine (ev.calls k9 Z c4 b'.f4 q0 true _ (Kd.C_drewN bB.out _) aX HQ.out).mono ?_; rintro e w' ⟨rfl, ⟨nd, rfl⟩⟩; exact ⟨rfl, _, World.drewN_drewN _ _ _⟩))
     go_wp2
     go_ret2
     have s : gi xs kind uid mode flags nm l = (xs.set k b', 9) := by rw [E.out, HA.out, hstep.out, hh]; rfl
     exact ⟨_, (by rw [s]; rfl), by rw [s]; simp, HWB.out _ (HK.out.drewN _)⟩
    | false =>
     rw [hh] at HQ
     have aQ := aM (HA.out.trans hstep.out)
     rw [hh] at aQ
     clear hstep
     go_quiet (first | (go_at_call 77; refine (ev.calls k9 Z c4 b'.f4 q0 false _ (Kd.C_drewN bB.out _) aX HQ.out).mono ?_; rintro e w' ⟨rfl, ⟨nd, rfl⟩⟩; exact ⟨rfl, _, World.drewN_drewN _ _ _⟩))
     by_cases aZ : b'.f4.length = 60
     ·have bX : ((b'.f4.length : Int) == 60) = true := bf (Z31)
      have HX := aM aZ
      clear aZ
      go_wp2
      go_ret2
      have s : gi xs kind uid mode flags nm l = (xs.set k b', 17) := by rw [E.out, aQ.out, if_neg (fg), if_pos HX.out]
      exact ⟨_, (by rw [s]; rfl), by rw [s]; simp, HWB.out _ (HK.out.drewN _)⟩
     have bX : ((b'.f4.length : Int) == 60) = false := bb (Z31)
     have HX := aM aZ
     clear aZ
     by_cases a2 : b'.f3.length = 30
     ·have bY : ((b'.f3.length : Int) == 30) = true := bf (Z31)
      have HY := aM a2
      clear a2
      go_wp2
      go_ret2
      have s : gi xs kind uid mode flags nm l = (xs.set k b', 7) := by rw [E.out, aQ.out, if_neg (fg), if_neg HX.out, if_pos HY.out]
      exact ⟨_, (by rw [s]; rfl), by rw [s]; simp, HWB.out _ (HK.out.drewN _)⟩
     have bY : ((b'.f3.length : Int) == 30) = false := bb (Z31)
     have s := aM (by rw [aQ.out, if_neg (fg), if_neg HX.out, if_neg a2] : addL b l = addL ⟨b'.f0, b'.f1, wrap64 (b'.f2 + 1), b'.f3 ++ [⟨b'.f2, 0, q1⟩], b'.f4 ++ [q0]⟩ (l.drop (kk + 1)))
     clear a2 HX aQ HA HQ
     go_upto_region 30 with (fail)
     go_cut [142] (fun cP wc => ∃ (bM : Value), ap (gl w2.heap.size ok wc g xs.length cap xs k ⟨b'.f0, b'.f1, b'.f2, b'.f3 ++ [⟨b'.f2, 0, q1⟩], b'.f4⟩ bM (.slice Z b'.f4.length c4)) /\ ap (dm w3 wc ok))
     case first =>
      obtain ⟨hin, oki, p1, p2, pH, p3, p4⟩ := HB.out
      have HP := aM (And.intro p1 (And.intro p2 (And.intro pH (And.intro p3 p4))))
      have J' := HZ.out
      clear p1 p2 pH p3 p4
      have bC := HB.out.lt
      have bD := HB.out.frozen (k * 5 + 3)
      have hNN := HN.out
      go_region_law (refine Kd.R_append_step k113 w2.heap.size (Z96) (.tmp 127) (.tmp 139) 80 113 (.agg #[.int .i64 0, .int .i64 0, .string ⟨#[]⟩]) 32 rfl underlying80 info113 rfl (Z68) (Z31) (.slice U b'.f3.length c3) b'.f3 (⟨b'.f2, 0, q1⟩ : S113) [.int .i64 b'.f2, .int .i64 0, .string q1] oki (fun _ => False) rfl rfl (k113_mkM _ _ _ _) (fun _ hk => hk.elim) (fun k hk => HP.out.1 k (by simpa using hk)) (by (with_reducible repeat (first | apply Kd.R_alloc | apply Kd.R_drewN | apply Kd.R_drew)); exact HP.out.2.2.2.1) (bi _ _) (by have := HK.out.1; simp; omega) (Z31) ?_; intro v1 w1 ho hb hg hat; obtain ⟨A1, c1, hv⟩ := Kd.R_slice ho; rw [List.length_append, List.length_singleton] at hv; subst hv; have hne : some g ≠ (Value.slice U b'.f3.length c3).ownBlock := (by intro e; exact HP.out.2.1 (HP.out.2.2.2.1.1 g e.symm)); have q3 := grown_cell hg (g := g) (by simpa using bC) hne (k * 5 + 3); have q4 := q3.1.trans z3; have q5 := q3.2.trans bD; have R1 := aM (lent_mails (b := b') hin (fun k hk => HP.out.1 k (by simpa using hk)) HP.out.2.1 (Kd.H_below HP.out.2.2.1 (Z69)) (Kd.R_below HP.out.2.2.2.1 (Z69)) (Kd.R_below HP.out.2.2.2.2 (Z69)) hg ho); have R2 := aM (dm.setCell (p := ⟨g, k * 5 + 3, none⟩) (dm.of_grown hg (by (with_reducible repeat (first | apply dm.drewN | apply dm.drew)); exact HK.out) (fun k e => .inl (HP.out.2.2.1.1 k (HP.out.2.2.2.1.1 k e)))) (.inl hokg') (.slice A1 (b'.f3.length + 1) c1)); clear hb hat ho q3)
      all_goals (go_wp2; go_meet; exact ⟨_, R1, R2⟩)
     case rest =>
      obtain ⟨bM, HB2, HK2⟩ := hcut
      clear z0 z1 z2 z3 z4 y5 I hx1
      have y5 : wc.cell? ⟨x0, 5, none⟩ = some (.slice (some ad) l.length c) := (al (HWX.out wc HK2.out) 5).trans rfl
      obtain ⟨I, -⟩ := HIC.out wc HK2.out
      clear HB HK bB
      obtain ⟨z0, z1, z2, z3, z4⟩ := HB2.out.cells
      obtain ⟨U', c3', rfl, aY', -⟩ := HB2.out.mails
      go_upto_region 31 with (fail)
      go_cut [157] (fun cQ we => ∃ (bN : Value), ap (gl w2.heap.size ok we g xs.length cap xs k ⟨b'.f0, b'.f1, b'.f2, b'.f3 ++ [⟨b'.f2, 0, q1⟩], b'.f4 ++ [q0]⟩ (.slice U' (b'.f3 ++ [(⟨b'.f2, 0, q1⟩ : S113)]).length c3') bN) /\ ap (dm w3 we ok))
      case first =>
       obtain ⟨hin, oki, p1, p2, pH, p3, p4⟩ := HB2.out
       have HP := aM (And.intro p1 (And.intro p2 (And.intro pH (And.intro p3 p4))))
       have J' := HZ.out
       clear p1 p2 pH p3 p4
       have bC := HB2.out.lt
       have bD := HB2.out.frozen (k * 5 + 4)
       have hNN := HN.out
       go_region_law (refine Kd.R_append_step Kd.string (w0 := wc.drew) (W := wc.drew) w2.heap.size (Z96) (.tmp 147) (.tmp 154) 66 9 (.string ⟨#[]⟩) 16 rfl underlying66 info9 rfl (Z68) (Z31) (.slice Z b'.f4.length c4) b'.f4 q0 [.string q0] oki (fun _ => False) rfl rfl rfl (fun _ hk => hk.elim) (fun k hk => HP.out.1 k (by simpa using hk)) (by (with_reducible repeat (first | apply Kd.R_alloc | apply Kd.R_drewN | apply Kd.R_drew)); exact HP.out.2.2.2.2) (bi _ _) (by have := HK2.out.1; simp; omega) (Z31) ?_; intro v1 w1 ho hb hg hat; obtain ⟨A1, c1, hv⟩ := Kd.R_slice ho; rw [List.length_append, List.length_singleton] at hv; subst hv; have hne : some g ≠ (Value.slice Z b'.f4.length c4).ownBlock := (by intro e; exact HP.out.2.1 (HP.out.2.2.2.2.1 g e.symm)); have q3 := grown_cell hg (g := g) (by simpa using bC) hne (k * 5 + 4); have q4 := q3.1.trans z4; have q5 := q3.2.trans bD; have R1 := aM (lent_keys (b := ⟨b'.f0, b'.f1, b'.f2, b'.f3 ++ [⟨b'.f2, 0, q1⟩], b'.f4⟩) hin (fun k hk => HP.out.1 k (by simpa using hk)) HP.out.2.1 (Kd.H_below HP.out.2.2.1 (Z69)) (Kd.R_below HP.out.2.2.2.1 (Z69)) (Kd.R_below HP.out.2.2.2.2 (Z69)) hg ho); have R2 := aM (dm.setCell (p := ⟨g, k * 5 + 4, none⟩) (dm.of_grown hg (by (with_reducible repeat (first | apply dm.drewN | apply dm.drew)); exact HK2.out) (fun k e => .inl (HP.out.2.2.1.1 k (HP.out.2.2.2.2.1 k e)))) (.inl hokg') (.slice A1 (b'.f4.length + 1) c1)); clear hb hat ho q3)
       all_goals (go_wp2; go_meet; exact ⟨_, R1, R2⟩)
      case rest =>
       obtain ⟨bN, aN, bE⟩ := hcut
       clear z0 z1 z2 z3 z4 y5 I HB2 HK2
       obtain ⟨z0, z1, z2, z3, z4⟩ := aN.out.cells
       have cR := aN.out.frozen (k * 5 + 2)
       have a3 := aM (aN.out.setNext (wrap64 (b'.f2 + 1)))
       have b1 := aM (dm.setCell (p := ⟨g, k * 5 + 2, none⟩) bE.out (.inl hokg') (.int .i64 (wrap64 (b'.f2 + 1))))
       have J' := HZ.out
       go_wp2
       go_roundg (l.length - (kk + 1))
       case measure => omega
       case rel => exact ⟨kk + 1, _, _, _, Z31, Z31, by go_num, a3, ⟨s.out⟩, b1, ⟨by simp; omega, by simp; omega⟩⟩
   have hltz : ¬ (kk : Int) < (l.length : Int) := by omega
   obtain rfl : kk = l.length := by omega
   go_wp2
   go_ret2
   have e := HA.out
   rw [List.drop_of_length_le (bj _)] at e
   have s : gi xs kind uid mode flags nm l = (xs.set k b', 0) := by rw [E.out, e]; rfl
   exact ⟨_, (by rw [s]; rfl), fun _ => by rw [s]; exact Kd.S_lower (Kd.S_mono HB.out.back (fun _ _ => trivial)) (Nat.le_of_lt J.out), HWB.out _ HK.out⟩
 have t2 : (kind == 2) = false := bb D
 by_cases k3 : kind = 3
 ·have t3 : (kind == 3) = true := bf k3
  have E := aM (by rw [E0.out, if_neg D, if_pos k3] : gi xs kind uid mode flags nm l = (xs.set k (flagsL b uid mode flags).1, (flagsL b uid mode flags).2))
  clear E0 D k3
  obtain ⟨z0, z1, z2, z3, z4⟩ := HL.out.cells
  obtain ⟨U, c3, rfl, aY, aA⟩ := HL.out.mails
  obtain ⟨Z, c4, rfl, aX, aP⟩ := HL.out.keys
  obtain ⟨k5, bO⟩ := (mailS_ev b.f0 b.f1 b.f2 b.f3 b.f4 (by have := hbz.out; omega) uid).rounds
  have b7 := aM bO
  clear bO
  have bF := aM aA
  have b8 := aM aP
  clear aA aP Y
  go_wp2_with fail
  go_region_held3 (fun W => W.cell? ⟨g, k * 5, none⟩ = some (.string b.f0) /\ W.cell? ⟨g, k * 5 + 1, none⟩ = some (.int .i64 b.f1) /\ W.cell? ⟨g, k * 5 + 2, none⟩ = some (.int .i64 b.f2) /\ W.cell? ⟨g, k * 5 + 3, none⟩ = some (.slice U b.f3.length c3) /\ W.cell? ⟨g, k * 5 + 4, none⟩ = some (.slice Z b.f4.length c4) /\ W.cell? ⟨x0, 1, none⟩ = some (.int .i64 uid))
   (first | assumption | exact ⟨old_cell M z0, old_cell M z1, old_cell M z2, old_cell M z3, old_cell M z4, old_cell M y1⟩ | go_keep)
   (first | (go_at_call 78; refine (fo.calls k5 b.f0 b.f1 b.f2 U c3 b.f3 Z c4 b.f4 uid (idxU uid b.f3 0) _ (by (with_reducible repeat (first | apply Kd.C_alloc | apply Kd.C_drewN | apply Kd.C_drew)); exact bF.out) aY (by (with_reducible repeat (first | apply Kd.C_alloc | apply Kd.C_drewN | apply Kd.C_drew)); exact b8.out) aX b7.out).mono ?_; rintro e w4 ⟨rfl, M⟩))
  have a3 := aM (Below.trans (Below.drew aN.out) (M.mono (Nat.le_trans (Nat.le_of_lt J.out) HN.out)))
  have a5 := aM (gl.below (HL.out.below (Below.drew (bi _ _))) M)
  have y2 := old_cell M y2
  have y3 := old_cell M y3
  clear M z0 z1 z2 z3 z4
  rcases idxU_lt uid b.f3 0 with hn | ⟨j, hj, -, hjl⟩
  ·have hn : idxU uid b.f3 0 < 0 := by simpa using hn
   have tj : decide (idxU uid b.f3 0 < 0) = true := az hn
   have E2 := aM (by rw [E.out]; unfold flagsL; rw [if_pos hn] : gi xs kind uid mode flags nm l = (xs.set k b, 17))
   clear hn
   go_wp2
   go_ret2
   exact ⟨_, (by rw [E2.out]; rfl), by rw [E2.out]; simp, a3.out⟩
  have hj : idxU uid b.f3 0 = (j : Int) := by simpa using hj
  have hjl : j < b.f3.length := by omega
  rw [hj]
  have tj : decide ((j : Int) < 0) = false := ba (Z31)
  obtain ⟨gm, c3', e3, hgm, hgne, hokgm⟩ := a5.out.form (Z31)
  injection e3 with e3a e3b e3c
  subst e3a; subst e3c
  obtain ⟨z0, z1, z2, z3, z4⟩ := a5.out.cells
  obtain ⟨r0, r1, r2, hfr⟩ := a5.out.mail j hjl
  have f1 : w4.frozen? ⟨gm, j * 3 + 1, none⟩ = false := hfr 1
  have hj0 : (0 : Int) <= (j : Int) := by omega
  have hj1 : (j : Int) < (b.f3.length : Int) := by omega
  go_wp2_with fail
  have s : flagsL b uid mode flags = (⟨b.f0, b.f1, b.f2, b.f3.set j ⟨b.f3[j].f0, newFlags mode b.f3[j].f1 flags, b.f3[j].f2⟩, b.f4⟩, 0) := by
   unfold flagsL
   rw [hj, if_neg (Z31)]
   have : ar b.f3 (j : Int) = b.f3[j] := by unfold ar; simp [List.getD, List.getElem?_eq_getElem hjl]
   rw [this, Int.toNat_natCast]
  have E1 := aM (E.out.trans (by rw [s]))
  have HD := aM ((lent_flag a5.out j hjl (newFlags mode b.f3[j].f1 flags)).below (ac (bi _ _)))
  have HBD := aM (fun (hz : w.heap.size <= gm) => (Below.drew (aa (j := j * 3 + 1) (v := .int .i64 (newFlags mode b.f3[j].f1 flags)) a3.out hz)))
  have HGM := aM (show w2.heap.size <= gm from hokgm)
  have cA := J.out
  refine wp_region_still_tail 20 (Z16) (Z16) ?_
  simp only [List.take_succ_cons, List.take_zero, List.drop_succ_cons, List.drop_zero]
  repeat still_step
  still_call (s_flags _ _ _ _)
  repeat still_step
  refine wpStill_nil ?_
  go_wp2
  go_ret2
  exact ⟨_, (by rw [E1.out]; rfl), fun _ => by rw [E1.out]; exact Kd.S_lower (Kd.S_mono HD.out.back (fun _ _ => trivial)) (Nat.le_of_lt cA), HBD.out (by have := HGM.out; omega)⟩
 have t3 : (kind == 3) = false := bb k3
 have E := aM (by rw [E0.out, if_neg D, if_neg k3] : gi xs kind uid mode flags nm l = (xs.set k ⟨b.f0, b.f1, b.f2, b.f3.filter (fun x => !delB x), b.f4⟩, 0))
 clear E0 D k3
 obtain ⟨z0, z1, z2, z3, z4⟩ := HLK.out.cells
 obtain ⟨U, c3, rfl, aY, aA⟩ := HLK.out.mails
 have bF := aM aA
 have cV := hbz.out.1
 clear aA z0 z1 z2 z4 Y
 have y0' : True := trivial
 go_wp2_with fail
 go_loopg [11, 12] b.f3.length (fun gg cC cD wr => ∃ (kk : Nat), kk <= b.f3.length /\ b.f3.length - kk <= gg /\ cD = .int .i64 kk /\ ap (Kd.R k113 113 wr w3.heap.size (fun q => w3.heap.size <= q) cC ((b.f3.take kk).filter (fun x => !delB x))) /\ ap (Below w3.heap.size w3 wr))
 case atStart => exact ⟨0, Nat.zero_le _, Z31, rfl, ⟨R_empty_at _ (blk_made rfl) (bj _) (bj _)⟩, ⟨ab (bi _ _) _⟩⟩
 case round =>
  obtain ⟨kk, hkk, hgg, rfl, HR, HBW⟩ := hrel
  have z3w := old_cell HBW.out z3
  by_cases hlt : kk < b.f3.length
  ·have hltz : (kk : Int) < (b.f3.length : Int) := by omega
   have h0k : 0 <= (kk : Int) := by omega
   obtain ⟨ad, e, I, hx1, bG⟩ := ed (Kd.C_below bF.out HBW.out) kk h0k hltz
   cases e
   simp only [Int.toNat_natCast] at I hx1 bG
   have hst := aM (take_filter_step b.f3 kk hlt)
   have hel : ar b.f3 (kk : Int) = b.f3[kk] := by unfold ar; simp [List.getD, List.getElem?_eq_getElem hlt]
   rw [hel] at I hx1 bG
   have hfl := aM (show ((b.f3.take kk).filter (fun x => !delB x)).length <= 1048576 from by have := List.length_filter_le (fun x => !delB x) (b.f3.take kk); rw [List.length_take] at this; omega)
   obtain ⟨x, hxd⟩ : ∃ x, b.f3[kk] = x := ⟨_, rfl⟩
   rw [hxd] at I hx1 bG hst
   cases hd : delB x with
   | true =>
    have td : (Go.bits .and .i64 x.f1 8 == 0) = false := by unfold delB at hd; simpa [bne] using hd
    have aR := aM (by rw [hst.out, if_pos hd]; exact HR.out : Kd.R k113 113 wr w3.heap.size (fun q => w3.heap.size <= q) u11 ((b.f3.take (kk + 1)).filter (fun x => !delB x)))
    clear hst hd hxd hel
    go_wp2
    go_roundg (b.f3.length - (kk + 1))
    case measure => omega
    case rel => exact ⟨kk + 1, Z31, Z31, by go_num, aR, HBW⟩
   | false =>
    have td : (Go.bits .and .i64 x.f1 8 == 0) = true := by unfold delB at hd; simpa [bne] using hd
    have HE := aM (by rw [hst.out, if_neg (by rw [hd]; simp)] : (b.f3.take (kk + 1)).filter (fun x => !delB x) = (b.f3.take kk).filter (fun x => !delB x) ++ [x])
    clear hst hd hxd hel
    go_wp2_with (first | ((with_reducible refine gate_builtin (b := .append) (xs := #[.tmp 71, .tmp 79]) rfl ?_); at_builtin; refine Kd.R_append k113 (w0 := w3) w3.heap.size rfl (.tmp 71) (.tmp 79) 80 113 (.agg #[.int .i64 0, .int .i64 0, .string ⟨#[]⟩]) 32 rfl underlying80 info113 rfl (Z68) (Z31) u11 ((b.f3.take kk).filter (fun x => !delB x)) x [.int .i64 x.f0, .int .i64 x.f1, .string x.f2] (fun q => w3.heap.size <= q) (fun _ => False) rfl rfl (k113_mkM _ _ _ _) (fun _ hk => hk.elim) (fun q hq => Nat.le_trans HBW.out.size hq) HR.out HBW.out HBW.out.size (by have := hfl.out; omega) ?_; intro v1 w4 ho hb hg hat))
    go_roundg (b.f3.length - (kk + 1))
    case measure => omega
    case rel => exact ⟨kk + 1, Z31, Z31, by go_num, ⟨by rw [HE.out]; exact ho⟩, ⟨hb⟩⟩
  have hltz : ¬ (kk : Int) < (b.f3.length : Int) := by omega
  obtain rfl : kk = b.f3.length := by omega
  have e0 : b.f3.take b.f3.length = b.f3 := List.take_length
  have aR := aM HR.out
  rw [e0] at aR
  clear e0 HR
  obtain ⟨hin, oki, p1, p2, pH, p3, p4⟩ := HLK.out
  have HP := aM (And.intro p1 (And.intro p2 (And.intro pH (And.intro p3 p4))))
  clear p1 p2 pH p3 p4
  have cG := HLK.out.lt
  have cX : wr.frozen? ⟨g, k * 5 + 3, none⟩ = false := by rw [← HLK.out.frozen (k * 5 + 3)]; unfold World.frozen?; rw [HBW.out.block g cG]
  have bE := aM (dm.of_below HBW.out (fun q => (Value.slice U b.f3.length c3).ownBlock = some q))
  have cH := aM (lent_fewer hin HP.out.1 HP.out.2.1 HP.out.2.2.1 HP.out.2.2.2.1 HP.out.2.2.2.2 bE.out (Kd.R_lower (Kd.R_mono aR.out (fun q hq => HP.out.1 q hq)) HN.out))
  have HKF := aM (dm.setCell (p := ⟨g, k * 5 + 3, none⟩) (dm.of_below HBW.out ok) (.inl hokg') u11)
  obtain ⟨A1, c1, cI⟩ := Kd.R_slice aR.out
  subst cI
  go_wp2
  go_ret2
  exact ⟨_, (Z199), fun _ => by rw [E.out]; exact Kd.S_lower (Kd.S_mono cH.out.back (fun _ _ => trivial)) (Nat.le_of_lt J.out), HWB.out _ HKF.out⟩
abbrev SmallB (xs : List S82) : Prop := xs.length <= 1048576 /\ ∀ b ∈ xs, b.f3.length <= 1048576 /\ b.f4.length <= 1048576
def replF (rd : ByteArray -> Option (Int × Int × Int × Int × ByteArray × (List S84) × Bool)) : List ByteArray -> List S82 -> Option (Option (List S82))
 | [], xs => some (some xs)
 | r :: rs, xs => (rd r).bind fun m => if m.2.2.2.2.2.2 = true then
   (if SmallB xs /\ m.2.2.2.2.2.1.length <= 1048576 then
    (if (gi xs m.1 m.2.1 m.2.2.1 m.2.2.2.1 m.2.2.2.2.1 m.2.2.2.2.2.1).2 = 0 then replF rd rs (gi xs m.1 m.2.1 m.2.2.1 m.2.2.2.1 m.2.2.2.2.1 m.2.2.2.2.2.1).1 else some none) else none) else some none
theorem replF_cons {rd : ByteArray -> Option (Int × Int × Int × Int × ByteArray × (List S84) × Bool)} {rs : List ByteArray} {xs : List S82} {o : Option (List S82)} {k : Nat} (h : replF rd (rs.drop k) xs = some o) (hk : k < rs.length) :
  ∃ m1 m2 m3 m4 m5 m6 m7, rd (gb ByteArray.empty rs (k : Int)) = some (m1, m2, m3, m4, m5, m6, m7) /\
   (m7 = false /\ o = none ∨ m7 = true /\ SmallB xs /\ m6.length <= 1048576 /\ ((gi xs m1 m2 m3 m4 m5 m6).2 ≠ 0 /\ o = none ∨ (gi xs m1 m2 m3 m4 m5 m6).2 = 0 /\ replF rd (rs.drop (k + 1)) (gi xs m1 m2 m3 m4 m5 m6).1 = some o)) := by
 rw [List.drop_eq_getElem_cons hk] at h
 unfold replF at h
 obtain ⟨⟨m1, m2, m3, m4, m5, m6, m7⟩, hm, h⟩ := Option.bind_eq_some_iff.mp h
 refine ⟨m1, m2, m3, m4, m5, m6, m7, by rw [rdOf_nat _ rs k hk]; exact hm, ?_⟩
 dsimp only at h
 by_cases s : m7 = true
 ·rw [if_pos s] at h
  by_cases hs : SmallB xs /\ m6.length <= 1048576
  ·rw [if_pos hs] at h
   by_cases y : (gi xs m1 m2 m3 m4 m5 m6).2 = 0
   ·rw [if_pos y] at h; exact .inr ⟨s, hs.1, hs.2, .inr ⟨y, h⟩⟩
   rw [if_neg y] at h; injection h with h; exact .inr ⟨s, hs.1, hs.2, .inl ⟨y, h.symm⟩⟩
  rw [if_neg hs] at h; cases h
 rw [if_neg s] at h; injection h with h; exact .inl ⟨by simpa using s, h.symm⟩
theorem replF_nil {rd : ByteArray -> Option (Int × Int × Int × Int × ByteArray × (List S84) × Bool)} {xs : List S82} {o : Option (List S82)} (h : replF rd [] xs = some o) : o = some xs := by
 unfold replF at h; injection h with h; exact h.symm
theorem S_empty_at {α : Type} (d : Kd α) {W : World} {base e g : Nat} {ok : Nat -> Prop} (hb : W.heap[g]? = some (.cells #[] e (0, 0))) (hbase : base <= g) (hok : ok g) : Kd.S d e W base ok (.slice (some ⟨g, 0, none⟩) 0 0) [] :=
 ⟨fun _ => 0, R_empty_at _ hb hbase hok⟩
def ReplRet (w : World) (s : List S82) (y D : Int) (e : Ending) (w' : World) : Prop :=
 ∃ v0_ : Value, e = .returned (.tuple #[v0_, .int .i64 y, .int .i64 D]) /\ Kd.S k82 82 w' w.heap.size (fun _ => True) v0_ s /\ Below w.heap.size w w'
def gv.f (k : Nat) (a0 : ByteArray) : Option ((List S82) × Int × Int) :=
 (ck.f k a0).bind fun q => if q.1.length <= 1048576 then (replF (bz.f k) q.1 []).bind fun o => (match o with
  | none => some ([], 0, 3)
  | some xs => if q.2.2 = 8 then some ([], 0, 8) else some (xs, (q.1.length : Int), 0)) else none
theorem s_replay (k : Nat) (a0 : ByteArray) (r1 : List S82) (r2 r3 : Int) (w : World) (h : gv.f k a0 = some (r1, r2, r3)) :
  Calls prog 72 #[.string a0] w (ReplRet w r1 r2 r3) := by
 unfold gv.f at h
 obtain ⟨⟨rs, q2, I⟩, hq, h⟩ := Option.bind_eq_some_iff.mp h
 dsimp only at h
 have hrl : rs.length <= 1048576 := by
  by_cases c : rs.length <= 1048576
  ·exact c
  rw [if_neg c] at h; cases h
 rw [if_pos hrl] at h
 obtain ⟨o, ho, h⟩ := Option.bind_eq_some_iff.mp h
 have HQ := aM hq
 have HO := aM ho
 have HH := aM h
 clear h hq ho
 go_enter func72, ntmps72
 go_wp2_with fail
 refine (ck.calls k a0 rs q2 I _ HQ.out).mono ?_
 rintro e w1 ⟨v, rfl, hR, hb⟩
 obtain ⟨A, c, rfl, hc, hC⟩ := Kd.R_reads hR
 have HC := aM hC
 have HB := aM hb
 clear hC hb hR
 go_wp2_with fail
 go_loopg [8, 9] rs.length (fun gg s8 s9 wr => ∃ (kk : Nat) (xs : List S82), kk <= rs.length /\ rs.length - kk <= gg /\ s9 = .int .i64 kk /\ ap (Kd.S k82 82 wr w1.heap.size (fun _ => True) s8 xs) /\ ap (Below w1.heap.size w1 wr) /\ ap (replF (bz.f k) (rs.drop kk) xs = some o))
 case atStart => exact ⟨0, [], Nat.zero_le _, Z31, rfl, ⟨S_empty_at _ (blk_made rfl) (bj _) trivial⟩, ⟨ab (bi _ _) _⟩, HO⟩
 case round =>
  obtain ⟨kk, xs, hkk, hgg, rfl, HS, HBW, HR⟩ := hrel
  by_cases hlt : kk < rs.length
  ·have hltz : (kk : Int) < (rs.length : Int) := by omega
   have h0k : 0 <= (kk : Int) := by omega
   obtain ⟨m1, m2, m3, m4, m5, m6, m7, hm, hor⟩ := replF_cons HR.out hlt
   have HM := aM hm
   obtain ⟨ad, e, aD⟩ := Kd.at_string (Kd.C_below HC.out HBW.out) (kk : Int) h0k hltz
   cases e
   simp only [Int.toNat_natCast] at aD
   clear hm HR
   generalize (gb ByteArray.empty rs (kk : Int)) = q0 at *
   have HOR := aM hor
   clear hor
   go_wp2_with fail
   refine (bz.calls k q0 m1 m2 m3 m4 m5 m6 m7 _ HM.out).mono ?_
   rintro e w3 ⟨v5, rfl, aE, J⟩
   obtain ⟨s, c6, rfl, aT, aF⟩ := Kd.R_reads aE
   have M := aM (Kd.S_below HS.out J)
   have D := aM (Below.trans HBW.out (J.mono HBW.out.size))
   have aG := aM aF
   clear aE aF J HS HBW aD
   rcases HOR.out with ⟨rfl, rfl⟩ | ⟨rfl, hs, aN, hcase⟩
   ·have hh := HH.out
    dsimp only at hh
    simp only [Option.some.injEq, Prod.mk.injEq] at hh
    obtain ⟨rfl, rfl, rfl⟩ := hh
    go_wp2
    go_ret3
    exact ⟨_, rfl, S_empty_at _ (blk_made (fg)) (by have := HB.out.size; have := D.out.size; omega) trivial, ab (ab (Below.trans HB.out (D.out.mono HB.out.size)) _) _⟩
   obtain ⟨AS, cS, rfl⟩ := Kd.S_slice M.out
   have HSM := aM hs
   have HCA := aM hcase
   clear hs hcase HOR
   have aH := aM (Kd.S_alloc M.out (.cells #[.int .i64 m1, .int .i64 m2, .int .i64 m3, .int .i64 m4, .string m5, .slice s m6.length c6] 41))
   have aO := aM (Kd.C_alloc aG.out (.cells #[.int .i64 m1, .int .i64 m2, .int .i64 m3, .int .i64 m4, .string m5, .slice s m6.length c6] 41))
   have O := aM (ab D.out (.cells #[.int .i64 m1, .int .i64 m2, .int .i64 m3, .int .i64 m4, .string m5, .slice s m6.length c6] 41))
   clear M aG D
   go_wp2_with fail
   generalize w3.alloc (.cells #[.int .i64 m1, .int .i64 m2, .int .i64 m3, .int .i64 m4, .string m5, .slice s m6.length c6] 41) = w4 at *
   refine (s_apply AS cS xs m1 m2 m3 m4 m5 s c6 m6 w4 (Kd.S_reads' aH.out).2.2 (Kd.S_reads' aH.out).2.1 aO.out HSM.out.1 HSM.out.2 aN).mono ?_
   rintro e w5 ⟨v7, rfl, U, X⟩
   have Y := aM (Below.trans O.out (X.mono O.out.size))
   rcases HCA.out with ⟨hne, rfl⟩ | ⟨Z, hr⟩
   ·have hh := HH.out
    dsimp only at hh
    simp only [Option.some.injEq, Prod.mk.injEq] at hh
    obtain ⟨rfl, rfl, rfl⟩ := hh
    have tne : ((gi xs m1 m2 m3 m4 m5 m6).2 != 0) = true := bg hne
    clear hne X U HCA
    generalize (gi xs m1 m2 m3 m4 m5 m6).2 = cd at *
    go_wp2
    go_ret3
    exact ⟨_, rfl, S_empty_at _ (blk_made rfl) (Nat.le_trans HB.out.size Y.out.size) trivial, ab (Below.trans HB.out (Y.out.mono HB.out.size)) _⟩
   have aP := aM (U Z)
   have aQ := aM hr
   clear U hr HCA X
   generalize (gi xs m1 m2 m3 m4 m5 m6).1 = xs' at *
   rw [Z]
   clear Z
   have aR := aM (O.out.size)
   go_wp2
   go_roundg (rs.length - (kk + 1))
   case measure => omega
   case rel => exact ⟨kk + 1, xs', Z31, Z31, by go_num, ⟨Kd.S_lower aP.out aR.out⟩, Y, aQ⟩
  have hltz : ¬ (kk : Int) < (rs.length : Int) := by omega
  obtain rfl : kk = rs.length := by omega
  have hr := HR.out
  rw [List.drop_of_length_le (bj _)] at hr
  have hoe := replF_nil hr
  subst hoe
  have hh := HH.out
  dsimp only at hh
  clear hr
  obtain ⟨AS, cS, rfl⟩ := Kd.S_slice HS.out
  by_cases y : I = 8
  ·rw [if_pos y] at hh
   simp only [Option.some.injEq, Prod.mk.injEq] at hh
   obtain ⟨rfl, rfl, rfl⟩ := hh
   subst y
   go_wp2
   go_ret3
   exact ⟨_, rfl, S_empty_at _ (blk_made rfl) (Nat.le_trans HB.out.size HBW.out.size) trivial, ab (Below.trans HB.out (HBW.out.mono HB.out.size)) _⟩
  rw [if_neg y] at hh
  simp only [Option.some.injEq, Prod.mk.injEq] at hh
  obtain ⟨rfl, rfl, rfl⟩ := hh
  have t8 : (I == 8) = false := bb y
  clear y
  go_wp2
  go_ret3
  exact ⟨_, rfl, Kd.S_lower HS.out HB.out.size, Below.trans HB.out (HBW.out.mono HB.out.size)⟩
theorem gv.calls (k : Nat) (a0 : ByteArray) (s : List S82) (y D : Int) (w : World) (h : gv.f k a0 = some (s, y, D)) :
  Calls prog 72 #[.string a0] w fun e w' => ∃ v0_ : Value, e = .returned (.tuple #[v0_, .int .i64 y, .int .i64 D]) /\ Kd.S k82 82 w' w.heap.size (fun _ => True) v0_ s /\ Below w.heap.size w w' := s_replay k a0 s y D w h
attribute [local go_sem high] eqA113
mutual
def ca.l0 : Nat -> List (S82) -> List (S82) -> Int -> Option (Bool)
 | 0, _, _, _ => none
 | k + 1, x0, x1, x5 => if x5 < (x0.length : Int) then (if 0 <= x5 then (if x5 < (x1.length : Int) then (if ((ax x0 x5).f0).toList = ((ax x1 x5).f0).toList then (if ((ax x0 x5).f1) = ((ax x1 x5).f1) then (if ((ax x0 x5).f2) = ((ax x1 x5).f2) then (if (((ax x0 x5).f3).length : Int) = (((ax x1 x5).f3).length : Int) then (ca.j1 k x0 x1 x5 ((((ax x0 x5).f4).length : Int) != (((ax x1 x5).f4).length : Int)) ((ax x0 x5).f0) ((ax x0 x5).f1) ((ax x0 x5).f2) ((ax x0 x5).f3) ((ax x0 x5).f4) ((ax x1 x5).f0) ((ax x1 x5).f1) ((ax x1 x5).f2) ((ax x1 x5).f3) ((ax x1 x5).f4)) else (ca.j1 k x0 x1 x5 true ((ax x0 x5).f0) ((ax x0 x5).f1) ((ax x0 x5).f2) ((ax x0 x5).f3) ((ax x0 x5).f4) ((ax x1 x5).f0) ((ax x1 x5).f1) ((ax x1 x5).f2) ((ax x1 x5).f3) ((ax x1 x5).f4))) else (ca.j1 k x0 x1 x5 true ((ax x0 x5).f0) ((ax x0 x5).f1) ((ax x0 x5).f2) ((ax x0 x5).f3) ((ax x0 x5).f4) ((ax x1 x5).f0) ((ax x1 x5).f1) ((ax x1 x5).f2) ((ax x1 x5).f3) ((ax x1 x5).f4))) else (ca.j1 k x0 x1 x5 true ((ax x0 x5).f0) ((ax x0 x5).f1) ((ax x0 x5).f2) ((ax x0 x5).f3) ((ax x0 x5).f4) ((ax x1 x5).f0) ((ax x1 x5).f1) ((ax x1 x5).f2) ((ax x1 x5).f3) ((ax x1 x5).f4))) else (ca.j1 k x0 x1 x5 true ((ax x0 x5).f0) ((ax x0 x5).f1) ((ax x0 x5).f2) ((ax x0 x5).f3) ((ax x0 x5).f4) ((ax x1 x5).f0) ((ax x1 x5).f1) ((ax x1 x5).f2) ((ax x1 x5).f3) ((ax x1 x5).f4))) else (none)) else (none)) else (some true)
def ca.j1 : Nat -> List (S82) -> List (S82) -> Int -> Bool -> ByteArray -> Int -> Int -> List (S113) -> List ByteArray -> ByteArray -> Int -> Int -> List (S113) -> List ByteArray -> Option (Bool)
 | 0, _, _, _, _, _, _, _, _, _, _, _, _, _, _ => none
 | k + 1, x0, x1, x5, s, y, D, I, J, M, O, U, X, Y, Z => if s = true then (some false) else (ca.l1 k x0 x1 x5 0 y D I J M O U X Y Z)
def ca.l1 : Nat -> List (S82) -> List (S82) -> Int -> Int -> ByteArray -> Int -> Int -> List (S113) -> List ByteArray -> ByteArray -> Int -> Int -> List (S113) -> List ByteArray -> Option (Bool)
 | 0, _, _, _, _, _, _, _, _, _, _, _, _, _, _ => none
 | k + 1, x0, x1, x5, x8, D, I, J, s, M, O, U, X, y, Y => if x8 < (s.length : Int) then (if 0 <= x8 then (if x8 < (y.length : Int) then (if (!(((ar s x8).f0) == ((ar y x8).f0)) || (!(((ar s x8).f1) == ((ar y x8).f1)) || (!((((ar s x8).f2).toList) == (((ar y x8).f2).toList))))) = true then (some false) else (ca.l1 k x0 x1 x5 (wrap64 (x8 + 1)) D I J s M O U X y Y)) else (none)) else (none)) else (ca.l2 k x0 x1 x5 0 D I J s M O U X y Y)
def ca.l2 : Nat -> List (S82) -> List (S82) -> Int -> Int -> ByteArray -> Int -> Int -> List (S113) -> List ByteArray -> ByteArray -> Int -> Int -> List (S113) -> List ByteArray -> Option (Bool)
 | 0, _, _, _, _, _, _, _, _, _, _, _, _, _, _ => none
 | k + 1, x0, x1, x5, x9, D, I, J, M, s, O, U, X, Y, y => if x9 < (s.length : Int) then (if 0 <= x9 then (if x9 < (y.length : Int) then (if (gb ByteArray.empty s x9).toList = (gb ByteArray.empty y x9).toList then (ca.l2 k x0 x1 x5 (wrap64 (x9 + 1)) D I J M s O U X Y y) else (some false)) else (none)) else (none)) else (ca.l0 k x0 x1 (wrap64 (x5 + 1)))
end
def ca.f (k : Nat) (l0 : List (S82)) (l1 : List (S82)) : Option (Bool) := if (l0.length : Int) = (l1.length : Int) then (ca.l0 k l0 l1 0) else (some false)
theorem ca.calls (k : Nat) (A0 : Option Addr) (c0 : Nat) (l0 : List (S82)) (A1 : Option Addr) (c1 : Nat) (l1 : List (S82)) (r : Bool) (w : World) (hr0 : Kd.C k82 w A0 l0.length l0) (cG : l0.length <= c0) (a9 : Kd.C k82 w A1 l1.length l1) (cH : l1.length <= c1) (h : ca.f k l0 l1 = some r) :
  Calls prog 73 #[.slice A0 l0.length c0, .slice A1 l1.length c1] w fun e w' => e = .returned (.bool r) /\ Below w.heap.size w w' := by
 have eP := underlying82
 have eQ := underlying113
 replace hr0 := aM hr0
 replace cG := aM cG
 replace a9 := aM a9
 replace cH := aM cH
 have HB := aM (bi w.heap.size w)
 have H := h
 clear h
 unfold ca.f at H
 by_cases c3 : (l0.length : Int) = (l1.length : Int)
 ·rw [if_pos c3] at H
  have bA := bf c3
  have bB := bc c3
  have bC : (l0.length == l1.length) = true := by first | simpa using c3 | (simp at c3 ⊢; omega)
  clear c3
  have H' := aM H
  clear H
  go_enter func73, ntmps73
  go_wp2
  repeat (go_quiet (fail); try go_wp2)
  go_loopg [5] k (fun kq v5 w' => ∃ (x5_1 : Int), v5 = .int .i64 x5_1 /\ ap (ca.l0 kq l0 l1 x5_1 = some r) /\ ap (kq <= k) /\ ap (Below w.heap.size w w'))
  case atStart => exact ⟨(0), (Z3), H', ⟨bj _⟩, ⟨Z0⟩⟩
  case round =>
   clear H'
   (try clear c1); (try clear c3); (try clear bA); (try clear bB); (try clear bC)
   obtain ⟨x5_1, rfl, HA, HK1, HB⟩ := hrel
   cases gk with
   | zero => exact absurd HA.out (by simp [ca.l0])
   | succ k1 =>
    have H := HA.out
    clear HA
    simp only [ca.l0] at H
    by_cases c4 : x5_1 < (l0.length : Int)
    ·rw [if_pos c4] at H
     have bU := az c4
     clear c4
     obtain ⟨c5, H⟩ := ifS H
     have bZ := az c5
     clear c5
     obtain ⟨c6, H⟩ := ifS H
     have b0 := az c6
     clear c6
     have b1 := aM H
     clear H
     have aZ : 0 <= (x5_1 : Int) := dT (Z4)
     have a2 : x5_1 < (l0.length : Int) := dT (Z4)
     obtain ⟨eR, A222_3, c222_3, O, U, d3, bD, bE, bF, bG, bH, cI, cJ, cK, cL⟩ := em hr0.out x5_1 aZ a2
     cases d3
     replace bD := cB HB.out bD
     replace bE := cB HB.out bE
     replace bF := cB HB.out bF
     replace bG := cB HB.out bG
     replace bH := cB HB.out bH
     have cM := aM cJ
     have eS := aM cI
     clear cJ cI
     have cN := aM cL
     have eT := aM cK
     clear cL cK
     replace aZ := bh aZ
     replace a2 := bh a2
     go_upto_region 8 with (first | ((with_reducible refine gD 6 ?_); (try (refine dl (Z96) ?_; dsimp only)); refine bxF w 6 #[.string (⟨#[]⟩ : ByteArray), .int .i64 0, .int .i64 0, .slice none 0 0, .slice none 0 0] 82 (Z0) ?_; intro s hg Z BK223 aA GE223 HB hb; clear hb hg; obtain ⟨cO, cP, cQ, cR, cS⟩ := bc5 BK223.out; obtain ⟨cT, cU, cV, cX, cY⟩ := bf5 BK223.out; have aD : 0 <= (x5_1 : Int) := dT (Z4); have aE : x5_1 < (l1.length : Int) := dT (Z4); obtain ⟨aB, A224_3, c224_3, bI, bJ, bK, y, D, I, J, M, aH, aI, aJ, aK⟩ := em a9.out x5_1 aD aE; cases bK; have hn224_0 : aB.block ≠ s := Nat.ne_of_lt (Nat.lt_of_lt_of_le (by have := World.block_lt_of_cell? _ _ y; first | rwa [add_block] at this | exact this) aA.out); have hn224_1 : aB.block ≠ s := Nat.ne_of_lt (Nat.lt_of_lt_of_le (by have := World.block_lt_of_cell? _ _ y; first | rwa [add_block] at this | exact this) aA.out); have hn224_2 : aB.block ≠ s := Nat.ne_of_lt (Nat.lt_of_lt_of_le (by have := World.block_lt_of_cell? _ _ y; first | rwa [add_block] at this | exact this) aA.out); have hn224_3 : aB.block ≠ s := Nat.ne_of_lt (Nat.lt_of_lt_of_le (by have := World.block_lt_of_cell? _ _ y; first | rwa [add_block] at this | exact this) aA.out); have hn224_4 : aB.block ≠ s := Nat.ne_of_lt (Nat.lt_of_lt_of_le (by have := World.block_lt_of_cell? _ _ y; first | rwa [add_block] at this | exact this) aA.out); replace y := cB HB.out y; replace D := cB HB.out D; replace I := cB HB.out I; replace J := cB HB.out J; replace M := cB HB.out M; have bV := aM aI; have cZ := aM aH; clear aI aH; have bW := aM aK; have dA := aM aJ; clear aK aJ; replace y := cE s 0 (Z43) (.string ((ax l0 x5_1).f0)) y; replace D := cE s 0 (Z43) (.string ((ax l0 x5_1).f0)) D; replace I := cE s 0 (Z43) (.string ((ax l0 x5_1).f0)) I; replace J := cE s 0 (Z43) (.string ((ax l0 x5_1).f0)) J; replace M := cE s 0 (Z43) (.string ((ax l0 x5_1).f0)) M; replace y := cE s 1 (Z44) (.int .i64 ((ax l0 x5_1).f1)) y; replace D := cE s 1 (Z44) (.int .i64 ((ax l0 x5_1).f1)) D; replace I := cE s 1 (Z44) (.int .i64 ((ax l0 x5_1).f1)) I; replace J := cE s 1 (Z44) (.int .i64 ((ax l0 x5_1).f1)) J; replace M := cE s 1 (Z44) (.int .i64 ((ax l0 x5_1).f1)) M; replace y := cE s 2 (Z45) (.int .i64 ((ax l0 x5_1).f2)) y; replace D := cE s 2 (Z45) (.int .i64 ((ax l0 x5_1).f2)) D; replace I := cE s 2 (Z45) (.int .i64 ((ax l0 x5_1).f2)) I; replace J := cE s 2 (Z45) (.int .i64 ((ax l0 x5_1).f2)) J; replace M := cE s 2 (Z45) (.int .i64 ((ax l0 x5_1).f2)) M; replace y := cE s 3 (Z46) (.slice A222_3 ((ax l0 x5_1).f3).length c222_3) y; replace D := cE s 3 (Z46) (.slice A222_3 ((ax l0 x5_1).f3).length c222_3) D; replace I := cE s 3 (Z46) (.slice A222_3 ((ax l0 x5_1).f3).length c222_3) I; replace J := cE s 3 (Z46) (.slice A222_3 ((ax l0 x5_1).f3).length c222_3) J; replace M := cE s 3 (Z46) (.slice A222_3 ((ax l0 x5_1).f3).length c222_3) M; replace y := cE s 4 (Z47) (.slice O ((ax l0 x5_1).f4).length U) y; replace D := cE s 4 (Z47) (.slice O ((ax l0 x5_1).f4).length U) D; replace I := cE s 4 (Z47) (.slice O ((ax l0 x5_1).f4).length U) I; replace J := cE s 4 (Z47) (.slice O ((ax l0 x5_1).f4).length U) J; replace M := cE s 4 (Z47) (.slice O ((ax l0 x5_1).f4).length U) M; (try have dB := fun (n_ : Nat) => (show (((((((Z.drewN n_).setCell ⟨s, 0, none⟩ (.string ((ax l0 x5_1).f0))).setCell ⟨s, 1, none⟩ (.int .i64 ((ax l0 x5_1).f1))).setCell ⟨s, 2, none⟩ (.int .i64 ((ax l0 x5_1).f2))).setCell ⟨s, 3, none⟩ (.slice A222_3 ((ax l0 x5_1).f3).length c222_3)).setCell ⟨s, 4, none⟩ (.slice O ((ax l0 x5_1).f4).length U))).cell? _ = some _ from y)); (try have dC := fun (n_ : Nat) => (show (((((((Z.drewN n_).setCell ⟨s, 0, none⟩ (.string ((ax l0 x5_1).f0))).setCell ⟨s, 1, none⟩ (.int .i64 ((ax l0 x5_1).f1))).setCell ⟨s, 2, none⟩ (.int .i64 ((ax l0 x5_1).f2))).setCell ⟨s, 3, none⟩ (.slice A222_3 ((ax l0 x5_1).f3).length c222_3)).setCell ⟨s, 4, none⟩ (.slice O ((ax l0 x5_1).f4).length U))).cell? _ = some _ from D)); (try have dD := fun (n_ : Nat) => (show (((((((Z.drewN n_).setCell ⟨s, 0, none⟩ (.string ((ax l0 x5_1).f0))).setCell ⟨s, 1, none⟩ (.int .i64 ((ax l0 x5_1).f1))).setCell ⟨s, 2, none⟩ (.int .i64 ((ax l0 x5_1).f2))).setCell ⟨s, 3, none⟩ (.slice A222_3 ((ax l0 x5_1).f3).length c222_3)).setCell ⟨s, 4, none⟩ (.slice O ((ax l0 x5_1).f4).length U))).cell? _ = some _ from I)); (try have dE := fun (n_ : Nat) => (show (((((((Z.drewN n_).setCell ⟨s, 0, none⟩ (.string ((ax l0 x5_1).f0))).setCell ⟨s, 1, none⟩ (.int .i64 ((ax l0 x5_1).f1))).setCell ⟨s, 2, none⟩ (.int .i64 ((ax l0 x5_1).f2))).setCell ⟨s, 3, none⟩ (.slice A222_3 ((ax l0 x5_1).f3).length c222_3)).setCell ⟨s, 4, none⟩ (.slice O ((ax l0 x5_1).f4).length U))).cell? _ = some _ from J)); (try have dF := fun (n_ : Nat) => (show (((((((Z.drewN n_).setCell ⟨s, 0, none⟩ (.string ((ax l0 x5_1).f0))).setCell ⟨s, 1, none⟩ (.int .i64 ((ax l0 x5_1).f1))).setCell ⟨s, 2, none⟩ (.int .i64 ((ax l0 x5_1).f2))).setCell ⟨s, 3, none⟩ (.slice A222_3 ((ax l0 x5_1).f3).length c222_3)).setCell ⟨s, 4, none⟩ (.slice O ((ax l0 x5_1).f4).length U))).cell? _ = some _ from M)); clear hn224_0; clear hn224_1; clear hn224_2; clear hn224_3; clear hn224_4; replace aD := bh aD; replace aE := bh aE) | ((with_reducible refine gD 7 ?_); (try (refine dl (Z96) ?_; dsimp only)); refine bxF w 7 #[.string (⟨#[]⟩ : ByteArray), .int .i64 0, .int .i64 0, .slice none 0 0, .slice none 0 0] 82 (Z60) ?_; intro aF hg dG BK225 dH GE225 HB hb; have NB223_225 := aM ((by rw [hg]; exact Nat.ne_of_lt (en (g := s) (o := .cells #[.string ((ax l0 x5_1).f0), .int .i64 ((ax l0 x5_1).f1), .int .i64 ((ax l0 x5_1).f2), .slice A222_3 ((ax l0 x5_1).f3).length c222_3, .slice O ((ax l0 x5_1).f4).length U] 82 (0, 0)) (Z5)) : s ≠ aF)); have aC := aM ((by rw [hg]; exact Nat.ne_of_gt (en (g := s) (o := .cells #[.string ((ax l0 x5_1).f0), .int .i64 ((ax l0 x5_1).f1), .int .i64 ((ax l0 x5_1).f2), .slice A222_3 ((ax l0 x5_1).f3).length c222_3, .slice O ((ax l0 x5_1).f4).length U] 82 (0, 0)) (Z5)) : aF ≠ s)); replace BK223 := aM (ai (g := s) (o := .cells #[.string ((ax l0 x5_1).f0), .int .i64 ((ax l0 x5_1).f1), .int .i64 ((ax l0 x5_1).f2), .slice A222_3 ((ax l0 x5_1).f3).length c222_3, .slice O ((ax l0 x5_1).f4).length U] 82 (0, 0)) (Z5) hb); clear hb hg; have dI := aC.out; have dJ := NB223_225.out; obtain ⟨dK, dL, dM, dN, dO⟩ := bc5 BK225.out; obtain ⟨dP, dQ, dR, dS, zq⟩ := bf5 BK225.out))
     repeat (go_quiet (first | ((with_reducible refine gD 6 ?_); (try (refine dl (Z96) ?_; dsimp only)); refine bxF w 6 #[.string (⟨#[]⟩ : ByteArray), .int .i64 0, .int .i64 0, .slice none 0 0, .slice none 0 0] 82 (Z0) ?_; intro s hg Z BK223 aA GE223 HB hb; clear hb hg; obtain ⟨cO, cP, cQ, cR, cS⟩ := bc5 BK223.out; obtain ⟨cT, cU, cV, cX, cY⟩ := bf5 BK223.out; have aD : 0 <= (x5_1 : Int) := dT (Z4); have aE : x5_1 < (l1.length : Int) := dT (Z4); obtain ⟨aB, A224_3, c224_3, bI, bJ, bK, y, D, I, J, M, aH, aI, aJ, aK⟩ := em a9.out x5_1 aD aE; cases bK; have hn224_0 : aB.block ≠ s := Nat.ne_of_lt (Nat.lt_of_lt_of_le (by have := World.block_lt_of_cell? _ _ y; first | rwa [add_block] at this | exact this) aA.out); have hn224_1 : aB.block ≠ s := Nat.ne_of_lt (Nat.lt_of_lt_of_le (by have := World.block_lt_of_cell? _ _ y; first | rwa [add_block] at this | exact this) aA.out); have hn224_2 : aB.block ≠ s := Nat.ne_of_lt (Nat.lt_of_lt_of_le (by have := World.block_lt_of_cell? _ _ y; first | rwa [add_block] at this | exact this) aA.out); have hn224_3 : aB.block ≠ s := Nat.ne_of_lt (Nat.lt_of_lt_of_le (by have := World.block_lt_of_cell? _ _ y; first | rwa [add_block] at this | exact this) aA.out); have hn224_4 : aB.block ≠ s := Nat.ne_of_lt (Nat.lt_of_lt_of_le (by have := World.block_lt_of_cell? _ _ y; first | rwa [add_block] at this | exact this) aA.out); replace y := cB HB.out y; replace D := cB HB.out D; replace I := cB HB.out I; replace J := cB HB.out J; replace M := cB HB.out M; have bV := aM aI; have cZ := aM aH; clear aI aH; have bW := aM aK; have dA := aM aJ; clear aK aJ; replace y := cE s 0 (Z43) (.string ((ax l0 x5_1).f0)) y; replace D := cE s 0 (Z43) (.string ((ax l0 x5_1).f0)) D; replace I := cE s 0 (Z43) (.string ((ax l0 x5_1).f0)) I; replace J := cE s 0 (Z43) (.string ((ax l0 x5_1).f0)) J; replace M := cE s 0 (Z43) (.string ((ax l0 x5_1).f0)) M; replace y := cE s 1 (Z44) (.int .i64 ((ax l0 x5_1).f1)) y; replace D := cE s 1 (Z44) (.int .i64 ((ax l0 x5_1).f1)) D; replace I := cE s 1 (Z44) (.int .i64 ((ax l0 x5_1).f1)) I; replace J := cE s 1 (Z44) (.int .i64 ((ax l0 x5_1).f1)) J; replace M := cE s 1 (Z44) (.int .i64 ((ax l0 x5_1).f1)) M; replace y := cE s 2 (Z45) (.int .i64 ((ax l0 x5_1).f2)) y; replace D := cE s 2 (Z45) (.int .i64 ((ax l0 x5_1).f2)) D; replace I := cE s 2 (Z45) (.int .i64 ((ax l0 x5_1).f2)) I; replace J := cE s 2 (Z45) (.int .i64 ((ax l0 x5_1).f2)) J; replace M := cE s 2 (Z45) (.int .i64 ((ax l0 x5_1).f2)) M; replace y := cE s 3 (Z46) (.slice A222_3 ((ax l0 x5_1).f3).length c222_3) y; replace D := cE s 3 (Z46) (.slice A222_3 ((ax l0 x5_1).f3).length c222_3) D; replace I := cE s 3 (Z46) (.slice A222_3 ((ax l0 x5_1).f3).length c222_3) I; replace J := cE s 3 (Z46) (.slice A222_3 ((ax l0 x5_1).f3).length c222_3) J; replace M := cE s 3 (Z46) (.slice A222_3 ((ax l0 x5_1).f3).length c222_3) M; replace y := cE s 4 (Z47) (.slice O ((ax l0 x5_1).f4).length U) y; replace D := cE s 4 (Z47) (.slice O ((ax l0 x5_1).f4).length U) D; replace I := cE s 4 (Z47) (.slice O ((ax l0 x5_1).f4).length U) I; replace J := cE s 4 (Z47) (.slice O ((ax l0 x5_1).f4).length U) J; replace M := cE s 4 (Z47) (.slice O ((ax l0 x5_1).f4).length U) M; (try have dB := fun (n_ : Nat) => (show (((((((Z.drewN n_).setCell ⟨s, 0, none⟩ (.string ((ax l0 x5_1).f0))).setCell ⟨s, 1, none⟩ (.int .i64 ((ax l0 x5_1).f1))).setCell ⟨s, 2, none⟩ (.int .i64 ((ax l0 x5_1).f2))).setCell ⟨s, 3, none⟩ (.slice A222_3 ((ax l0 x5_1).f3).length c222_3)).setCell ⟨s, 4, none⟩ (.slice O ((ax l0 x5_1).f4).length U))).cell? _ = some _ from y)); (try have dC := fun (n_ : Nat) => (show (((((((Z.drewN n_).setCell ⟨s, 0, none⟩ (.string ((ax l0 x5_1).f0))).setCell ⟨s, 1, none⟩ (.int .i64 ((ax l0 x5_1).f1))).setCell ⟨s, 2, none⟩ (.int .i64 ((ax l0 x5_1).f2))).setCell ⟨s, 3, none⟩ (.slice A222_3 ((ax l0 x5_1).f3).length c222_3)).setCell ⟨s, 4, none⟩ (.slice O ((ax l0 x5_1).f4).length U))).cell? _ = some _ from D)); (try have dD := fun (n_ : Nat) => (show (((((((Z.drewN n_).setCell ⟨s, 0, none⟩ (.string ((ax l0 x5_1).f0))).setCell ⟨s, 1, none⟩ (.int .i64 ((ax l0 x5_1).f1))).setCell ⟨s, 2, none⟩ (.int .i64 ((ax l0 x5_1).f2))).setCell ⟨s, 3, none⟩ (.slice A222_3 ((ax l0 x5_1).f3).length c222_3)).setCell ⟨s, 4, none⟩ (.slice O ((ax l0 x5_1).f4).length U))).cell? _ = some _ from I)); (try have dE := fun (n_ : Nat) => (show (((((((Z.drewN n_).setCell ⟨s, 0, none⟩ (.string ((ax l0 x5_1).f0))).setCell ⟨s, 1, none⟩ (.int .i64 ((ax l0 x5_1).f1))).setCell ⟨s, 2, none⟩ (.int .i64 ((ax l0 x5_1).f2))).setCell ⟨s, 3, none⟩ (.slice A222_3 ((ax l0 x5_1).f3).length c222_3)).setCell ⟨s, 4, none⟩ (.slice O ((ax l0 x5_1).f4).length U))).cell? _ = some _ from J)); (try have dF := fun (n_ : Nat) => (show (((((((Z.drewN n_).setCell ⟨s, 0, none⟩ (.string ((ax l0 x5_1).f0))).setCell ⟨s, 1, none⟩ (.int .i64 ((ax l0 x5_1).f1))).setCell ⟨s, 2, none⟩ (.int .i64 ((ax l0 x5_1).f2))).setCell ⟨s, 3, none⟩ (.slice A222_3 ((ax l0 x5_1).f3).length c222_3)).setCell ⟨s, 4, none⟩ (.slice O ((ax l0 x5_1).f4).length U))).cell? _ = some _ from M)); clear hn224_0; clear hn224_1; clear hn224_2; clear hn224_3; clear hn224_4; replace aD := bh aD; replace aE := bh aE) | ((with_reducible refine gD 7 ?_); (try (refine dl (Z96) ?_; dsimp only)); refine bxF w 7 #[.string (⟨#[]⟩ : ByteArray), .int .i64 0, .int .i64 0, .slice none 0 0, .slice none 0 0] 82 (Z60) ?_; intro aF hg dG BK225 dH GE225 HB hb; have NB223_225 := aM ((by rw [hg]; exact Nat.ne_of_lt (en (g := s) (o := .cells #[.string ((ax l0 x5_1).f0), .int .i64 ((ax l0 x5_1).f1), .int .i64 ((ax l0 x5_1).f2), .slice A222_3 ((ax l0 x5_1).f3).length c222_3, .slice O ((ax l0 x5_1).f4).length U] 82 (0, 0)) (Z5)) : s ≠ aF)); have aC := aM ((by rw [hg]; exact Nat.ne_of_gt (en (g := s) (o := .cells #[.string ((ax l0 x5_1).f0), .int .i64 ((ax l0 x5_1).f1), .int .i64 ((ax l0 x5_1).f2), .slice A222_3 ((ax l0 x5_1).f3).length c222_3, .slice O ((ax l0 x5_1).f4).length U] 82 (0, 0)) (Z5)) : aF ≠ s)); replace BK223 := aM (ai (g := s) (o := .cells #[.string ((ax l0 x5_1).f0), .int .i64 ((ax l0 x5_1).f1), .int .i64 ((ax l0 x5_1).f2), .slice A222_3 ((ax l0 x5_1).f3).length c222_3, .slice O ((ax l0 x5_1).f4).length U] 82 (0, 0)) (Z5) hb); clear hb hg; have dI := aC.out; have dJ := NB223_225.out; obtain ⟨dK, dL, dM, dN, dO⟩ := bc5 BK225.out; obtain ⟨dP, dQ, dR, dS, zq⟩ := bf5 BK225.out)); go_upto_region 8 with (first | ((with_reducible refine gD 6 ?_); (try (refine dl (Z96) ?_; dsimp only)); refine bxF w 6 #[.string (⟨#[]⟩ : ByteArray), .int .i64 0, .int .i64 0, .slice none 0 0, .slice none 0 0] 82 (Z0) ?_; intro s hg Z BK223 aA GE223 HB hb; clear hb hg; obtain ⟨cO, cP, cQ, cR, cS⟩ := bc5 BK223.out; obtain ⟨cT, cU, cV, cX, cY⟩ := bf5 BK223.out; have aD : 0 <= (x5_1 : Int) := dT (Z4); have aE : x5_1 < (l1.length : Int) := dT (Z4); obtain ⟨aB, A224_3, c224_3, bI, bJ, bK, y, D, I, J, M, aH, aI, aJ, aK⟩ := em a9.out x5_1 aD aE; cases bK; have hn224_0 : aB.block ≠ s := Nat.ne_of_lt (Nat.lt_of_lt_of_le (by have := World.block_lt_of_cell? _ _ y; first | rwa [add_block] at this | exact this) aA.out); have hn224_1 : aB.block ≠ s := Nat.ne_of_lt (Nat.lt_of_lt_of_le (by have := World.block_lt_of_cell? _ _ y; first | rwa [add_block] at this | exact this) aA.out); have hn224_2 : aB.block ≠ s := Nat.ne_of_lt (Nat.lt_of_lt_of_le (by have := World.block_lt_of_cell? _ _ y; first | rwa [add_block] at this | exact this) aA.out); have hn224_3 : aB.block ≠ s := Nat.ne_of_lt (Nat.lt_of_lt_of_le (by have := World.block_lt_of_cell? _ _ y; first | rwa [add_block] at this | exact this) aA.out); have hn224_4 : aB.block ≠ s := Nat.ne_of_lt (Nat.lt_of_lt_of_le (by have := World.block_lt_of_cell? _ _ y; first | rwa [add_block] at this | exact this) aA.out); replace y := cB HB.out y; replace D := cB HB.out D; replace I := cB HB.out I; replace J := cB HB.out J; replace M := cB HB.out M; have bV := aM aI; have cZ := aM aH; clear aI aH; have bW := aM aK; have dA := aM aJ; clear aK aJ; replace y := cE s 0 (Z43) (.string ((ax l0 x5_1).f0)) y; replace D := cE s 0 (Z43) (.string ((ax l0 x5_1).f0)) D; replace I := cE s 0 (Z43) (.string ((ax l0 x5_1).f0)) I; replace J := cE s 0 (Z43) (.string ((ax l0 x5_1).f0)) J; replace M := cE s 0 (Z43) (.string ((ax l0 x5_1).f0)) M; replace y := cE s 1 (Z44) (.int .i64 ((ax l0 x5_1).f1)) y; replace D := cE s 1 (Z44) (.int .i64 ((ax l0 x5_1).f1)) D; replace I := cE s 1 (Z44) (.int .i64 ((ax l0 x5_1).f1)) I; replace J := cE s 1 (Z44) (.int .i64 ((ax l0 x5_1).f1)) J; replace M := cE s 1 (Z44) (.int .i64 ((ax l0 x5_1).f1)) M; replace y := cE s 2 (Z45) (.int .i64 ((ax l0 x5_1).f2)) y; replace D := cE s 2 (Z45) (.int .i64 ((ax l0 x5_1).f2)) D; replace I := cE s 2 (Z45) (.int .i64 ((ax l0 x5_1).f2)) I; replace J := cE s 2 (Z45) (.int .i64 ((ax l0 x5_1).f2)) J; replace M := cE s 2 (Z45) (.int .i64 ((ax l0 x5_1).f2)) M; replace y := cE s 3 (Z46) (.slice A222_3 ((ax l0 x5_1).f3).length c222_3) y; replace D := cE s 3 (Z46) (.slice A222_3 ((ax l0 x5_1).f3).length c222_3) D; replace I := cE s 3 (Z46) (.slice A222_3 ((ax l0 x5_1).f3).length c222_3) I; replace J := cE s 3 (Z46) (.slice A222_3 ((ax l0 x5_1).f3).length c222_3) J; replace M := cE s 3 (Z46) (.slice A222_3 ((ax l0 x5_1).f3).length c222_3) M; replace y := cE s 4 (Z47) (.slice O ((ax l0 x5_1).f4).length U) y; replace D := cE s 4 (Z47) (.slice O ((ax l0 x5_1).f4).length U) D; replace I := cE s 4 (Z47) (.slice O ((ax l0 x5_1).f4).length U) I; replace J := cE s 4 (Z47) (.slice O ((ax l0 x5_1).f4).length U) J; replace M := cE s 4 (Z47) (.slice O ((ax l0 x5_1).f4).length U) M; (try have dB := fun (n_ : Nat) => (show (((((((Z.drewN n_).setCell ⟨s, 0, none⟩ (.string ((ax l0 x5_1).f0))).setCell ⟨s, 1, none⟩ (.int .i64 ((ax l0 x5_1).f1))).setCell ⟨s, 2, none⟩ (.int .i64 ((ax l0 x5_1).f2))).setCell ⟨s, 3, none⟩ (.slice A222_3 ((ax l0 x5_1).f3).length c222_3)).setCell ⟨s, 4, none⟩ (.slice O ((ax l0 x5_1).f4).length U))).cell? _ = some _ from y)); (try have dC := fun (n_ : Nat) => (show (((((((Z.drewN n_).setCell ⟨s, 0, none⟩ (.string ((ax l0 x5_1).f0))).setCell ⟨s, 1, none⟩ (.int .i64 ((ax l0 x5_1).f1))).setCell ⟨s, 2, none⟩ (.int .i64 ((ax l0 x5_1).f2))).setCell ⟨s, 3, none⟩ (.slice A222_3 ((ax l0 x5_1).f3).length c222_3)).setCell ⟨s, 4, none⟩ (.slice O ((ax l0 x5_1).f4).length U))).cell? _ = some _ from D)); (try have dD := fun (n_ : Nat) => (show (((((((Z.drewN n_).setCell ⟨s, 0, none⟩ (.string ((ax l0 x5_1).f0))).setCell ⟨s, 1, none⟩ (.int .i64 ((ax l0 x5_1).f1))).setCell ⟨s, 2, none⟩ (.int .i64 ((ax l0 x5_1).f2))).setCell ⟨s, 3, none⟩ (.slice A222_3 ((ax l0 x5_1).f3).length c222_3)).setCell ⟨s, 4, none⟩ (.slice O ((ax l0 x5_1).f4).length U))).cell? _ = some _ from I)); (try have dE := fun (n_ : Nat) => (show (((((((Z.drewN n_).setCell ⟨s, 0, none⟩ (.string ((ax l0 x5_1).f0))).setCell ⟨s, 1, none⟩ (.int .i64 ((ax l0 x5_1).f1))).setCell ⟨s, 2, none⟩ (.int .i64 ((ax l0 x5_1).f2))).setCell ⟨s, 3, none⟩ (.slice A222_3 ((ax l0 x5_1).f3).length c222_3)).setCell ⟨s, 4, none⟩ (.slice O ((ax l0 x5_1).f4).length U))).cell? _ = some _ from J)); (try have dF := fun (n_ : Nat) => (show (((((((Z.drewN n_).setCell ⟨s, 0, none⟩ (.string ((ax l0 x5_1).f0))).setCell ⟨s, 1, none⟩ (.int .i64 ((ax l0 x5_1).f1))).setCell ⟨s, 2, none⟩ (.int .i64 ((ax l0 x5_1).f2))).setCell ⟨s, 3, none⟩ (.slice A222_3 ((ax l0 x5_1).f3).length c222_3)).setCell ⟨s, 4, none⟩ (.slice O ((ax l0 x5_1).f4).length U))).cell? _ = some _ from M)); clear hn224_0; clear hn224_1; clear hn224_2; clear hn224_3; clear hn224_4; replace aD := bh aD; replace aE := bh aE) | ((with_reducible refine gD 7 ?_); (try (refine dl (Z96) ?_; dsimp only)); refine bxF w 7 #[.string (⟨#[]⟩ : ByteArray), .int .i64 0, .int .i64 0, .slice none 0 0, .slice none 0 0] 82 (Z60) ?_; intro aF hg dG BK225 dH GE225 HB hb; have NB223_225 := aM ((by rw [hg]; exact Nat.ne_of_lt (en (g := s) (o := .cells #[.string ((ax l0 x5_1).f0), .int .i64 ((ax l0 x5_1).f1), .int .i64 ((ax l0 x5_1).f2), .slice A222_3 ((ax l0 x5_1).f3).length c222_3, .slice O ((ax l0 x5_1).f4).length U] 82 (0, 0)) (Z5)) : s ≠ aF)); have aC := aM ((by rw [hg]; exact Nat.ne_of_gt (en (g := s) (o := .cells #[.string ((ax l0 x5_1).f0), .int .i64 ((ax l0 x5_1).f1), .int .i64 ((ax l0 x5_1).f2), .slice A222_3 ((ax l0 x5_1).f3).length c222_3, .slice O ((ax l0 x5_1).f4).length U] 82 (0, 0)) (Z5)) : aF ≠ s)); replace BK223 := aM (ai (g := s) (o := .cells #[.string ((ax l0 x5_1).f0), .int .i64 ((ax l0 x5_1).f1), .int .i64 ((ax l0 x5_1).f2), .slice A222_3 ((ax l0 x5_1).f3).length c222_3, .slice O ((ax l0 x5_1).f4).length U] 82 (0, 0)) (Z5) hb); clear hb hg; have dI := aC.out; have dJ := NB223_225.out; obtain ⟨dK, dL, dM, dN, dO⟩ := bc5 BK225.out; obtain ⟨dP, dQ, dR, dS, zq⟩ := bf5 BK225.out)))
     (try simp only [Act.put, List.setIfInBounds_toArray, List.set_cons_zero, List.set_cons_succ])
     go_cut [65] (fun d4 wc => ∃ (kq : Nat) (bX : Bool), d4 = .bool bX /\ ap (ca.j1 kq l0 l1 x5_1 bX ((ax l0 x5_1).f0) ((ax l0 x5_1).f1) ((ax l0 x5_1).f2) ((ax l0 x5_1).f3) ((ax l0 x5_1).f4) ((ax l1 x5_1).f0) ((ax l1 x5_1).f1) ((ax l1 x5_1).f2) ((ax l1 x5_1).f3) ((ax l1 x5_1).f4) = some r) /\ ap (kq <= k1) /\ ap (wc.heap[s]? = some (.cells #[.string ((ax l0 x5_1).f0), .int .i64 ((ax l0 x5_1).f1), .int .i64 ((ax l0 x5_1).f2), (.slice A222_3 ((ax l0 x5_1).f3).length c222_3), (.slice O ((ax l0 x5_1).f4).length U)] 82 (0, 0))) /\ ap (wc.heap[aF]? = some (.cells #[.string ((ax l1 x5_1).f0), .int .i64 ((ax l1 x5_1).f1), .int .i64 ((ax l1 x5_1).f2), (.slice A224_3 ((ax l1 x5_1).f3).length c224_3), (.slice bI ((ax l1 x5_1).f4).length bJ)] 82 (0, 0))) /\ ap (Below w.heap.size w wc))
     case first =>
      have H := b1.out
      clear b1
      by_cases aL : ((ax l0 x5_1).f0).toList = ((ax l1 x5_1).f0).toList
      ·rw [if_pos aL] at H
       have bL := bf aL
       have b2 := bc aL
       clear aL
       (first | rw [bL] | rw [b2] | (simp only [i64_w, i32_w]; rw [bL]) | skip)
       by_cases aN : ((ax l0 x5_1).f1) = ((ax l1 x5_1).f1)
       ·rw [if_pos aN] at H
        have d5 := bf aN
        have d6 := bc aN
        clear aN
        by_cases aO : ((ax l0 x5_1).f2) = ((ax l1 x5_1).f2)
        ·rw [if_pos aO] at H
         have eA := bf aO
         have eB := bc aO
         clear aO
         by_cases aG : (((ax l0 x5_1).f3).length : Int) = (((ax l1 x5_1).f3).length : Int)
         ·rw [if_pos aG] at H
          have eC := bf aG
          have eD := bc aG
          have eE : (((ax l0 x5_1).f3).length == ((ax l1 x5_1).f3).length) = true := by first | simpa using aG | (simp at aG ⊢; omega)
          clear aG
          have H' := aM H
          clear H
          have eU := NB223_225.out
          have eV := aC.out
          refine bD5 BK223 ?_
          intros
          refine bD5 BK225 ?_
          intros
          go_wp2
          repeat (go_quiet (fail); try go_wp2)
          go_meet
          case rel => exact ⟨_, (((((ax l0 x5_1).f4).length : Int) != (((ax l1 x5_1).f4).length : Int))), (Z3), H', ⟨Z170⟩, ⟨Z20⟩, ⟨Z7⟩, ⟨Z33⟩⟩
         rw [if_neg aG] at H
         have eC := bb aG
         have eD := bg aG
         have eE : (((ax l0 x5_1).f3).length == ((ax l1 x5_1).f3).length) = false := by first | simpa using aG | (simp at aG ⊢; omega)
         have H' := aM H
         clear H
         have eW := NB223_225.out
         have eX := aC.out
         refine bD5 BK223 ?_
         intros
         refine bD5 BK225 ?_
         intros
         go_wp2
         repeat (go_quiet (fail); try go_wp2)
         go_meet
         case rel => exact ⟨_, (true), (Z3), H', ⟨Z170⟩, ⟨Z20⟩, ⟨Z7⟩, ⟨Z33⟩⟩
        rw [if_neg aO] at H
        have eA := bb aO
        have eB := bg aO
        have H' := aM H
        clear H
        have eY := NB223_225.out
        have eZ := aC.out
        refine bD5 BK223 ?_
        intros
        refine bD5 BK225 ?_
        intros
        go_wp2
        repeat (go_quiet (fail); try go_wp2)
        go_meet
        case rel => exact ⟨_, (true), (Z3), H', ⟨Z170⟩, ⟨Z20⟩, ⟨Z7⟩, ⟨Z33⟩⟩
       rw [if_neg aN] at H
       have d5 := bb aN
       have d6 := bg aN
       have H' := aM H
       clear H
       have e0 := NB223_225.out
       have e1 := aC.out
       refine bD5 BK223 ?_
       intros
       refine bD5 BK225 ?_
       intros
       go_wp2
       repeat (go_quiet (fail); try go_wp2)
       go_meet
       case rel => exact ⟨_, (true), (Z3), H', ⟨Z170⟩, ⟨Z20⟩, ⟨Z7⟩, ⟨Z33⟩⟩
      rw [if_neg aL] at H
      have bL := bb aL
      have b2 := bg aL
      (first | rw [bL] | rw [b2] | (simp only [i64_w, i32_w]; rw [bL]) | skip)
      have H' := aM H
      clear H
      have e2 := NB223_225.out
      have e3 := aC.out
      refine bD5 BK223 ?_
      intros
      refine bD5 BK225 ?_
      intros
      go_wp2
      repeat (go_quiet (fail); try go_wp2)
      go_meet
      case rel => exact ⟨_, (true), (Z3), H', ⟨Z170⟩, ⟨Z20⟩, ⟨Z7⟩, ⟨Z33⟩⟩
     case rest =>
      clear b1
      (try clear c1); (try clear c3); (try clear bA); (try clear bB); (try clear bC); (try clear c4); (try clear bU); (try clear c5); (try clear bZ); (try clear c6); (try clear b0); (try clear bD); (try clear bE); (try clear bF); (try clear bG); (try clear bH); (try clear y); (try clear D); (try clear I); (try clear J); (try clear M); (try clear aZ); (try clear aD); (try clear a2); (try clear aE)
      obtain ⟨kq, bX, rfl, HA, a3, BK223, BK225, HB⟩ := hcut
      cases kq with
      | zero => exact absurd HA.out (by simp [ca.j1])
      | succ dU =>
       have H := HA.out
       clear HA
       simp only [ca.j1] at H
       by_cases a5 : bX = true
       ·subst a5
        replace H := ifT H
        obtain rfl := oI H
        go_wp2
        repeat (go_quiet (fail); try go_wp2)
        go_ret
        exact ⟨Z1, Z33⟩
       replace a5 := be a5
       subst a5
       replace H := ifF H
       have H' := aM H
       clear H
       go_wp2
       repeat (go_quiet (fail); try go_wp2)
       go_loopg [8] dU (fun kq v8 w' => ∃ (X : Int), v8 = .int .i64 X /\ ap (ca.l1 kq l0 l1 x5_1 X ((ax l0 x5_1).f0) ((ax l0 x5_1).f1) ((ax l0 x5_1).f2) ((ax l0 x5_1).f3) ((ax l0 x5_1).f4) ((ax l1 x5_1).f0) ((ax l1 x5_1).f1) ((ax l1 x5_1).f2) ((ax l1 x5_1).f3) ((ax l1 x5_1).f4) = some r) /\ ap (kq <= dU) /\ ap (w'.heap[s]? = some (.cells #[.string ((ax l0 x5_1).f0), .int .i64 ((ax l0 x5_1).f1), .int .i64 ((ax l0 x5_1).f2), (.slice A222_3 ((ax l0 x5_1).f3).length c222_3), (.slice O ((ax l0 x5_1).f4).length U)] 82 (0, 0))) /\ ap (w'.heap[aF]? = some (.cells #[.string ((ax l1 x5_1).f0), .int .i64 ((ax l1 x5_1).f1), .int .i64 ((ax l1 x5_1).f2), (.slice A224_3 ((ax l1 x5_1).f3).length c224_3), (.slice bI ((ax l1 x5_1).f4).length bJ)] 82 (0, 0))) /\ ap (Below w.heap.size w w'))
       case atStart => exact ⟨(0), (Z3), H', ⟨bj _⟩, ⟨Z156⟩, ⟨Z157⟩, ⟨Z33⟩⟩
       case round =>
        clear H'
        (try clear c1); (try clear c3); (try clear bA); (try clear bB); (try clear bC); (try clear c4); (try clear bU); (try clear c5); (try clear bZ); (try clear c6); (try clear b0); (try clear a5); (try clear bD); (try clear bE); (try clear bF); (try clear bG); (try clear bH); (try clear y); (try clear D); (try clear I); (try clear J); (try clear M); (try clear aZ); (try clear aD); (try clear a2); (try clear aE)
        obtain ⟨X, rfl, HA, a6, BK223, BK225, HB⟩ := hrel
        cases gk with
        | zero => exact absurd HA.out (by simp [ca.l1])
        | succ k3 =>
         have H := HA.out
         clear HA
         simp only [ca.l1] at H
         by_cases aP : X < (((ax l0 x5_1).f3).length : Int)
         ·rw [if_pos aP] at H
          have dV := az aP
          clear aP
          obtain ⟨dW, H⟩ := ifS H
          have e4 := az dW
          clear dW
          obtain ⟨dX, H⟩ := ifS H
          have e5 := az dX
          clear dX
          by_cases a7 : (!(((ar ((ax l0 x5_1).f3) X).f0) == ((ar ((ax l1 x5_1).f3) X).f0)) || (!(((ar ((ax l0 x5_1).f3) X).f1) == ((ar ((ax l1 x5_1).f3) X).f1)) || (!((((ar ((ax l0 x5_1).f3) X).f2).toList) == (((ar ((ax l1 x5_1).f3) X).f2).toList))))) = true
          ·rw [if_pos a7] at H
           have eG : (!(((ar ((ax l0 x5_1).f3) X).f0) == ((ar ((ax l1 x5_1).f3) X).f0)) || (!(((ar ((ax l0 x5_1).f3) X).f1) == ((ar ((ax l1 x5_1).f3) X).f1)) || (!((((ar ((ax l0 x5_1).f3) X).f2).toList) == (((ar ((ax l1 x5_1).f3) X).f2).toList))))) = true := a7
           clear a7
           obtain rfl := oI H
           have e6 := NB223_225.out
           have e7 := aC.out
           refine bD5 BK223 ?_
           intros
           have aQ : 0 <= (X : Int) := dT (Z4)
           have aR : X < (((ax l0 x5_1).f3).length : Int) := dT (Z4)
           obtain ⟨eH, b7, bM, bN, bO⟩ := ed cM.out X aQ aR
           cases b7
           replace bM := cB HB.out bM
           replace bN := cB HB.out bN
           replace bO := cB HB.out bO
           replace aQ := bh aQ
           replace aR := bh aR
           refine bD5 BK225 ?_
           intros
           have aS : 0 <= (X : Int) := dT (Z4)
           have aT : X < (((ax l1 x5_1).f3).length : Int) := dT (Z4)
           obtain ⟨eI, b8, bP, bQ, bR⟩ := ed bV.out X aS aT
           cases b8
           replace bP := cB HB.out bP
           replace bQ := cB HB.out bQ
           replace bR := cB HB.out bR
           replace aS := bh aS
           replace aT := bh aT
           go_wp2
           repeat (go_quiet (fail); try go_wp2)
           go_ret
           exact ⟨Z1, Z33⟩
          rw [if_neg a7] at H
          have eG : (!(((ar ((ax l0 x5_1).f3) X).f0) == ((ar ((ax l1 x5_1).f3) X).f0)) || (!(((ar ((ax l0 x5_1).f3) X).f1) == ((ar ((ax l1 x5_1).f3) X).f1)) || (!((((ar ((ax l0 x5_1).f3) X).f2).toList) == (((ar ((ax l1 x5_1).f3) X).f2).toList))))) = false := by simpa using a7
          clear a7
          have H' := aM H
          clear H
          have e8 := NB223_225.out
          have e9 := aC.out
          refine bD5 BK223 ?_
          intros
          have aQ : 0 <= (X : Int) := dT (Z4)
          have aR : X < (((ax l0 x5_1).f3).length : Int) := dT (Z4)
          obtain ⟨eH, b7, bM, bN, bO⟩ := ed cM.out X aQ aR
          cases b7
          replace bM := cB HB.out bM
          replace bN := cB HB.out bN
          replace bO := cB HB.out bO
          replace aQ := bh aQ
          replace aR := bh aR
          refine bD5 BK225 ?_
          intros
          have aS : 0 <= (X : Int) := dT (Z4)
          have aT : X < (((ax l1 x5_1).f3).length : Int) := dT (Z4)
          obtain ⟨eI, b8, bP, bQ, bR⟩ := ed bV.out X aS aT
          cases b8
          replace bP := cB HB.out bP
          replace bQ := cB HB.out bQ
          replace bR := cB HB.out bR
          replace aS := bh aS
          replace aT := bh aT
          go_wp2
          repeat (go_quiet (fail); try go_wp2)
          go_roundg k3
          case measure => have := HK1.out; have := a3.out; have := a6.out; omega
          case rel => exact ⟨(wrap64 (X + 1)), (Z3), H', ⟨by have := HK1.out; have := a3.out; have := a6.out; omega⟩, ⟨Z156⟩, ⟨Z157⟩, ⟨Z33⟩⟩
         rw [if_neg aP] at H
         have dV := ba aP
         clear aP
         have H' := aM H
         clear H
         have fA := NB223_225.out
         have fB := aC.out
         refine bD5 BK223 ?_
         intros
         go_wp2
         repeat (go_quiet (fail); try go_wp2)
         go_loopg [9] k3 (fun kq v9 w' => ∃ (Y : Int), v9 = .int .i64 Y /\ ap (ca.l2 kq l0 l1 x5_1 Y ((ax l0 x5_1).f0) ((ax l0 x5_1).f1) ((ax l0 x5_1).f2) ((ax l0 x5_1).f3) ((ax l0 x5_1).f4) ((ax l1 x5_1).f0) ((ax l1 x5_1).f1) ((ax l1 x5_1).f2) ((ax l1 x5_1).f3) ((ax l1 x5_1).f4) = some r) /\ ap (kq <= k3) /\ ap (w'.heap[s]? = some (.cells #[.string ((ax l0 x5_1).f0), .int .i64 ((ax l0 x5_1).f1), .int .i64 ((ax l0 x5_1).f2), (.slice A222_3 ((ax l0 x5_1).f3).length c222_3), (.slice O ((ax l0 x5_1).f4).length U)] 82 (0, 0))) /\ ap (w'.heap[aF]? = some (.cells #[.string ((ax l1 x5_1).f0), .int .i64 ((ax l1 x5_1).f1), .int .i64 ((ax l1 x5_1).f2), (.slice A224_3 ((ax l1 x5_1).f3).length c224_3), (.slice bI ((ax l1 x5_1).f4).length bJ)] 82 (0, 0))) /\ ap (Below w.heap.size w w'))
         case atStart => exact ⟨(0), (Z3), H', ⟨bj _⟩, ⟨Z156⟩, ⟨Z157⟩, ⟨Z33⟩⟩
         case round =>
          clear H'
          (try clear c1); (try clear c3); (try clear bA); (try clear bB); (try clear bC); (try clear c4); (try clear bU); (try clear c5); (try clear bZ); (try clear c6); (try clear b0); (try clear a5); (try clear aP); (try clear dV); (try clear bD); (try clear bE); (try clear bF); (try clear bG); (try clear bH); (try clear y); (try clear D); (try clear I); (try clear J); (try clear M); (try clear aZ); (try clear aD); (try clear a2); (try clear aE)
          obtain ⟨Y, rfl, HA, bY, BK223, BK225, HB⟩ := hrel
          cases gk with
          | zero => exact absurd HA.out (by simp [ca.l2])
          | succ k4 =>
           have H := HA.out
           clear HA
           simp only [ca.l2] at H
           by_cases a8 : Y < (((ax l0 x5_1).f4).length : Int)
           ·rw [if_pos a8] at H
            have eK := az a8
            clear a8
            obtain ⟨dZ, H⟩ := ifS H
            have fC := az dZ
            clear dZ
            obtain ⟨d0, H⟩ := ifS H
            have fD := az d0
            clear d0
            by_cases aU : (gb ByteArray.empty ((ax l0 x5_1).f4) Y).toList = (gb ByteArray.empty ((ax l1 x5_1).f4) Y).toList
            ·rw [if_pos aU] at H
             have eL := bf aU
             have eM := bc aU
             clear aU
             have H' := aM H
             clear H
             have fE := NB223_225.out
             have fF := aC.out
             refine bD5 BK223 ?_
             intros
             have aV : 0 <= (Y : Int) := dT (Z4)
             have aW : Y < (((ax l0 x5_1).f4).length : Int) := dT (Z4)
             obtain ⟨eN, b9, bS⟩ := Kd.at_string cN.out Y aV aW
             cases b9
             replace bS := cB HB.out bS
             replace aV := bh aV
             replace aW := bh aW
             refine bD5 BK225 ?_
             intros
             have aX : 0 <= (Y : Int) := dT (Z4)
             have aY : Y < (((ax l1 x5_1).f4).length : Int) := dT (Z4)
             obtain ⟨eO, cA, bT⟩ := Kd.at_string bW.out Y aX aY
             cases cA
             replace bT := cB HB.out bT
             replace aX := bh aX
             replace aY := bh aY
             go_wp2
             repeat (go_quiet (fail); try go_wp2)
             go_roundg k4
             case measure => have := HK1.out; have := a3.out; have := a6.out; have := bY.out; omega
             case rel => exact ⟨(wrap64 (Y + 1)), (Z3), H', ⟨by have := HK1.out; have := a3.out; have := a6.out; have := bY.out; omega⟩, ⟨Z156⟩, ⟨Z157⟩, ⟨Z33⟩⟩
            rw [if_neg aU] at H
            have eL := bb aU
            have eM := bg aU
            obtain rfl := oI H
            have fG := NB223_225.out
            have fH := aC.out
            refine bD5 BK223 ?_
            intros
            have aV : 0 <= (Y : Int) := dT (Z4)
            have aW : Y < (((ax l0 x5_1).f4).length : Int) := dT (Z4)
            obtain ⟨eN, b9, bS⟩ := Kd.at_string cN.out Y aV aW
            cases b9
            replace bS := cB HB.out bS
            replace aV := bh aV
            replace aW := bh aW
            refine bD5 BK225 ?_
            intros
            have aX : 0 <= (Y : Int) := dT (Z4)
            have aY : Y < (((ax l1 x5_1).f4).length : Int) := dT (Z4)
            obtain ⟨eO, cA, bT⟩ := Kd.at_string bW.out Y aX aY
            cases cA
            replace bT := cB HB.out bT
            replace aX := bh aX
            replace aY := bh aY
            go_wp2
            repeat (go_quiet (fail); try go_wp2)
            go_ret
            exact ⟨Z1, Z33⟩
           rw [if_neg a8] at H
           have eK := ba a8
           clear a8
           have H' := aM H
           clear H
           have fJ := NB223_225.out
           have fK := aC.out
           refine bD5 BK223 ?_
           intros
           go_wp2
           repeat (go_quiet (fail); try go_wp2)
           go_roundg k4
           case measure => have := HK1.out; have := a3.out; have := a6.out; have := bY.out; omega
           case rel => exact ⟨(wrap64 (x5_1 + 1)), (Z3), H', ⟨by have := HK1.out; have := a3.out; have := a6.out; have := bY.out; omega⟩, ⟨Z33⟩⟩
    rw [if_neg c4] at H
    have bU := ba c4
    clear c4
    obtain rfl := oI H
    go_wp2
    repeat (go_quiet (fail); try go_wp2)
    go_ret
    exact ⟨Z1, Z0⟩
 rw [if_neg c3] at H
 have bA := bb c3
 have bB := bg c3
 have bC : (l0.length == l1.length) = false := by first | simpa using c3 | (simp at c3 ⊢; omega)
 obtain rfl := oI H
 go_enter func73, ntmps73
 go_wp2
 repeat (go_quiet (fail); try go_wp2)
 go_ret
 exact ⟨Z1, Z0⟩
mutual
def cx.j0 : Nat -> Bool -> Int -> ByteArray -> Int -> List (S82) -> Option (Bool)
 | 0, _, _, _, _, _ => none
 | k + 1, M, y, s, D, I => if M = true then (some false) else ((ck.f k s).bind fun J => (if J.2.2 = 0 then (cx.j1 k (J.2.1 != (s.size : Int)) y s D I) else (cx.j1 k true y s D I)))
def cx.j1 : Nat -> Bool -> Int -> ByteArray -> Int -> List (S82) -> Option (Bool)
 | 0, _, _, _, _, _ => none
 | k + 1, y, M, D, O, I => if y = true then (some false) else ((gv.f k D).bind fun s => (if s.2.2 = 0 then ((ca.f k s.1 I).bind fun J => (some J)) else (some false)))
end
def cx.f (k : Nat) (D : Int) (s : ByteArray) (y : Int) (l0_3 : List (S82)) : Option (Bool) := (spec_LogOK.f D s y).bind fun I => (if I = true then (if y = (s.size : Int) then ((cy.f k l0_3).bind fun J => (cx.j0 k (!J) D s y l0_3)) else (cx.j0 k true D s y l0_3)) else (cx.j0 k true D s y l0_3))
theorem cx.calls (k : Nat) (D : Int) (s : ByteArray) (y : Int) (U : Option Addr) (X : Nat) (l0_3 : List (S82)) (r : Bool) (w : World) (aB : Kd.C k82 w U l0_3.length l0_3) (aC : l0_3.length <= X) (h : cx.f k D s y l0_3 = some r) :
  Calls prog 36 #[.agg #[.int .i64 D, .string s, .int .i64 y, .slice U l0_3.length X]] w fun e w' => e = .returned (.bool r) /\ Below w.heap.size w w' := by
 have bA := underlying35
 have bB := underlying32
 replace aB := aM aB
 replace aC := aM aC
 have HB := aM (bi w.heap.size w)
 have H := h
 clear h
 unfold cx.f at H
 have aF := aM H
 clear H
 go_enter func36, ntmps36
 go_upto_region 1 with (first | ((with_reducible refine gD 1 ?_); (try (refine dl (Z96) ?_; dsimp only)); refine bxF w 1 #[.int .i64 D, .string s, .int .i64 y, .slice U l0_3.length X] 35 (Z0) ?_; intro aO hg w3 BK230 bC GE230 HB hb; clear hb hg))
 (try simp only [Act.put, List.setIfInBounds_toArray, List.set_cons_zero, List.set_cons_succ])
 go_cut [28] (fun aV wc => ∃ (kq : Nat) (aD : Bool), aV = .bool aD /\ ap (cx.j0 kq aD D s y l0_3 = some r) /\ ap (kq <= k) /\ ap (wc.heap[aO]? = some (.cells #[.int .i64 D, .string s, .int .i64 y, (.slice U l0_3.length X)] 35 (0, 0))) /\ ap (Below w.heap.size w wc))
 case first =>
  have H := aF.out
  clear aF
  obtain ⟨aW, A4, H⟩ := cz H
  try dsimp only at H
  by_cases c5 : aW = true
  ·subst c5
   replace H := ifT H
   by_cases c6 : y = (s.size : Int)
   ·rw [if_pos c6] at H
    have Y := bf c6
    have aH := bc c6
    clear c6
    (first | rw [Y] | rw [aH] | (simp only [i64_w, i32_w]; rw [Y]) | skip)
    obtain ⟨aP, A7, H⟩ := cz H
    try dsimp only at H
    have H' := aM H
    clear H
    refine bD4 BK230 ?_
    intros
    go_wp2_with (first | ((with_reducible refine gC 69 ?_); refine gL 11 func69 #[.agg #[.int .i64 D, .string s, .int .i64 y]] ?_; (with_reducible refine (spec_LogOK.calls D s y true _ A4.out).mono ?_); rintro e w9 ⟨rfl, hb⟩; refine ⟨_, rfl, ?_⟩; replace BK230 := aM (kB BK230 (Z57) hb); replace HB := aM (ae (Z25) hb); (try clear hb); refine bD4 BK230 ?_; intros) | (go_at_call 70; (with_reducible refine (cy.calls k _ _ l0_3 aP _ ?Y1 ?Y2 A7.out).mono ?_); (case Y1 => have h_ := Kd.C_below aB.out HB.out; exact tC); (case Y2 => exact aC.out); rintro e bE ⟨rfl, hb⟩; replace BK230 := aM (kB BK230 (Z57) hb); replace HB := aM (ae (Z25) hb); (try clear hb)))
    go_meet
    case rel => exact ⟨_, (!aP), (Z3), H', ⟨Z82⟩, ⟨Z57⟩, ⟨Z25⟩⟩
   rw [if_neg c6] at H
   have Y := bb c6
   have aH := bg c6
   (first | rw [Y] | rw [aH] | (simp only [i64_w, i32_w]; rw [Y]) | skip)
   have H' := aM H
   clear H
   refine bD4 BK230 ?_
   intros
   go_wp2_with (first | ((with_reducible refine gC 69 ?_); refine gL 11 func69 #[.agg #[.int .i64 D, .string s, .int .i64 y]] ?_; (with_reducible refine (spec_LogOK.calls D s y true _ A4.out).mono ?_); rintro e bF ⟨rfl, hb⟩; refine ⟨_, rfl, ?_⟩; replace BK230 := aM (kB BK230 (Z57) hb); replace HB := aM (ae (Z25) hb); (try clear hb); refine bD4 BK230 ?_; intros))
   go_meet
   case rel => exact ⟨_, (true), (Z3), H', ⟨Z82⟩, ⟨Z57⟩, ⟨Z25⟩⟩
  replace c5 := be c5
  subst c5
  replace H := ifF H
  have H' := aM H
  clear H
  refine bD4 BK230 ?_
  intros
  go_wp2_with (first | ((with_reducible refine gC 69 ?_); refine gL 11 func69 #[.agg #[.int .i64 D, .string s, .int .i64 y]] ?_; (with_reducible refine (spec_LogOK.calls D s y false _ A4.out).mono ?_); rintro e bG ⟨rfl, hb⟩; refine ⟨_, rfl, ?_⟩; replace BK230 := aM (kB BK230 (Z57) hb); replace HB := aM (ae (Z25) hb); (try clear hb)))
  go_meet
  case rel => exact ⟨_, (true), (Z3), H', ⟨Z82⟩, ⟨Z57⟩, ⟨Z25⟩⟩
 case rest =>
  clear aF
  obtain ⟨kq, aD, rfl, HA, HJ1, BK230, HB⟩ := hcut
  cases kq with
  | zero => exact absurd HA.out (by simp [cx.j0])
  | succ aQ =>
   have H := HA.out
   clear HA
   simp only [cx.j0] at H
   by_cases Z : aD = true
   ·subst Z
    replace H := ifT H
    obtain rfl := oI H
    go_wp2
    go_ret
    exact ⟨Z1, Z25⟩
   replace Z := be Z
   subst Z
   replace H := ifF H
   obtain ⟨⟨aY, aR, aS⟩, aZ, H⟩ := cz H
   try dsimp only at H
   have aI := aM H
   clear H
   refine bD4 BK230 ?_
   intros
   go_upto_region 4 with (first | ((with_reducible refine gC 71 ?_); refine gL 33 func71 #[.string s] ?_; (with_reducible refine (ck.calls aQ s aY aR aS _ aZ.out).mono ?_); rintro e bH ⟨bI, rfl, I, hb⟩; refine ⟨_, rfl, ?_⟩; have bJ := aM (Kd.R_lower I (ct (Z25))); replace BK230 := aM (kB BK230 (Z57) hb); replace HB := aM (ae (Z25) hb); (try clear hb); (try clear I)))
   (try simp only [Act.put, List.setIfInBounds_toArray, List.set_cons_zero, List.set_cons_succ])
   go_cut [46] (fun a2 wc => ∃ (kq : Nat) (aE : Bool), a2 = .bool aE /\ ap (cx.j1 kq aE D s y l0_3 = some r) /\ ap (kq <= aQ) /\ ap (wc.heap[aO]? = some (.cells #[.int .i64 D, .string s, .int .i64 y, (.slice U l0_3.length X)] 35 (0, 0))) /\ ap (Below w.heap.size w wc))
   case first =>
    have H := aI.out
    clear aI
    by_cases J : aS = 0
    ·rw [if_pos J] at H
     have aA := bf J
     have aJ := bc J
     clear J
     (first | rw [aA] | rw [aJ] | (simp only [i64_w, i32_w]; rw [aA]) | skip)
     have H' := aM H
     clear H
     refine bD4 BK230 ?_
     intros
     go_wp2
     go_meet
     case rel => exact ⟨_, ((aR != (s.size : Int))), (Z3), H', ⟨Z194⟩, ⟨Z57⟩, ⟨Z25⟩⟩
    rw [if_neg J] at H
    have aA := bb J
    have aJ := bg J
    (first | rw [aA] | rw [aJ] | (simp only [i64_w, i32_w]; rw [aA]) | skip)
    have H' := aM H
    clear H
    go_wp2
    go_meet
    case rel => exact ⟨_, (true), (Z3), H', ⟨Z194⟩, ⟨Z57⟩, ⟨Z25⟩⟩
   case rest =>
    clear aI
    (try clear Z)
    obtain ⟨kq, aE, rfl, HA, bK, BK230, HB⟩ := hcut
    cases kq with
    | zero => exact absurd HA.out (by simp [cx.j1])
    | succ aK =>
     have H := HA.out
     clear HA
     simp only [cx.j1] at H
     by_cases c24 : aE = true
     ·subst c24
      replace H := ifT H
      obtain rfl := oI H
      go_wp2
      go_ret
      exact ⟨Z1, Z25⟩
     replace c24 := be c24
     subst c24
     replace H := ifF H
     obtain ⟨⟨aL, aT, aN⟩, aU, H⟩ := cz H
     try dsimp only at H
     by_cases M : aN = 0
     ·rw [if_pos M] at H
      have a3 := bf M
      have a5 := bc M
      clear M
      obtain ⟨a6, a7, H⟩ := cz H
      try dsimp only at H
      obtain rfl := oI H
      refine bD4 BK230 ?_
      intros
      go_wp2_with (first | ((with_reducible refine gC 72 ?_); refine gL 51 func72 #[.string s] ?_; (with_reducible refine (gv.calls aK s aL aT aN _ aU.out).mono ?_); rintro e bL ⟨a8, rfl, I, hb⟩; refine ⟨_, rfl, ?_⟩; have O := aM (Kd.S_lower I (ct (Z25))); replace BK230 := aM (kB BK230 (Z57) hb); replace HB := aM (ae (Z25) hb); (try clear hb); (try clear I); refine bD4 BK230 ?_; intros; obtain ⟨bM, bN, a9⟩ := Kd.S_slice O.out; subst a9) | (go_at_call 73; (with_reducible refine (ca.calls aK _ _ aL _ _ l0_3 a6 _ ?Y1 ?Y2 ?Y3 ?Y4 a7.out).mono ?_); (case Y1 => have h_ := (Kd.S_reads' O.out).2.2; exact tC); (case Y2 => exact (Kd.S_reads' O.out).2.1); (case Y3 => have h_ := Kd.C_below aB.out HB.out; exact tC); (case Y4 => exact aC.out); rintro e bO ⟨rfl, hb⟩; replace O := aM (Kd.S_below (by (with_reducible repeat (first | apply Kd.S_alloc | apply Kd.S_drewN | apply Kd.S_drew)); exact O.out) hb); replace BK230 := aM (kB BK230 (Z57) hb); replace HB := aM (ae (Z25) hb); (try clear hb)))
      go_ret
      exact ⟨Z1, Z25⟩
     rw [if_neg M] at H
     have a3 := bb M
     have a5 := bg M
     obtain rfl := oI H
     refine bD4 BK230 ?_
     intros
     go_wp2_with (first | ((with_reducible refine gC 72 ?_); refine gL 51 func72 #[.string s] ?_; (with_reducible refine (gv.calls aK s aL aT aN _ aU.out).mono ?_); rintro e bP ⟨a8, rfl, I, hb⟩; refine ⟨_, rfl, ?_⟩; have O := aM (Kd.S_lower I (ct (Z25))); replace BK230 := aM (kB BK230 (Z57) hb); replace HB := aM (ae (Z25) hb); (try clear hb); (try clear I)))
     go_ret
     exact ⟨Z1, Z25⟩
def spec_l10Ask.f (k : Nat) (s : Int) (y : ByteArray) (D : Int) (l0_3 : List (S82)) (I : Int) (J : Int) (M : Int) (O : Int) (U : ByteArray) (X : List (S84)) : Option (Int) := (cx.f k s y D l0_3).bind fun Y => (if Y = true then ((ci.f k I J M O U X).bind fun Z => (if Z = true then (some 0) else (some 1))) else (some 1))
theorem spec_l10Ask.calls (k : Nat) (s : Int) (y : ByteArray) (D : Int) (J : Option Addr) (M : Nat) (l0_3 : List (S82)) (O : Int) (U : Int) (X : Int) (Y : Int) (Z : ByteArray) (aA : Option Addr) (aB : Nat) (I : List (S84)) (r : Int) (w : World) (aC : Kd.C k82 w J l0_3.length l0_3) (aD : l0_3.length <= M) (aG : Kd.C k84 w aA I.length I) (aH : I.length <= aB) (h : spec_l10Ask.f k s y D l0_3 O U X Y Z I = some r) :
  Calls prog 18 #[.agg #[.int .i64 s, .string y, .int .i64 D, .slice J l0_3.length M], .agg #[.int .i64 O, .int .i64 U, .int .i64 X, .int .i64 Y, .string Z, .slice aA I.length aB]] w fun e w' => e = .returned (.int .i64 r) /\ Below w.heap.size w w' := by
 have aR := underlying35
 have aS := underlying41
 replace aC := aM aC
 replace aD := aM aD
 replace aG := aM aG
 replace aH := aM aH
 have HB := aM (bi w.heap.size w)
 have H := h
 clear h
 unfold spec_l10Ask.f at H
 obtain ⟨aP, A3, H⟩ := cz H
 try dsimp only at H
 by_cases c4 : aP = true
 ·subst c4
  replace H := ifT H
  obtain ⟨aQ, A5, H⟩ := cz H
  try dsimp only at H
  by_cases c6 : aQ = true
  ·subst c6
   replace H := ifT H
   obtain rfl := oI H
   go_enter func18, ntmps18
   go_wp2_with (first | ((with_reducible refine gD 2 ?_); refine bxF w 2 #[.int .i64 s, .string y, .int .i64 D, .slice J l0_3.length M] 35 (Z0) ?_; intro aK hg w7 BK244 aL GE244 HB hb; clear hb hg) | ((with_reducible refine gD 3 ?_); refine bxF w 3 #[.int .i64 O, .int .i64 U, .int .i64 X, .int .i64 Y, .string Z, .slice aA I.length aB] 41 (Z61) ?_; intro aN hg w8 BK245 aO GE245 HB hb; have aE := aM ((nL BK244 hg (Z51))); have aF := aM ((nG BK244 hg (Z51))); replace BK244 := aM (kB BK244 (Z51) hb); clear hb hg; have aU := aE.out; have aV := aF.out; refine bD4 BK244 ?_; intros) | ((with_reducible refine gC 36 ?_); refine gL 6 func36 #[.agg #[.int .i64 s, .string y, .int .i64 D, .slice J l0_3.length M]] ?_; (with_reducible refine (cx.calls k s y D _ _ l0_3 true _ ?Y1 ?Y2 A3.out).mono ?_); (case Y1 => have h_ := Kd.C_below aC.out HB.out; exact tC); (case Y2 => exact aD.out); rintro e aW ⟨rfl, hb⟩; refine ⟨_, rfl, ?_⟩; replace BK244 := aM (kB BK244 (Z51) hb); replace BK245 := aM (kB BK245 (Z113) hb); replace HB := aM (ae (Z54) hb); (try clear hb); refine bD6 BK245 ?_; intros) | (go_at_call 37; (with_reducible refine (ci.calls k O U X Y Z _ _ I true _ ?Y1 ?Y2 A5.out).mono ?_); (case Y1 => have h_ := Kd.C_below aG.out HB.out; exact tC); (case Y2 => exact aH.out); rintro e aX ⟨rfl, hb⟩; replace BK244 := aM (kB BK244 (Z51) hb); replace BK245 := aM (kB BK245 (Z113) hb); replace HB := aM (ae (Z54) hb); (try clear hb)))
   go_ret
   exact ⟨Z1, Z54⟩
  replace c6 := be c6
  subst c6
  replace H := ifF H
  obtain rfl := oI H
  go_enter func18, ntmps18
  go_wp2_with (first | ((with_reducible refine gD 2 ?_); refine bxF w 2 #[.int .i64 s, .string y, .int .i64 D, .slice J l0_3.length M] 35 (Z0) ?_; intro aK hg aY BK244 aL GE244 HB hb; clear hb hg) | ((with_reducible refine gD 3 ?_); refine bxF w 3 #[.int .i64 O, .int .i64 U, .int .i64 X, .int .i64 Y, .string Z, .slice aA I.length aB] 41 (Z61) ?_; intro aN hg aZ BK245 aO GE245 HB hb; have aE := aM ((nL BK244 hg (Z51))); have aF := aM ((nG BK244 hg (Z51))); replace BK244 := aM (kB BK244 (Z51) hb); clear hb hg; have a2 := aE.out; have a3 := aF.out; refine bD4 BK244 ?_; intros) | ((with_reducible refine gC 36 ?_); refine gL 6 func36 #[.agg #[.int .i64 s, .string y, .int .i64 D, .slice J l0_3.length M]] ?_; (with_reducible refine (cx.calls k s y D _ _ l0_3 true _ ?Y1 ?Y2 A3.out).mono ?_); (case Y1 => have h_ := Kd.C_below aC.out HB.out; exact tC); (case Y2 => exact aD.out); rintro e a5 ⟨rfl, hb⟩; refine ⟨_, rfl, ?_⟩; replace BK244 := aM (kB BK244 (Z51) hb); replace BK245 := aM (kB BK245 (Z113) hb); replace HB := aM (ae (Z54) hb); (try clear hb); refine bD6 BK245 ?_; intros) | (go_at_call 37; (with_reducible refine (ci.calls k O U X Y Z _ _ I false _ ?Y1 ?Y2 A5.out).mono ?_); (case Y1 => have h_ := Kd.C_below aG.out HB.out; exact tC); (case Y2 => exact aH.out); rintro e a6 ⟨rfl, hb⟩; replace BK244 := aM (kB BK244 (Z51) hb); replace BK245 := aM (kB BK245 (Z113) hb); replace HB := aM (ae (Z54) hb); (try clear hb)))
  go_ret
  exact ⟨Z1, Z54⟩
 replace c4 := be c4
 subst c4
 replace H := ifF H
 obtain rfl := oI H
 go_enter func18, ntmps18
 go_wp2_with (first | ((with_reducible refine gD 2 ?_); refine bxF w 2 #[.int .i64 s, .string y, .int .i64 D, .slice J l0_3.length M] 35 (Z0) ?_; intro aK hg a7 BK244 aL GE244 HB hb; clear hb hg) | ((with_reducible refine gD 3 ?_); refine bxF w 3 #[.int .i64 O, .int .i64 U, .int .i64 X, .int .i64 Y, .string Z, .slice aA I.length aB] 41 (Z61) ?_; intro aN hg a8 BK245 aO GE245 HB hb; have aE := aM ((nL BK244 hg (Z51))); have aF := aM ((nG BK244 hg (Z51))); replace BK244 := aM (kB BK244 (Z51) hb); clear hb hg; have a9 := aE.out; have bA := aF.out; refine bD4 BK244 ?_; intros) | ((with_reducible refine gC 36 ?_); refine gL 6 func36 #[.agg #[.int .i64 s, .string y, .int .i64 D, .slice J l0_3.length M]] ?_; (with_reducible refine (cx.calls k s y D _ _ l0_3 false _ ?Y1 ?Y2 A3.out).mono ?_); (case Y1 => have h_ := Kd.C_below aC.out HB.out; exact tC); (case Y2 => exact aD.out); rintro e bB ⟨rfl, hb⟩; refine ⟨_, rfl, ?_⟩; replace BK244 := aM (kB BK244 (Z51) hb); replace BK245 := aM (kB BK245 (Z113) hb); replace HB := aM (ae (Z54) hb); (try clear hb)))
 go_ret
 exact ⟨Z1, Z54⟩
def spec_l10Own.f (k : Nat) (s : Int) (y : ByteArray) (D : Int) (l0_3 : List (S82)) : Option (Int × ByteArray × Int × (List (S82))) := (du.f k l0_3).bind fun I => (some (s, y, D, I))
theorem spec_l10Own.calls (k : Nat) (s : Int) (y : ByteArray) (D : Int) (I : Option Addr) (J : Nat) (l0_3 : List (S82)) (Y : Int) (Z : ByteArray) (r3 : Int) (r4 : List (S82)) (w : World) (O : Kd.C k82 w I l0_3.length l0_3) (U : l0_3.length <= J) (h : spec_l10Own.f k s y D l0_3 = some (Y, Z, r3, r4)) :
  Calls prog 20 #[.agg #[.int .i64 s, .string y, .int .i64 D, .slice I l0_3.length J]] w fun e w' => ∃ v3_ : Value, e = .returned (.agg #[.int .i64 Y, .string Z, .int .i64 r3, v3_]) /\ Kd.S k82 82 w' w.heap.size (fun _ => True) v3_ r4 /\ Below w.heap.size w w' := by
 have aN := underlying35
 replace O := aM O
 replace U := aM U
 have HB := aM (bi w.heap.size w)
 have H := h
 clear h
 unfold spec_l10Own.f at H
 obtain ⟨X, A2, H⟩ := cz H
 try dsimp only at H
 simp only [Option.some.injEq, Prod.mk.injEq] at H
 obtain ⟨rfl, rfl, rfl, rfl⟩ := H
 go_enter func20, ntmps20
 go_wp2_with (first | ((with_reducible refine gD 1 ?_); refine bxF w 1 #[.int .i64 s, .string y, .int .i64 D, .slice I l0_3.length J] 35 (Z0) ?_; intro aH hg w3 BK248 aO GE248 HB hb; clear hb hg) | ((with_reducible refine gD 2 ?_); refine bxF w 2 #[.int .i64 0, .string (⟨#[]⟩ : ByteArray), .int .i64 0, .slice none 0 0] 35 (Z143) ?_; intro aI hg w4 M aP GE249 HB hb; have aJ := aM ((nL BK248 hg (Z158))); have aK := aM ((nG BK248 hg (Z158))); replace BK248 := aM (kB BK248 (Z158) hb); clear hb hg; have aQ := aJ.out; have aR := aK.out; refine bD4 BK248 ?_; intros) | ((with_reducible refine gC 42 ?_); refine gL 5 func42 #[.slice I l0_3.length J] ?_; (with_reducible refine (du.calls k _ _ l0_3 X _ ?Y1 ?Y2 A2.out).mono ?_); (case Y1 => have h_ := Kd.C_below O.out HB.out; exact tC); (case Y2 => exact U.out); rintro e w7 ⟨aS, rfl, aC, hb⟩; refine ⟨_, rfl, ?_⟩; have aD := aM (Kd.S_lower aC (ct (Z116))); replace BK248 := aM (kB BK248 (Z158) hb); replace M := aM (kB M zB hb); replace HB := aM (ae (Z116) hb); (try clear hb); (try clear aC); obtain ⟨aE, aF, aL⟩ := Kd.S_slice aD.out; subst aL; refine bD4 BK248 ?_; intros; refine bD4 M ?_; intros))
 refine bodyPost_ret (results_cell_row rfl _ _ aI 35 #[.int .i64 s, .string y, .int .i64 D, .slice aE X.length aF] (0, 0) _ rfl zB underlying35 rfl (Z16)) rfl ?_
 exact ⟨_, Z1, by (with_reducible repeat (first | apply Kd.S_alloc | apply Kd.S_drewN | apply Kd.S_drew)); exact Kd.S_mono (sF 3 (sF 2 (sF 1 (sF 0 (Kd.S_far (p := ⟨aH, 3, none⟩) (Kd.S_types (Kd.S_types aD.out BK248.out (Z68)) M.out (Z68)) (fun _ hk => hk.1.2) (.slice aE X.length aF)))))) (fun _ hk => trivial), Z116⟩
def ea.l0 : Nat -> Int -> List Int -> Int -> Option (List Int)
 | 0, _, _, _ => none
 | k + 1, x0, x5, x6 => if x6 ≥ 0 then (if 0 <= (IntKind.u64.wrap (wrap64 (8 * x6))) then (if x5.length < 140737488355328 then (ea.l0 k x0 (x5 ++ [(shr .i64 x0 (IntKind.u64.wrap (wrap64 (8 * x6)))) % 256]) (wrap64 (x6 - 1))) else (none)) else (none)) else (some x5)
def ea.f (k : Nat) (a0 : Int) (a1 : Int) : Option (List Int) := ea.l0 k a0 (([] : List Int)) (wrap64 (a1 - 1))
theorem ea.calls (k : Nat) (a0 : Int) (a1 : Int) (r : List Int) (w : World) (h : ea.f k a0 a1 = some r) :
  Calls prog 80 #[.int .i64 a0, .int .i64 a1] w fun e w' => ∃ v0_ : Value, e = .returned (v0_) /\ Kd.R (Kd.int .u8) 5 w' w.heap.size (fun _ => True) v0_ r /\ Below w.heap.size w w' := by
 have HB := aM (bi w.heap.size w)
 have H := h
 clear h
 unfold ea.f at H
 obtain ⟨X, I⟩ : ∃ y_ : List Int, y_ = (([] : List Int)) := ⟨_, rfl⟩
 replace H : (ea.l0 k a0 X (wrap64 (a1 - 1))) = some r := by first | (rw [I]; with_reducible exact H) | (have H2_ := (Option.bind_some _ _).symm.trans H; rw [I]; with_reducible exact H2_) | (have H2_ := (Option.bind_some _ _).symm.trans H; with_reducible exact H2_) | with_reducible exact H | (rw [I]; exact H) | exact H
 have Y := aM I
 clear I
 have H' := aM H
 clear H
 go_enter func80, ntmps80
 go_wp2_with (first | ((with_reducible refine gD 7 ?_); refine Kd.R_lit (Kd.int .u8) _ 5 ?hg (N := 7) ?hd (xs := ([] : List Int)) (inner := []) (ok := fun _ => True) (okp := fun _ => True) ?hr ?hp (fun _ hk => hk) trivial (bi _ _) (bj _) (fg) ?_; (case hd => rfl); (case hg => rfl); (case hr => first | (go_simp; done) | (go_simp; rfl)); (case hp => exact (fc.none _ _)); intro aK w3 J hb hg_ hnew_; clear hg_ hnew_; (first | rw [← Y.out] at J | (simp only [Int.reduceToNat] at J; rw [← Y.out] at J)); have aC := aM (Kd.R_lower J (ct (Z0))); replace HB := aM (ae (Z0) hb); clear hb J))
 go_loopg [5, 6] k (fun kq v5 v6 w' => ∃ (x5_1 : List Int) (s : Int), v6 = .int .i64 s /\ ap (ea.l0 kq a0 x5_1 s = some r) /\ ap (kq <= k) /\ ap (Kd.R (Kd.int .u8) 5 w' w.heap.size (fun _ => True) v5 x5_1) /\ ap (Below w.heap.size w w'))
 case atStart => exact ⟨(X), (wrap64 (a1 - 1)), (Z3), H', ⟨bj _⟩, ⟨by (with_reducible repeat (first | apply Kd.R_alloc | apply Kd.R_drewN | apply Kd.R_drew)); exact aC.out⟩, ⟨Z0⟩⟩
 case round =>
  clear H'
  obtain ⟨x5_1, s, rfl, HA, HK1, HO_5, HB⟩ := hrel
  cases gk with
  | zero => exact absurd HA.out (by simp [ea.l0])
  | succ O =>
   have H := HA.out
   clear HA
   simp only [ea.l0] at H
   by_cases c5 : s ≥ 0
   ·rw [if_pos c5] at H
    have aG : decide (0 <= s) = true := az c5
    clear c5
    obtain ⟨y, Z⟩ : ∃ j_ : Int, (IntKind.u64.wrap (wrap64 (8 * s))) = j_ := ⟨_, rfl⟩
    replace H : (if 0 <= (y) then (if x5_1.length < 140737488355328 then (ea.l0 O a0 (x5_1 ++ [(shr .i64 a0 (y)) % 256]) (wrap64 (s - 1))) else (none)) else (none)) = some r := by first | (rw [Z] at H; exact H) | (simp only [Z] at H ⊢; exact H)
    obtain ⟨c7, H⟩ := ifS H
    have aN := bh c7
    have aQ : decide (0 <= (y)) = true := az c7
    clear c7
    obtain ⟨D, U⟩ : ∃ j_ : Int, (shr .i64 a0 (y)) = j_ := ⟨_, rfl⟩
    replace H : (if x5_1.length < 140737488355328 then (ea.l0 O a0 (x5_1 ++ [(D) % 256]) (wrap64 (s - 1))) else (none)) = some r := by first | (rw [U] at H; exact H) | (simp only [U] at H ⊢; exact H)
    have hji8_ : (a0 / 2 ^ min (y).toNat 64) = D := U
    have hji8z : (y) <= 64 -> (a0 / 2 ^ (y).toNat) = D := shr_small U
    obtain ⟨c9, H⟩ := ifS H
    have aH := aM c9
    clear c9
    obtain ⟨aA, M⟩ : ∃ y_ : List Int, y_ = (x5_1 ++ [(D) % 256]) := ⟨_, rfl⟩
    replace H : (ea.l0 O a0 aA (wrap64 (s - 1))) = some r := by first | (rw [M]; with_reducible exact H) | (have H2_ := (Option.bind_some _ _).symm.trans H; rw [M]; with_reducible exact H2_) | (have H2_ := (Option.bind_some _ _).symm.trans H; with_reducible exact H2_) | with_reducible exact H | (rw [M]; exact H) | exact H
    have aI := aM M
    clear M
    have H' := aM H
    clear H
    go_wp2_with (first | ((with_reducible refine gate_builtin (b := .append) (xs := #[.tmp 14, .tmp 21]) rfl ?_); at_builtin; refine Kd.R_append (Kd.int .u8) (w0 := w) w.heap.size rfl (.tmp 14) (.tmp 21) 74 5 (.int .u8 0) 1 rfl underlying74 info5 rfl (Z68) (Z31) u5 x5_1 ((D) % 256) [.int .u8 ((D) % 256)] (fun _ => True) (fun _ => False) rfl rfl ?aP (fun _ hk => hk.elim) ?aF ?aO ?aB ?aS ?aL ?_; (case aP => exact rfl); (case aB => exact (Z0)); (case aF => exact (fun _ _ => trivial)); (case aO => exact (Z66)); (case aS => exact (ct (Z0))); (case aL => have := aH.out; omega); intro aR aT ho hb hg hat; rw [← aI.out] at ho; have n0_ := aM (hb); have n1_ := aM (ho); clear HB; clear HO_5; have HB := n0_; have aJ := n1_; clear n0_ n1_; clear ho hb hg hat))
    go_roundg O
    case measure => have := HK1.out; omega
    case rel => exact ⟨(aA), (wrap64 (s - 1)), (Z3), H', ⟨Z85⟩, ⟨by (with_reducible repeat (first | apply Kd.R_alloc | apply Kd.R_drewN | apply Kd.R_drew)); exact aJ.out⟩, ⟨Z0⟩⟩
   rw [if_neg c5] at H
   have aG : decide (0 <= s) = false := ba c5
   clear c5
   obtain rfl := oI H
   go_wp2
   go_ret
   exact ⟨_, Z1, Z66, Z0⟩
section
variable {P : Program} {ops : Array Oper} {o : Oper} {a : Act} {Q : Exit -> Act -> World -> Prop} {Kc : Act -> World -> Prop} {E : Prop}
theorem gateR {A : Prop} (N : Tmp) (_hd : o.dst = some N) (h : if Region.wanted o (yielded ops a.tmps) = true then A else E) : if Region.wanted o (yielded ops a.tmps) = true then A else E := h
theorem bytes_append_str_step {w0 W : World} (base : Nat) (hw : Region.wanted o (yielded ops a.tmps) = true) (s x : Operand) (t u e : TypeId)
  (ho : o.op = .call { callee := .builtin .append, args := #[s, x], argTypes := #[t, u] })
  (ht : P.underlying t = some (.slice e)) (hu : P.underlying u = some .string) (hinfo : (P.info? e).map (fun i => (i.zero, i.size, i.bytes)) = some (some (.int .u8 0), 1, 1))
  (v : Value) (xs : List Int) (y : ByteArray) (hs : a.eval s = v) (hx : a.eval x = .string y)
  (HO : Kd.R (Kd.int .u8) e W base (fun _ => True) v xs) (HB : Below base w0 W) (hbase : base <= W.heap.size) (hl : xs.length + y.size <= 140737488355328)
  (h : ∀ D w1, Kd.R (Kd.int .u8) e w1 base (fun _ => True) D (xs ++ bytesOf y) -> Below base w0 w1 -> W.grownBy w1 v.ownBlock -> Kc (a.put o.dst D) w1) :
  if Region.wanted o (yielded ops a.tmps) = true then Oper.wp P o a W Kc Q else E := by
 rw [if_pos hw]
 obtain ⟨i0, hi, hzz⟩ := Option.map_eq_some_iff.1 hinfo
 simp only [Prod.mk.injEq] at hzz
 obtain ⟨J, M, O⟩ := hzz
 have HO' := Kd.own_of_R HO
 obtain ⟨v', w', hr, h2, I, U⟩ := Lib.run_append_own_string (P := P) W base t u o.type e i0 ht hu hi J M O v xs.length _ HO' y (by simp only [maxLen]; omega) hl hbase
 unfold Oper.wp execOp
 simp only [ho, resolve, invoke, builtin, Sem.run_bind, Sem.run_pure, Result.andThen_ok, List.map_toArray, List.map_cons, List.map_nil, hs, hx, hr]
 refine h v' w' (Kd.R_of_own (h1 := fun _ => rfl) ?_ (fun _ _ => trivial)) (HB.grown I hbase (own_base HO')) I
 have hc : encs (Value.int .u8) (xs ++ bytesOf y) = encs (Value.int .u8) xs ++ Lib.strCells y := by
  rw [encs_append]
  congr 1
  simp [encs, bytesOf, Lib.strCells]
 rw [hc, List.length_append, bytesOf_length]
 exact h2
end
def be2 (n : Int) : List Int := [n / 256, n % 256]
def itemL (x : S84) : List Int := be2 x.f0.size ++ be2 x.f1.size ++ bytesOf x.f0 ++ bytesOf x.f1
def headL (kind uid mode flags : Int) (nm : ByteArray) (n : Nat) : List Int := [kind, mode, flags, (n : Int), (nm.size : Int)] ++ be2 uid ++ bytesOf nm
def mutBytesL (kind uid mode flags : Int) (nm : ByteArray) (l : List S84) : List Int := headL kind uid mode flags nm l.length ++ l.flatMap itemL
def MutIn (kind uid mode flags : Int) (nm : ByteArray) (l : List S84) : Prop :=
 0 <= kind /\ kind < 256 /\ 0 <= uid /\ uid < 65536 /\ 0 <= mode /\ mode < 256 /\ 0 <= flags /\ flags < 256 /\ nm.size < 256 /\ l.length < 256 /\ ∀ x ∈ l, x.f0.size < 65536 /\ x.f1.size < 65536
instance (kind uid mode flags : Int) (nm : ByteArray) (l : List S84) : Decidable (MutIn kind uid mode flags nm l) := by unfold MutIn; infer_instance
theorem itemL_length (x : S84) : (itemL x).length = 4 + x.f0.size + x.f1.size := by simp [itemL, be2, bytesOf_length]; omega
theorem items_length (l : List S84) (h : ∀ x ∈ l, x.f0.size < 65536 /\ x.f1.size < 65536) : (l.flatMap itemL).length <= l.length * 131076 := by
 induction l with
 | nil => simp
 | cons x r ih =>
  have h1 := h x (fg)
  have h2 := ih fun y hy => h y (by simp [hy])
  simp only [List.flatMap_cons, List.length_append, itemL_length, List.length_cons]
  omega
theorem headL_length (kind uid mode flags : Int) (nm : ByteArray) (n : Nat) : (headL kind uid mode flags nm n).length = 7 + nm.size := by simp [headL, be2, bytesOf_length]; omega
def spec_l09Bytes.f (kind uid mode flags : Int) (nm : ByteArray) (l : List S84) : Option (List Int) := if MutIn kind uid mode flags nm l then some (mutBytesL kind uid mode flags nm l) else none
theorem l08Bytes_two (n : Int) (J : 0 <= n) (h1 : n < 65536) : ea.f 4 n 2 = some (be2 n) := by
 have s : (IntKind.u64.wrap (wrap64 (8 * 1))) = 8 := by kernel_rfl
 have y : (IntKind.u64.wrap (wrap64 (8 * 0))) = 0 := by kernel_rfl
 have w1 : wrap64 (2 - 1) = 1 := by kernel_rfl
 have w0 : wrap64 (1 - 1) = 0 := by kernel_rfl
 have w2 : wrap64 (0 - 1) = -1 := by kernel_rfl
 have D : shr .i64 n 8 % 256 = n / 256 := by
  have : shr .i64 n 8 = n / 256 := by
   unfold shr
   rfl
  rw [this]; omega
 have I : shr .i64 n 0 % 256 = n % 256 := by
  have : shr .i64 n 0 = n / 1 := by unfold shr; rfl
  rw [this, Int.ediv_one]
 unfold ea.f
 simp only [ea.l0, w1, w0, w2, s, y, D, I]
 simp [be2]
theorem spec_l09Bytes.calls (kind uid mode flags : Int) (nm : ByteArray) (A : Option Addr) (c : Nat) (l : List S84) (r : List Int) (w : World) (hr0 : Kd.C k84 w A l.length l) (a3 : l.length <= c) (h : spec_l09Bytes.f kind uid mode flags nm l = some r) :
  Calls prog 39 #[.agg #[.int .i64 kind, .int .i64 uid, .int .i64 mode, .int .i64 flags, .string nm, .slice A l.length c]] w fun e w' => ∃ v0_ : Value, e = .returned (v0_) /\ Kd.R (Kd.int .u8) 5 w' w.heap.size (fun _ => True) v0_ r /\ Below w.heap.size w w' := by
 unfold spec_l09Bytes.f at h
 split at h
 case isFalse => cases h
 rename_i hin
 obtain rfl := Option.some.inj h
 have HM := aM hin
 obtain ⟨b0, b1, b2, b3, b4, b5, b6, b7, b8, b9, -⟩ := hin
 have e0 : kind % 256 = kind := Int.emod_eq_of_lt b0 b1
 have e1 : mode % 256 = mode := Int.emod_eq_of_lt b4 b5
 have e2 : flags % 256 = flags := Int.emod_eq_of_lt b6 b7
 have e3 : (l.length : Int) % 256 = l.length := Int.emod_eq_of_lt (Z31) (Z31)
 have e4 : (nm.size : Int) % 256 = nm.size := Int.emod_eq_of_lt (Z31) (Z31)
 have HR := aM hr0
 have h2 := aM (l08Bytes_two uid b2 b3)
 clear h hr0
 go_enter func39, ntmps39
 go_upto_region 2 with (fail)
 have hgl : w.heap.size <= (w.alloc (.cells #[.int .i64 kind, .int .i64 uid, .int .i64 mode, .int .i64 flags, .string nm, .slice A l.length c] 41)).heap.size := by simp
 have R0 : ap (Kd.R (Kd.int .u8) 5 _ w.heap.size (fun _ => True) _ [kind, mode, flags, (l.length : Int), (nm.size : Int)]) := aM (Kd.R_of_own (enc := Value.int .u8) (h1 := fun _ => rfl) (ok := fun _ => True) (xs := [kind, mode, flags, (l.length : Int), (nm.size : Int)]) (by
  have := World.ownsRow_lit (base := w.heap.size) (e := 5) (size := 1) (w.alloc (.cells #[.int .i64 kind, .int .i64 uid, .int .i64 mode, .int .i64 flags, .string nm, .slice A l.length c] 41)) #[.int .u8 kind, .int .u8 mode, .int .u8 flags, .int .u8 (l.length : Int), .int .u8 (nm.size : Int)] 5 hgl (by simp [maxLen]) rfl
  simpa [encs] using this) (fun _ _ => trivial))
 have HB := aM (ab (ab (bi w.heap.size w) (.cells #[.int .i64 kind, .int .i64 uid, .int .i64 mode, .int .i64 flags, .string nm, .slice A l.length c] 41)) (.cells #[.int .u8 kind, .int .u8 mode, .int .u8 flags, .int .u8 (l.length : Int), .int .u8 (nm.size : Int)] 5))
 have BX := aM (ah (show (w.alloc (.cells #[.int .i64 kind, .int .i64 uid, .int .i64 mode, .int .i64 flags, .string nm, .slice A l.length c] 41)).heap[w.heap.size]? = some (.cells #[.int .i64 kind, .int .i64 uid, .int .i64 mode, .int .i64 flags, .string nm, .slice A l.length c] 41 (0, 0)) from by simpa using heap_alloc_new w _) (.cells #[.int .u8 kind, .int .u8 mode, .int .u8 flags, .int .u8 (l.length : Int), .int .u8 (nm.size : Int)] 5))
 generalize (w.alloc (.cells #[.int .i64 kind, .int .i64 uid, .int .i64 mode, .int .i64 flags, .string nm, .slice A l.length c] 41)).alloc (.cells #[.int .u8 kind, .int .u8 mode, .int .u8 flags, .int .u8 (l.length : Int), .int .u8 (nm.size : Int)] 5) = W1 at R0 HB BX ⊢
 clear hgl e0 e1 e2 e3 e4
 obtain ⟨-, z1, -, -, z4⟩ := cl5 BX.out
 go_region_held3 (fun W => W.cell? ⟨w.heap.size, 1, none⟩ = some (.int .i64 uid) /\ W.cell? ⟨w.heap.size, 4, none⟩ = some (.string nm))
  (first | exact ⟨(al J.out 1).trans rfl, (al J.out 4).trans rfl⟩ | exact ⟨(al y.out 1).trans rfl, (al y.out 4).trans rfl⟩ | exact ⟨(al s.out 1).trans rfl, (al s.out 4).trans rfl⟩ | exact ⟨(al (by repeat (first | exact BX.out | (with_reducible refine ag ?_))) 1).trans rfl, (al (by repeat (first | exact BX.out | (with_reducible refine ag ?_))) 4).trans rfl⟩ | go_keep)
  (first
   | (go_at_call 80; refine (ea.calls 4 uid 2 (be2 uid) _ h2.out).mono ?_; rintro e w3 ⟨v1, rfl, hR, hb⟩; have M := Kd.R_below (by repeat (first | exact R0.out | apply Kd.R_drew)) hb; have s := aM (ai (by repeat (first | exact BX.out | (with_reducible refine ag ?_))) hb); have D := aM (ae (by repeat (first | exact HB.out | apply ac)) hb); have R1 := aM M; obtain ⟨A3, c3, rfl, _, hC⟩ := Kd.R_reads hR; have Z := aM hC; clear M hC hR hb)
   | ((with_reducible refine gateR 28 rfl ?_); refine Kd.R_append_rows_step (Kd.int .u8) (w0 := w) w.heap.size (Z96) (.tmp 24) (.tmp 27) 74 5 (.int .u8 0) 1 rfl underlying74 info5 rfl (Z68) (Z68) _ [kind, mode, flags, (l.length : Int), (nm.size : Int)] (be2 uid) _ _ _ (fun _ => True) (fun _ => False) rfl rfl R1.out Z.out (fun _ _ h => h) (fun _ h => h.elim) (fun _ _ => trivial) D.out D.out.size (by simp [be2]) ?_; intro v2 w4 ho O hg hat; have y := aM (fm s.out hg (Kd.R_ne R1.out s.out (Z68))); have R2 := aM ho; have HB2 := aM O; clear ho O hg hat)
   | ((with_reducible refine gateR 31 rfl ?_); refine bytes_append_str_step (w0 := w) w.heap.size (Z96) (.tmp 28) (.tmp 30) 74 9 5 rfl underlying74 underlying9 info5 _ _ nm rfl rfl R2.out HB2.out HB2.out.size (by simp [be2]; omega) ?_; intro v3 w5 ho U hg; have J := aM (fm y.out hg (Kd.R_ne R2.out y.out (Z68))); have R3 := aM ho; have Y := aM U; clear ho U hg))
 clear R0 R1 R2 BX s y HB D HB2 Z z1 z4 h2
 go_wp2
 go_loopg [3, 4, 5] l.length (fun gg s3 s4 s5 wr => ∃ (kk : Nat), kk <= l.length /\ l.length - kk <= gg /\ s4 = .int .i64 kk /\ ap (Kd.R (Kd.int .u8) 5 wr w.heap.size (fun _ => True) s3 (headL kind uid mode flags nm l.length ++ (l.take kk).flatMap itemL)) /\ ap (Below w.heap.size w wr) /\ ap (wr.heap[w.heap.size]? = some (.cells #[.int .i64 kind, .int .i64 uid, .int .i64 mode, .int .i64 flags, .string nm, .slice A l.length c] 41 (0, 0))))
 case atStart => exact ⟨0, Nat.zero_le _, Z31, rfl, ⟨by simpa [headL] using R3.out⟩, Y, J⟩
 case round =>
  obtain ⟨kk, hkk, hgg, rfl, R, HB, BX⟩ := hrel
  clear R3 Y J
  obtain ⟨-, -, -, -, -, zI⟩ := cl6 BX.out
  by_cases hlt : kk < l.length
  ·have hltz : (kk : Int) < (l.length : Int) := by omega
   have h0 : 0 <= (kk : Int) := by omega
   obtain ⟨ad, e, aB, hx1⟩ := at_T84 (Kd.C_below HR.out HB.out) kk h0 hltz
   cases e
   simp only [Int.toNat_natCast] at aB hx1
   have hel : ay l (kk : Int) = l[kk] := by unfold ay; simp [List.getD, List.getElem?_eq_getElem hlt]
   have hsz := HM.out.2.2.2.2.2.2.2.2.2.2 l[kk] (List.getElem_mem hlt)
   have hlen : (headL kind uid mode flags nm l.length ++ (l.take kk).flatMap itemL).length <= 4294967296 := by
    have h1 := items_length (l.take kk) fun x hx => HM.out.2.2.2.2.2.2.2.2.2.2 x (List.mem_of_mem_take hx)
    have h2 : (l.take kk).length <= 255 := by rw [List.length_take]; omega
    rw [List.length_append, headL_length]
    omega
   have hnext : headL kind uid mode flags nm l.length ++ (l.take (kk + 1)).flatMap itemL = (headL kind uid mode flags nm l.length ++ (l.take kk).flatMap itemL) ++ itemL l[kk] := by
    rw [List.take_succ_eq_append_getElem hlt, List.flatMap_append, List.append_assoc]; simp
   rw [hel] at aB hx1
   generalize l[kk] = q at hsz hnext aB hx1
   have HN := aM hnext
   generalize headL kind uid mode flags nm l.length ++ (l.take kk).flatMap itemL = ys at R hlen HN
   clear hnext hel
   go_upto_region 7 with (fail)
   have R0 := aM (Kd.R_alloc R.out (.cells #[.string q.f0, .string q.f1] 84))
   have aC := aM (ab HB.out (.cells #[.string q.f0, .string q.f1] 84))
   have aD := aM (ah BX.out (.cells #[.string q.f0, .string q.f1] 84))
   have XB0 := aM (show (wr.alloc (.cells #[.string q.f0, .string q.f1] 84)).heap[wr.heap.size]? = some (.cells #[.string q.f0, .string q.f1] 84 (0, 0)) from by simpa using heap_alloc_new wr _)
   have aH := aM (l08Bytes_two q.f0.size (Z31) (Z31))
   have aI := aM (l08Bytes_two q.f1.size (Z31) (Z31))
   clear aB hx1
   generalize wr.alloc (.cells #[.string q.f0, .string q.f1] 84) = W2 at R0 aC aD XB0 ⊢
   generalize wr.heap.size = g at XB0 ⊢
   go_region_held3 (fun W => W.cell? ⟨g, 0, none⟩ = some (.string q.f0) /\ W.cell? ⟨g, 1, none⟩ = some (.string q.f1))
    (first | exact ⟨(al XB4.out 0).trans rfl, (al XB4.out 1).trans rfl⟩ | exact ⟨(al aA.out 0).trans rfl, (al aA.out 1).trans rfl⟩ | exact ⟨(al X.out 0).trans rfl, (al X.out 1).trans rfl⟩ | exact ⟨(al I.out 0).trans rfl, (al I.out 1).trans rfl⟩ | exact ⟨(al (Z168) 0).trans rfl, (al (Z168) 1).trans rfl⟩ | go_keep)
    (first
     | (have R2_ := R2; go_at_call 80; refine (ea.calls 4 q.f1.size 2 (be2 q.f1.size) _ aI.out).mono ?_; rintro e w6 ⟨v1, rfl, hR, hb⟩; have M := Kd.R_below R2.out hb; have J := aM (ai y.out hb); have aA := aM (ai X.out hb); have Y := aM (ae HB2.out hb); have R3 := aM M; obtain ⟨A4, c4, rfl, _, hC⟩ := Kd.R_reads hR; have aJ := aM hC; clear R2_ M hC hR hb)
     | (go_at_call 80; refine (ea.calls 4 q.f0.size 2 (be2 q.f0.size) _ aH.out).mono ?_; rintro e w6 ⟨v1, rfl, hR, hb⟩; have M := Kd.R_below (by repeat (first | exact R0.out | apply Kd.R_drew)) hb; have s := aM (ai (by repeat (first | exact aD.out | (with_reducible refine ag ?_))) hb); have I := aM (ai (Z168) hb); have D := aM (ae (by repeat (first | exact aC.out | apply ac)) hb); have R1 := aM M; obtain ⟨A3', c3', rfl, _, hC⟩ := Kd.R_reads hR; have Z := aM hC; clear M hC hR hb)
     | ((with_reducible refine gateR 49 rfl ?_); refine Kd.R_append_rows_step (Kd.int .u8) (w0 := w) w.heap.size (Z96) (.tmp 44) (.tmp 48) 74 5 (.int .u8 0) 1 rfl underlying74 info5 rfl (Z68) (Z68) _ ys (be2 q.f0.size) _ _ _ (fun _ => True) (fun _ => False) rfl rfl R1.out Z.out (fun _ _ h => h) (fun _ h => h.elim) (fun _ _ => trivial) D.out D.out.size (by simp [be2]; omega) ?_; intro v2 w7 ho O hg hat; have y := aM (fm s.out hg (Kd.R_ne R1.out s.out (Z68))); have X := aM (fm I.out hg (Kd.R_ne R1.out I.out (Z68))); have R2 := aM ho; have HB2 := aM O; clear ho O hg hat)
     | ((with_reducible refine gateR 54 rfl ?_); refine Kd.R_append_rows_step (Kd.int .u8) (w0 := w) w.heap.size (Z96) (.tmp 49) (.tmp 53) 74 5 (.int .u8 0) 1 rfl underlying74 info5 rfl (Z68) (Z68) _ (ys ++ be2 q.f0.size) (be2 q.f1.size) _ _ _ (fun _ => True) (fun _ => False) rfl rfl R3.out aJ.out (fun _ _ h => h) (fun _ h => h.elim) (fun _ _ => trivial) Y.out Y.out.size (by simp [be2]; omega) ?_; intro v2 w7 ho O hg hat; have aK := aM (fm J.out hg (Kd.R_ne R3.out J.out (Z68))); have XB4 := aM (fm aA.out hg (Kd.R_ne R3.out aA.out (Z68))); have R4 := aM ho; have aL := aM O; clear ho O hg hat))
   clear R0 aC aD XB0 R1 D s I R2 HB2 y X R3 Y J aA Z aJ aH aI
   go_upto_region 8 with (fail)
   go_region_held3 (fun W => W.cell? ⟨g, 0, none⟩ = some (.string q.f0) /\ W.cell? ⟨g, 1, none⟩ = some (.string q.f1))
    (first | exact ⟨(al X.out 0).trans rfl, (al X.out 1).trans rfl⟩ | exact ⟨(al I.out 0).trans rfl, (al I.out 1).trans rfl⟩ | exact ⟨(al (Z192) 0).trans rfl, (al (Z192) 1).trans rfl⟩ | go_keep)
    (first
     | ((with_reducible refine gateR 61 rfl ?_); refine bytes_append_str_step (w0 := w) w.heap.size (Z96) (.tmp 58) (.tmp 60) 74 9 5 rfl underlying74 underlying9 info5 _ _ q.f1 rfl rfl R1.out D.out D.out.size (by simp [be2, bytesOf_length]; omega) ?_; intro v3 w9 ho U hg; have y := aM (fm s.out hg (Kd.R_ne R1.out s.out (Z68))); have X := aM (fm I.out hg (Kd.R_ne R1.out I.out (Z68))); have R2 := aM ho; have HB2 := aM U; clear ho U hg)
     | ((with_reducible refine gateR 58 rfl ?_); refine bytes_append_str_step (w0 := w) w.heap.size (Z96) (.tmp 55) (.tmp 57) 74 9 5 rfl underlying74 underlying9 info5 _ _ q.f0 rfl rfl (by repeat (first | exact R4.out | apply Kd.R_drew)) (by repeat (first | exact aL.out | apply ac)) (by have := aL.out.size; simpa using this) (by simp [be2]; omega) ?_; intro v3 w8 ho U hg; have s := aM (fm (by repeat (first | exact aK.out | (with_reducible refine ag ?_))) hg (Kd.R_ne (by repeat (first | exact R4.out | apply Kd.R_drew)) (by repeat (first | exact aK.out | (with_reducible refine ag ?_))) (Z68))); have I := aM (fm (Z192) hg (Kd.R_ne (by repeat (first | exact R4.out | apply Kd.R_drew)) (Z192) (Z68))); have R1 := aM ho; have D := aM U; clear ho U hg))
   go_wp2
   go_roundg (l.length - (kk + 1))
   case measure => omega
   case rel => exact ⟨kk + 1, Z31, Z31, by go_num, ⟨by rw [HN.out]; simpa [itemL] using R2.out⟩, HB2, y⟩
  have hltz : ¬ (kk : Int) < (l.length : Int) := by omega
  obtain rfl : kk = l.length := by omega
  go_wp2
  go_ret
  exact ⟨_, rfl, by simpa [mutBytesL] using R.out, HB.out⟩
def spec_l08Append.f (y : Int) (s : ByteArray) (I : Int) (a1 : ByteArray) : Option (Int × ByteArray × Int × Int) := (fp.f a1).bind fun D => (if (wrap64 ((s.size : Int) + (D.size : Int))) > y then (some (y, s, I, 7)) else (if s.size + D.size <= 9223372036854775807 then (some (y, s ++ D, I, 0)) else (none)))
theorem spec_l08Append.calls (D : Int) (s : ByteArray) (J : Int) (a1 : ByteArray) (Y : Int) (Z : ByteArray) (r3 : Int) (r4 : Int) (w : World) (h : spec_l08Append.f D s J a1 = some (Y, Z, r3, r4)) :
  Calls prog 40 #[.agg #[.int .i64 D, .string s, .int .i64 J], .string a1] w fun e w' => e = .returned (.tuple #[.agg #[.int .i64 Y, .string Z, .int .i64 r3], .int .i64 r4]) /\ Below w.heap.size w w' := by
 have aH := underlying32
 have HB := aM (bi w.heap.size w)
 have H := h
 clear h
 unfold spec_l08Append.f at H
 obtain ⟨y, A3, H⟩ := cz H
 try dsimp only at H
 by_cases c4 : (wrap64 ((s.size : Int) + (y.size : Int))) > D
 ·rw [if_pos c4] at H
  have aD : decide (D < (wrap64 ((s.size : Int) + (y.size : Int)))) = true := az c4
  clear c4
  simp only [Option.some.injEq, Prod.mk.injEq] at H
  obtain ⟨rfl, rfl, rfl, rfl⟩ := H
  go_enter func40, ntmps40
  go_wp2_with (first | ((with_reducible refine gD 2 ?_); refine bxF w 2 #[.int .i64 D, .string s, .int .i64 J] 32 (Z0) ?_; intro aE hg w5 BK259 aF GE259 HB hb; clear hb hg) | ((with_reducible refine gD 4 ?_); refine bxF w 4 #[.int .i64 0, .string (⟨#[]⟩ : ByteArray), .int .i64 0] 32 (Z77) ?_; intro M hg w6 I aG GE260 HB hb; have O := aM ((nL BK259 hg (Z80))); have U := aM ((nG BK259 hg (Z80))); replace BK259 := aM (kB BK259 (Z80) hb); clear hb hg) | ((with_reducible refine gC 81 ?_); refine gL 8 func81 #[.string a1] ?_; (with_reducible refine (fp.calls a1 y _ A3.out).mono ?_); rintro e w7 ⟨rfl, hb⟩; refine ⟨_, rfl, ?_⟩; replace BK259 := aM (kB BK259 (Z80) hb); replace I := aM (kB I zB hb); replace HB := aM (ae (Z89) hb); (try clear hb); have aI := O.out; have aJ := U.out; refine bD3 BK259 ?_; intros; refine bD3 I ?_; intros))
  refine bodyPost_ret (fk rfl _ _ M 32 #[.int .i64 D, .string s, .int .i64 J] (0, 0) _ rfl zB underlying32 rfl (Z16)) rfl ?_
  exact ⟨Z1, Z89⟩
 rw [if_neg c4] at H
 have aD : decide (D < (wrap64 ((s.size : Int) + (y.size : Int)))) = false := ba c4
 clear c4
 obtain ⟨X, H⟩ := ifS H
 have aK := bh X
 have aL : decide (s.size + y.size <= 9223372036854775807) = true := az X
 try have aN : (9223372036854775807 < s.size + y.size) = False := eq_false (Nat.not_lt.2 X)
 have aO : decide (D < ((s.size : Int) + (y.size : Int))) = false := by have h_ := aD; rw [show wrap64 ((s.size : Int) + (y.size : Int)) = ((s.size : Int) + (y.size : Int)) from w64 (Z31) (Z31)] at h_; exact h_
 simp only [Option.some.injEq, Prod.mk.injEq] at H
 obtain ⟨rfl, rfl, rfl, rfl⟩ := H
 go_enter func40, ntmps40
 go_wp2_with (first | ((with_reducible refine gD 2 ?_); refine bxF w 2 #[.int .i64 D, .string s, .int .i64 J] 32 (Z0) ?_; intro aE hg aP BK259 aF GE259 HB hb; clear hb hg) | ((with_reducible refine gD 4 ?_); refine bxF w 4 #[.int .i64 0, .string (⟨#[]⟩ : ByteArray), .int .i64 0] 32 (Z77) ?_; intro M hg aQ I aG GE260 HB hb; have O := aM ((nL BK259 hg (Z80))); have U := aM ((nG BK259 hg (Z80))); replace BK259 := aM (kB BK259 (Z80) hb); clear hb hg) | ((with_reducible refine gC 81 ?_); refine gL 8 func81 #[.string a1] ?_; (with_reducible refine (fp.calls a1 y _ A3.out).mono ?_); rintro e aR ⟨rfl, hb⟩; refine ⟨_, rfl, ?_⟩; replace BK259 := aM (kB BK259 (Z80) hb); replace I := aM (kB I zB hb); replace HB := aM (ae (Z89) hb); (try clear hb); have aS := O.out; have aT := U.out; refine bD3 BK259 ?_; intros; refine bD3 I ?_; intros))
 refine bodyPost_ret (fk rfl _ _ M 32 #[.int .i64 D, .string (s ++ y), .int .i64 J] (0, 0) _ rfl zB underlying32 rfl (Z16)) rfl ?_
 exact ⟨Z1, Z89⟩
def spec_l08Sync.f (y : Int) (s : ByteArray) (D : Int) : Option (Int × ByteArray × Int) := some (y, s, (s.size : Int))
theorem spec_l08Sync.calls (y : Int) (s : ByteArray) (D : Int) (I : Int) (J : ByteArray) (M : Int) (w : World) (h : spec_l08Sync.f y s D = some (I, J, M)) :
  Calls prog 41 #[.agg #[.int .i64 y, .string s, .int .i64 D]] w fun e w' => e = .returned (.agg #[.int .i64 I, .string J, .int .i64 M]) /\ Below w.heap.size w w' := by
 have aA := underlying32
 have HB := aM (bi w.heap.size w)
 have H := h
 clear h
 unfold spec_l08Sync.f at H
 simp only [Option.some.injEq, Prod.mk.injEq] at H
 obtain ⟨rfl, rfl, rfl⟩ := H
 go_enter func41, ntmps41
 go_wp2_with (first | ((with_reducible refine gD 1 ?_); refine bxF w 1 #[.int .i64 y, .string s, .int .i64 D] 32 (Z0) ?_; intro aB hg w2 BK262 aC GE262 HB hb; clear hb hg) | ((with_reducible refine gD 2 ?_); refine bxF w 2 #[.int .i64 0, .string (⟨#[]⟩ : ByteArray), .int .i64 0] 32 (Z144) ?_; intro O hg w3 U aD X HB hb; have Y := aM ((nL BK262 hg (Z176))); have Z := aM ((nG BK262 hg (Z176))); replace BK262 := aM (kB BK262 (Z176) hb); clear hb hg; have aE := Y.out; have aF := Z.out; refine bD3 BK262 ?_; intros; refine bD3 U ?_; intros))
 refine bodyPost_ret (results_cell_row rfl _ _ O 32 #[.int .i64 y, .string s, .int .i64 (s.size : Int)] (0, 0) _ rfl zB underlying32 rfl (Z16)) rfl ?_
 exact ⟨Z1, by repeat (first | (with_reducible first | exact HB.out | apply ab | apply af | apply ac | refine aa ?_ GE262.out | refine aa ?_ X.out) | exact HB.out)⟩
end Go.Proofs.YtifkmkiljpeaaadGreat.PFnExactCommit
