import Derived.Test.YtifkmkiljpeaaadGreatPFnExactCommitxA
import Derived.Test.YtifkmkiljpeaaadGreatPFnExactCommitxC
import Derived.Test.YtifkmkiljpeaaadGreatPFnExactCommitxD
import Derived.Test.YtifkmkiljpeaaadGreatPFnExactCommitxJ
import Derived.Test.YtifkmkiljpeaaadGreatPFnExactCommitxF
set_option maxHeartbeats 40000000
set_option maxRecDepth 100000
namespace Go.Proofs.YtifkmkiljpeaaadGreat.PFnExactCommit
open Go.RowKit Go.Proofs.YtifkmkiljpeaaadGreatW.PrintWords Go.Proofs.YtifkmkiljpeaaadGreatW.PrintLast Go.Proofs.YtifkmkiljpeaaadGreatW.PrintMore Go.Proofs.YtifkmkiljpeaaadGreat.Mac Go.Proofs.Tryz
set_option linter.unusedVariables false
set_option linter.unusedSimpArgs false
section
variable {base g n cap i : Nat} {ok : Nat -> Prop} {w w1 : World} {xs : List S82} {b : S82} {vM vK : Value}
theorem gl.setName (h : gl base ok w g n cap xs i b vM vK) (x : ByteArray) : gl base ok (w.setCell ⟨g, i * 5, none⟩ (.string x)) g n cap xs i ⟨x, b.f1, b.f2, b.f3, b.f4⟩ vM vK := by
 obtain ⟨hi, oki, h1, h2, hH, s, y⟩ := h
 obtain ⟨hH', hg⟩ := Kd.H_seg hH (Z31) (Z31) (seg := [.string x]) (j := 0) (show 1 <= 5 by decide) (by simp [Value.oneCell'])
 have hs : k82.sz = 5 := rfl
 rw [hs, Int.toNat_natCast] at hH' hg
 have hne : ∀ k, oki k -> some k ≠ some g := fun k hk e => h2 (Z200)
 exact ⟨hi, oki, fun k hk => h1 k (by simpa using hk), h2, hH', Kd.R_grown s hg hne, Kd.R_grown y hg hne⟩
theorem gl.setValid (h : gl base ok w g n cap xs i b vM vK) (x : Int) : gl base ok (w.setCell ⟨g, i * 5 + 1, none⟩ (.int .i64 x)) g n cap xs i ⟨b.f0, x, b.f2, b.f3, b.f4⟩ vM vK := by
 obtain ⟨hi, oki, h1, h2, hH, s, y⟩ := h
 obtain ⟨hH', hg⟩ := Kd.H_seg hH (Z31) (Z31) (seg := [.int .i64 x]) (j := 1) (show 2 <= 5 by decide) (by simp [Value.oneCell'])
 have hs : k82.sz = 5 := rfl
 rw [hs, Int.toNat_natCast] at hH' hg
 have hne : ∀ k, oki k -> some k ≠ some g := fun k hk e => h2 (Z200)
 exact ⟨hi, oki, fun k hk => h1 k (by simpa using hk), h2, hH', Kd.R_grown s hg hne, Kd.R_grown y hg hne⟩
theorem gl.okM (h : gl base ok w g n cap xs i b vM vK) : (∀ k, vM.ownBlock = some k -> ok k) /\ (∀ k, vK.ownBlock = some k -> ok k) := by
 obtain ⟨hi, oki, h1, h2, hH, s, y⟩ := h
 exact ⟨fun k hk => hH.1 k (s.1 k hk), fun k hk => hH.1 k (y.1 k hk)⟩
theorem gl.rowM (h : gl base ok w g n cap xs i b vM vK) : Kd.R k113 113 w base (fun k => some k = vM.ownBlock) vM b.f3 /\ Kd.R Kd.string 9 w base (fun k => some k = vK.ownBlock) vK b.f4 := by
 obtain ⟨hi, oki, h1, h2, hH, s, y⟩ := h
 exact ⟨Kd.R_tight rfl s, Kd.R_tight rfl y⟩
theorem gl.inMails {P : Nat -> Prop} {ms : List S113} (h : gl base ok w g n cap xs i b vM vK) (hk : Kept w w1 (fun k => some k = vM.ownBlock)) (hR : Kd.R k113 113 w1 base P vM ms) : gl base ok w1 g n cap xs i ⟨b.f0, b.f1, b.f2, ms, b.f4⟩ vM vK := by
 obtain ⟨hi, oki, h1, h2, hH, s, y⟩ := h
 exact ⟨hi, oki, fun k hq => h1 k (Nat.le_trans hk.1 hq), h2, Kd.H_step hH (fun k _ hn hlt => hk.2 k hlt (fun e => hn (s.1 k e.symm))), Kd.R_mono (Kd.R_tight rfl hR) (fun k e => s.1 k e.symm),
  Kd.R_mono (Kd.R_step (Kd.R_apart' y (Kd.R_typed s) (Z68)) (fun k hq hlt => hk.2 k hlt hq.2)) (fun _ hq => hq.1)⟩
theorem gl.inKeys {P : Nat -> Prop} {ks : List ByteArray} (h : gl base ok w g n cap xs i b vM vK) (hk : Kept w w1 (fun k => some k = vK.ownBlock)) (hR : Kd.R Kd.string 9 w1 base P vK ks) : gl base ok w1 g n cap xs i ⟨b.f0, b.f1, b.f2, b.f3, ks⟩ vM vK := by
 obtain ⟨hi, oki, h1, h2, hH, y, s⟩ := h
 exact ⟨hi, oki, fun k hq => h1 k (Nat.le_trans hk.1 hq), h2, Kd.H_step hH (fun k _ hn hlt => hk.2 k hlt (fun e => hn (s.1 k e.symm))),
  Kd.R_mono (Kd.R_step (Kd.R_apart' y (Kd.R_typed s) (Z68)) (fun k hq hlt => hk.2 k hlt hq.2)) (fun _ hq => hq.1), Kd.R_mono (Kd.R_tight rfl hR) (fun k e => s.1 k e.symm)⟩
end
def markB (k : Nat) (b : S82) (a : Int) : Option (S82 × Int) :=
 (cb.f k a).bind fun t => (di.f k b.f3 (wrap64 (wrap64 (wrap64 (a + 1) + 1) + 1))).bind fun m => (dr.f k b.f4 m.1).bind fun s => some (⟨t, wrap64 (a + 1), wrap64 (wrap64 (a + 1) + 1), m.2, s.2⟩, s.1)
def laws_markBoxS.f (k : Nat) : List S82 -> Int -> Option (Int × List S82)
 | [], a => some (a, [])
 | b :: r, a => (markB k b a).bind fun q => (laws_markBoxS.f k r q.2).bind fun t => some (t.1, q.1 :: t.2)
theorem laws_markBoxS.calls (k : Nat) (P : Nat -> Prop) (v : Value) (l : List S82) (a U : Int) (I : List S82) (w0 w : World) (hB : Below w0.heap.size w0 w) (hS : Kd.S k82 82 w w0.heap.size P v l) (h : laws_markBoxS.f k l a = some (U, I)) (hl : l.length <= 1048577) :
  Calls prog 31 #[v, .int .i64 a] w fun e w' => e = .returned (.int .i64 U) /\ Kd.S k82 82 w' w0.heap.size (fun k_ => P k_ ∨ w.heap.size <= k_) v I /\ Below w0.heap.size w0 w' /\ Kept w w' P := by
 have fin : ∀ W, Kept w W (fun k_ => P k_ ∨ w.heap.size <= k_) -> Kept w W P := fun W hk => ⟨hk.1, fun i hi hn => hk.2 i hi (fun h => h.elim hn (fun h2 => by omega))⟩
 have FIN := aM fin
 have HS := aM (Kd.S_mono (ok' := fun k_ => P k_ ∨ w.heap.size <= k_) hS (fun _ h => .inl h))
 have HB := aM hB
 have HH := aM h
 obtain ⟨A, c, rfl⟩ := Kd.S_slice hS
 clear fin hS hB h
 go_enter func31, ntmps31
 go_wp2
 go_loopg [1, 5] l.length (fun gg J s5 wr => ∃ (kk : Nat) (dn tl : List S82) (ak : Int), kk <= l.length /\ l.length - kk <= gg /\ s5 = .int .i64 kk /\ J = .int .i64 ak /\ ap (dn.length = kk) /\ ap (laws_markBoxS.f k (l.drop kk) ak = some (U, tl) /\ dn ++ tl = I) /\ ap (Kd.S k82 82 wr w0.heap.size (fun k_ => P k_ ∨ w.heap.size <= k_) (.slice A l.length c) (dn ++ l.drop kk)) /\ ap (Below w0.heap.size w0 wr) /\ ap (Kept w wr (fun k_ => P k_ ∨ w.heap.size <= k_)))
 case atStart => exact ⟨0, [], I, a, Nat.zero_le _, Z31, rfl, rfl, ⟨rfl⟩, ⟨by simpa using HH.out, rfl⟩, HS, HB, ⟨Kept.refl _ _⟩⟩
 case round =>
  obtain ⟨kk, dn, tl, ak, hkk, hgg, rfl, rfl, HD, HA, HS, HB, HK⟩ := hrel
  clear HH
  by_cases hlt : kk < l.length
  ·have hltz : (kk : Int) < (l.length : Int) := by omega
   have h0 : (0 : Int) <= (kk : Int) := by omega
   have hlen : (dn ++ l.drop kk).length = l.length := by rw [List.length_append, HD.out, List.length_drop]; omega
   obtain ⟨g, c', e1, hbg, hlg, -⟩ := Kd.S_form HS.out (Z31)
   injection e1 with eA eB eC
   subst eA; subst eC
   clear eB
   have hnew : ∀ q, wr.heap.size <= q -> (P q ∨ w.heap.size <= q) := fun q hq => .inr (Nat.le_trans HK.out.1 hq)
   have hokg : P g ∨ w.heap.size <= g := (Kd.S_R HS.out).1 g (Z203)
   obtain ⟨vM, vK, hL⟩ := gl.of_S (i := kk) HS.out hlt hnew
   have hrd : ax (dn ++ l.drop kk) (kk : Int) = l[kk] := by
    unfold ax
    rw [Int.toNat_natCast, List.getD_eq_getElem?_getD, List.getElem?_append_right (by rw [HD.out]; exact bj _), HD.out, Nat.sub_self, List.getElem?_drop]
    simp [List.getElem?_eq_getElem hlt]
   rw [hrd] at hL
   have hdrop := HA.out
   rw [List.drop_eq_getElem_cons hlt, laws_markBoxS.f] at hdrop
   obtain ⟨s, Z⟩ := hdrop
   obtain ⟨⟨b', a4⟩, hm, s⟩ := Option.bind_eq_some_iff.mp s
   obtain ⟨⟨rr, tl'⟩, hr, s⟩ := Option.bind_eq_some_iff.mp s
   simp only [Option.some.injEq, Prod.mk.injEq] at s
   obtain ⟨rfl, rfl⟩ := s
   have HR := aM (And.intro hr (show (dn ++ [b']) ++ tl' = I by rw [List.append_assoc]; exact Z))
   have hset : (dn ++ l.drop kk).set kk b' = (dn ++ [b']) ++ l.drop (kk + 1) := by
    rw [List.drop_eq_getElem_cons hlt, List.set_append_right _ _ (by rw [HD.out]; exact bj _), HD.out, Nat.sub_self, List.append_assoc]; rfl
   have HSET := aM hset
   unfold markB at hm
   obtain ⟨t, ht, hm⟩ := Option.bind_eq_some_iff.mp hm
   obtain ⟨⟨m1, m2⟩, aA, hm⟩ := Option.bind_eq_some_iff.mp hm
   obtain ⟨⟨J, s2⟩, aB, hm⟩ := Option.bind_eq_some_iff.mp hm
   simp only [Option.some.injEq, Prod.mk.injEq] at hm
   obtain ⟨rfl, rfl⟩ := hm
   have HT := aM ht
   have HM := aM aA
   have HP := aM aB
   have HL := aM hL
   have HN := aM hnew
   clear hL hrd Z hr hset ht aA aB HA HS hnew
   generalize l[kk] = b at HL HM HP
   clear hlen
   generalize dn ++ l.drop kk = xs at HL HSET
   go_wp2_with fail
   refine (cb.calls k ak t _ HT.out).mono ?_
   rintro e w2 ⟨rfl, M⟩
   have y := aM (HL.out.below M)
   have HB2 := aM (ae HB.out M)
   have HK2 := aM (HK.out.below M)
   clear HL HB HK HT M
   obtain ⟨z0, z1, z2, z3, z4⟩ := y.out.cells
   have f0 := y.out.frozen (kk * 5)
   have f1 := y.out.frozen (kk * 5 + 1)
   have f2 := y.out.frozen (kk * 5 + 2)
   have D := aM (((y.out.setName t).setValid (wrap64 (ak + 1))).setNext (wrap64 (wrap64 (ak + 1) + 1)))
   have aC := aM (aa (j := kk * 5 + 2) (v := .int .i64 (wrap64 (wrap64 (ak + 1) + 1))) (aa (j := kk * 5 + 1) (v := .int .i64 (wrap64 (ak + 1))) (aa (j := kk * 5) (v := .string t) HB2.out hbg) hbg) hbg)
   have aD := aM (Kept.setCell (p := ⟨g, kk * 5 + 2, none⟩) (Kept.setCell (p := ⟨g, kk * 5 + 1, none⟩) (Kept.setCell (p := ⟨g, kk * 5, none⟩) HK2.out (.inl hokg) (.string t)) (.inl hokg) (.int .i64 (wrap64 (ak + 1)))) (.inl hokg) (.int .i64 (wrap64 (wrap64 (ak + 1) + 1))))
   clear y HB2 HK2
   obtain ⟨A3, c3, e3, -, -⟩ := D.out.mails
   obtain ⟨A4, c4, e4, -, -⟩ := D.out.keys
   subst e3; subst e4
   obtain ⟨okM, okK⟩ := D.out.okM
   go_wp2_with fail
   refine (di.calls k _ _ b.f3 (wrap64 (wrap64 (wrap64 (ak + 1) + 1) + 1)) m1 m2 w0 _ aC.out D.out.rowM.1 HM.out).mono ?_
   rintro e w4 ⟨rfl, aE, aF, X⟩
   have O := aM (D.out.inMails X aE)
   have aG := aM aF
   have aH := aM (Kept.then_ aD.out X (fun q e => .inl (okM q e.symm)))
   clear z0 z1 z2 z3 z4 f0 f1 f2 D aC aD HM aE aF X okM
   obtain ⟨z0, z1, z2, z3, z4⟩ := O.out.cells
   go_wp2_with fail
   refine (dr.calls k _ _ b.f4 m1 J s2 w0 _ aG.out O.out.rowM.2 HP.out).mono ?_
   rintro e w5 ⟨rfl, aI, aJ, Y⟩
   have aK := aM (O.out.inKeys Y aI)
   have aS := aM aJ
   have aT := aM (Kept.then_ aH.out Y (fun q e => .inl (okK q e.symm)))
   have aL := aM aK.out.back
   rw [HSET.out] at aL
   clear z0 z1 z2 z3 z4 O aG aH HP aI aJ Y okK aK
   go_wp2
   go_roundg (l.length - (kk + 1))
   case measure => omega
   case rel => exact ⟨kk + 1, _, tl', J, Z31, Z31, by go_num, rfl, ⟨by rw [List.length_append, HD.out]; rfl⟩, HR, aL, aS, aT⟩
  have hltz : ¬ (kk : Int) < (l.length : Int) := by omega
  obtain rfl : kk = l.length := by omega
  obtain ⟨h1, h2⟩ := HA.out
  rw [List.drop_length, laws_markBoxS.f] at h1
  simp only [Option.some.injEq, Prod.mk.injEq] at h1
  obtain ⟨rfl, rfl⟩ := h1
  rw [List.append_nil] at h2
  subst h2
  have aU := aM (show Kd.S k82 82 wr w0.heap.size (fun k_ => P k_ ∨ w.heap.size <= k_) (.slice A l.length c) dn from by have := HS.out; rw [List.drop_length, List.append_nil] at this; exact this)
  clear HS HA HD
  go_wp2
  go_ret
  exact ⟨rfl, aU.out, HB.out, FIN.out _ HK.out⟩
def laws_markEngine.f (k : Nat) (bx : List S82) (a : Int) : Option (Int × List S82) := if bx.length <= 1048577 then laws_markBoxS.f k bx a else none
theorem laws_markEngine.calls (k : Nat) (P : Nat -> Prop) (s : Int) (y : ByteArray) (D : Int) (v : Value) (l : List S82) (a I : Int) (J : List S82) (w0 w : World) (hB : Below w0.heap.size w0 w) (hS : Kd.S k82 82 w w0.heap.size P v l) (h : laws_markEngine.f k l a = some (I, J)) :
  Calls prog 12 #[.agg #[.int .i64 s, .string y, .int .i64 D, v], .int .i64 a] w fun e w' => e = .returned (.int .i64 I) /\ Kd.S k82 82 w' w0.heap.size (fun k_ => P k_ ∨ w.heap.size <= k_) v J /\ Below w0.heap.size w0 w' /\ Kept w w' P := by
 unfold laws_markEngine.f at h
 split at h
 case isFalse => cases h
 rename_i hl
 obtain ⟨A, c, rfl⟩ := Kd.S_slice hS
 have HS := aM (Kd.S_alloc hS (.cells #[.int .i64 s, .string y, .int .i64 D, .slice A l.length c] 35))
 have HB := aM (ab hB (.cells #[.int .i64 s, .string y, .int .i64 D, .slice A l.length c] 35))
 have HH := aM h
 clear h hS hB
 go_enter func12, ntmps12
 go_wp2_with fail
 refine (laws_markBoxS.calls k P _ l a I J w0 _ HB.out HS.out HH.out hl).mono ?_
 rintro e w2 ⟨rfl, M, O, U⟩
 have X := aM (Kd.S_mono (ok' := fun k_ => P k_ ∨ w.heap.size <= k_) M (fun q hq => hq.imp id (fun h => by simp at h; omega)))
 have HB2 := aM O
 have HK2 := aM (Kept.then_ (Kept.alloc (Kept.refl w P) (.cells #[.int .i64 s, .string y, .int .i64 D, .slice A l.length c] 35)) U (fun q hq => .inl hq))
 clear HS HB HH M O U
 go_wp2
 go_ret
 exact ⟨rfl, X.out, HB2.out, HK2.out⟩
theorem made_behind {W w' : World} {cs : Array Value} {t : TypeId} (hb : Below (W.alloc (.cells cs t)).heap.size (W.alloc (.cells cs t)) w') : w'.heap[W.heap.size]? = some (.cells cs t (0, 0)) := ai (blk_made rfl) hb
theorem zero_cells {W : World} {g : Nat} (h : W.heap[g]? = some (.cells #[.int .i64 0, .string ⟨#[]⟩, .int .i64 0, .slice none 0 0] 35 (0, 0))) :
  W.cell? ⟨g, 0, none⟩ = some (.int .i64 0) /\ W.cell? ⟨g, 1, none⟩ = some (.string ⟨#[]⟩) /\ W.cell? ⟨g, 2, none⟩ = some (.int .i64 0) /\ W.cell? ⟨g, 3, none⟩ = some (.slice none 0 0) /\ W.frozen? ⟨g, 0, none⟩ = false /\ W.frozen? ⟨g, 1, none⟩ = false /\ W.frozen? ⟨g, 2, none⟩ = false /\ W.frozen? ⟨g, 3, none⟩ = false :=
 ⟨(al h 0).trans rfl, (al h 1).trans rfl, (al h 2).trans rfl, (al h 3).trans rfl, am h 0, am h 1, am h 2, am h 3⟩
theorem blk_old {W w' : World} {g : Nat} {o : Obj} (h : W.heap[g]? = some o) (hb : Below W.heap.size W w') : w'.heap[g]? = some o := (hb.block _ (en h)).trans h
theorem made_behind_drew {W w' : World} {cs : Array Value} {t : TypeId} (hb : Below (W.drew.alloc (.cells cs t)).heap.size (W.drew.alloc (.cells cs t)) w') : w'.heap[W.heap.size]? = some (.cells cs t (0, 0)) := made_behind (W := W.drew) hb
def LawIn (k : Nat) (a0 : Int) (a1 : ByteArray) (Z : Int) (l : List S68) (b0 b1 b2 b3 : Int) (b4 : ByteArray) (l5 : List S71) : Prop :=
 ∃ z1, laws_szEngine.f k a0 a1 Z l 1048576 = some z1 /\ (0 <= z1 -> ∃ z2, laws_szMutation.f k b0 b1 b2 b3 b4 l5 z1 = some z2 /\ (0 <= z2 ->
  ∃ (x0 : Int) (x1 : ByteArray) (x2 : Int) (x3 : List S82) (D I J M : Int) (O : ByteArray) (s : List S84) (U : Int) (X : ByteArray) (Y : Int) (y : List S82) (r4 k1 k2 m1 : Int) (x3' : List S82) (s' : List S84) (y' : List S82),
   gq.f k a0 a1 Z l = some (x0, x1, x2, x3) /\ fx.f k b0 b1 b2 b3 b4 l5 = some (D, I, J, M, O, s) /\
   spec_Commit.f k x0 x1 x2 x3 D I J M O s = some (U, X, Y, y, r4) /\ impl_Commit.f k x0 x1 x2 x3 D I J M O s = some (U, X, Y, y, r4) /\
   ga.f k U X Y y U X Y y = some true /\ ga.f k x0 x1 x2 x3 x0 x1 x2 x3 = some true /\ laws_eqMutation.f k D I J M O s D I J M O s = some true /\
   laws_markEngine.f k x3 1 = some (k1, x3') /\ gu.f k D I J M O s k1 = some (k2, s') /\ 0 <= k2 /\
   laws_markEngine.f k y 1 = some (m1, y') /\ laws_heldEngine.f k U X Y y' 1 = some m1 /\ 0 <= m1))
theorem law_walk (k : Nat) (a0 : Int) (a1 : ByteArray) (Z : Int) (A3 : Option Addr) (c3 : Nat) (l : List S68) (b0 b1 b2 b3 : Int) (b4 : ByteArray) (A5 : Option Addr) (c5 : Nat) (X : List S71) (w : World) (hC : Kd.C k68 w A3 l.length l) (hc : l.length <= c3) (cH : Kd.C k71 w A5 X.length X) (bJ : X.length <= c5) (h : LawIn k a0 a1 Z l b0 b1 b2 b3 b4 X) :
  Calls prog 3 #[.agg #[.int .i64 a0, .string a1, .int .i64 Z, .slice A3 l.length c3], .agg #[.int .i64 b0, .int .i64 b1, .int .i64 b2, .int .i64 b3, .string b4, .slice A5 X.length c5]] w fun e w' => e = .returned (.bool true) /\ Below w.heap.size w w' := by
 obtain ⟨z1, cI, h⟩ := h
 have HC := aM hC
 have bK := aM cH
 have HZ := aM cI
 have HH := aM h
 have EX := aM (ah (show (w.alloc (.cells #[.int .i64 a0, .string a1, .int .i64 Z, .slice A3 l.length c3] 26)).heap[w.heap.size]? = some (.cells #[.int .i64 a0, .string a1, .int .i64 Z, .slice A3 l.length c3] 26 (0, 0)) from by simpa using heap_alloc_new w _) (.cells #[.int .i64 b0, .int .i64 b1, .int .i64 b2, .int .i64 b3, .string b4, .slice A5 X.length c5] 29))
 have MX := aM (show ((w.alloc (.cells #[.int .i64 a0, .string a1, .int .i64 Z, .slice A3 l.length c3] 26)).alloc (.cells #[.int .i64 b0, .int .i64 b1, .int .i64 b2, .int .i64 b3, .string b4, .slice A5 X.length c5] 29)).heap[w.heap.size + 1]? = some (.cells #[.int .i64 b0, .int .i64 b1, .int .i64 b2, .int .i64 b3, .string b4, .slice A5 X.length c5] 29 (0, 0)) from by simpa using heap_alloc_new (w.alloc (.cells #[.int .i64 a0, .string a1, .int .i64 Z, .slice A3 l.length c3] 26)) _)
 have HB := aM (ab (ab (bi w.heap.size w) (.cells #[.int .i64 a0, .string a1, .int .i64 Z, .slice A3 l.length c3] 26)) (.cells #[.int .i64 b0, .int .i64 b1, .int .i64 b2, .int .i64 b3, .string b4, .slice A5 X.length c5] 29))
 have N0 := aM (show w.heap.size + 2 <= ((w.alloc (.cells #[.int .i64 a0, .string a1, .int .i64 Z, .slice A3 l.length c3] 26)).alloc (.cells #[.int .i64 b0, .int .i64 b1, .int .i64 b2, .int .i64 b3, .string b4, .slice A5 X.length c5] 29)).heap.size from by simp)
 clear hC cH cI h
 go_enter func3, ntmps3
 go_upto_region 2 with (fail)
 generalize ((w.alloc (.cells #[.int .i64 a0, .string a1, .int .i64 Z, .slice A3 l.length c3] 26)).alloc (.cells #[.int .i64 b0, .int .i64 b1, .int .i64 b2, .int .i64 b3, .string b4, .slice A5 X.length c5] 29)) = W1 at EX MX HB N0 ⊢
 obtain ⟨p0, p1, p2, p3⟩ := cl4 EX.out
 go_wp2_with fail
 refine (laws_szEngine.calls k a0 a1 Z A3 c3 l 1048576 z1 _ (Kd.C_below HC.out HB.out) hc HZ.out).mono ?_
 rintro e w2 ⟨rfl, hb⟩
 replace N0 := aM (Nat.le_trans N0.out hb.size)
 replace EX := aM (ai EX.out hb)
 replace MX := aM (ai MX.out hb)
 replace HB := aM (ae HB.out hb)
 clear hb HZ p0 p1 p2 p3
 by_cases c1 : 0 <= z1
 case neg =>
  have t1 : decide (z1 < 0) = true := az (Z31)
  clear c1
  go_wp2
  go_ret
  exact ⟨rfl, HB.out⟩
 have t1 : decide (z1 < 0) = false := ba (Z31)
 obtain ⟨z2, cJ, hh⟩ := HH.out c1
 have HZ := aM cJ
 replace HH := aM hh
 clear c1 cJ hh
 obtain ⟨p0, p1, p2, p3, p4, p5⟩ := cl6 MX.out
 go_wp2_with fail
 refine (laws_szMutation.calls k b0 b1 b2 b3 b4 A5 c5 X z1 z2 _ (Kd.C_below bK.out HB.out) bJ HZ.out).mono ?_
 rintro e w3 ⟨rfl, hb⟩
 replace N0 := aM (Nat.le_trans N0.out hb.size)
 replace EX := aM (ai EX.out hb)
 replace MX := aM (ai MX.out hb)
 replace HB := aM (ae HB.out hb)
 clear hb HZ t1 p0 p1 p2 p3 p4 p5
 by_cases c1 : 0 <= z2
 case neg =>
  have t1 : decide (z2 < 0) = true := az (Z31)
  clear c1
  go_wp2
  go_ret
  exact ⟨rfl, HB.out⟩
 have t1 : decide (z2 < 0) = false := ba (Z31)
 obtain ⟨x0, x1, x2, x3, y0, y1, y2, y3, y4, y5, D, J, O, M, r4, k1, k2, m1, x3', y5', M', d1, d2, d3, d4, d5, d6, d7, d8, d9, d10, cS, cT, cX⟩ := HH.out c1
 have D1 := aM d1
 have D2 := aM d2
 have D3 := aM d3
 have D4 := aM d4
 have D5 := aM d5
 have D6 := aM d6
 have D7 := aM d7
 have D8 := aM d8
 have D9 := aM d9
 have dD := aM cS
 have cV := aM cT
 have tk : decide (k2 < 0) = false := ba (Z31)
 have tm : decide (m1 < 0) = false := ba (Z31)
 clear c1 HH d1 d2 d3 d4 d5 d6 d7 d8 d9 d10 cS cT cX
 go_upto_region 8 with (fail)
 clear t1
 go_cut [6, 7] (fun s6 s7 we => ∃ (b lo : Nat) (v : Value), s6 = .pointer (some ⟨b, 0, none⟩) /\ s7 = .int .i64 r4 /\ ap (we.heap[b]? = some (.cells #[.int .i64 D, .string J, .int .i64 O, v] 35 (0, 0))) /\ ap (w3.heap.size <= b /\ w3.heap.size <= lo) /\ ap (Kd.S k82 82 we lo (fun q => lo <= q /\ q < we.heap.size) v M) /\ ap (Below w3.heap.size w3 we))
 case first =>
  have KEEP := aM (fun (W : World) (h1 : W.heap[w.heap.size]? = some (.cells #[.int .i64 a0, .string a1, .int .i64 Z, .slice A3 l.length c3] 26 (0, 0))) (h2 : W.heap[w.heap.size + 1]? = some (.cells #[.int .i64 b0, .int .i64 b1, .int .i64 b2, .int .i64 b3, .string b4, .slice A5 X.length c5] 29 (0, 0))) => (show W.cell? ⟨w.heap.size, 0, none⟩ = some (.int .i64 a0) /\ W.cell? ⟨w.heap.size, 1, none⟩ = some (.string a1) /\ W.cell? ⟨w.heap.size, 2, none⟩ = some (.int .i64 Z) /\ W.cell? ⟨w.heap.size, 3, none⟩ = some (.slice A3 l.length c3) /\ W.cell? ⟨w.heap.size + 1, 0, none⟩ = some (.int .i64 b0) /\ W.cell? ⟨w.heap.size + 1, 1, none⟩ = some (.int .i64 b1) /\ W.cell? ⟨w.heap.size + 1, 2, none⟩ = some (.int .i64 b2) /\ W.cell? ⟨w.heap.size + 1, 3, none⟩ = some (.int .i64 b3) /\ W.cell? ⟨w.heap.size + 1, 4, none⟩ = some (.string b4) /\ W.cell? ⟨w.heap.size + 1, 5, none⟩ = some (.slice A5 X.length c5) from ⟨(al h1 0).trans rfl, (al h1 1).trans rfl, (al h1 2).trans rfl, (al h1 3).trans rfl, (al h2 0).trans rfl, (al h2 1).trans rfl, (al h2 2).trans rfl, (al h2 3).trans rfl, (al h2 4).trans rfl, (al h2 5).trans rfl⟩))
  go_region_held3 (fun W => W.cell? ⟨w.heap.size, 0, none⟩ = some (.int .i64 a0) /\ W.cell? ⟨w.heap.size, 1, none⟩ = some (.string a1) /\ W.cell? ⟨w.heap.size, 2, none⟩ = some (.int .i64 Z) /\ W.cell? ⟨w.heap.size, 3, none⟩ = some (.slice A3 l.length c3) /\ W.cell? ⟨w.heap.size + 1, 0, none⟩ = some (.int .i64 b0) /\ W.cell? ⟨w.heap.size + 1, 1, none⟩ = some (.int .i64 b1) /\ W.cell? ⟨w.heap.size + 1, 2, none⟩ = some (.int .i64 b2) /\ W.cell? ⟨w.heap.size + 1, 3, none⟩ = some (.int .i64 b3) /\ W.cell? ⟨w.heap.size + 1, 4, none⟩ = some (.string b4) /\ W.cell? ⟨w.heap.size + 1, 5, none⟩ = some (.slice A5 X.length c5))
   (first | (have E_ := EX3; exact KEEP.out _ (Z130) (Z131)) | (have E_ := EX2; exact KEEP.out _ (Z162) (Z163)) | (have E_ := EX1; exact KEEP.out _ (Z164) (Z165)) | (have E_ := EX; exact KEEP.out _ (Z166) (Z167)) | go_keep)
   (first
    | (have EX2_ := EX2; go_at_call 6; refine (spec_Commit.calls k x0 x1 x2 A6 c6 x3 y0 y1 y2 y3 y4 A7 c7 y5 D J O M r4 _ ?_ ?_ ?_ ?_ D3.out).mono ?_; (focus (repeat (first | exact (Kd.S_reads' bO.out).2.2 | (with_reducible refine Kd.C_alloc ?_ _) | (with_reducible refine Kd.C_drew ?_)))); (focus (exact (Kd.S_reads' bO.out).2.1)); (focus (repeat (first | exact (Kd.R_reads' bP.out).2.2 | (with_reducible refine Kd.C_alloc ?_ _) | (with_reducible refine Kd.C_drew ?_)))); (focus (exact (Kd.R_reads' bP.out).2.1)); rintro e u3 ⟨v, rfl, hS, hb⟩; obtain ⟨A8, c8, e8⟩ := Kd.S_slice hS; subst e8; (first | have LB := aM (made_behind_drew hb) | have LB := aM (made_behind hb) | (have LB_ := LB; have LB := aM (ai (o := (.cells #[.int .i64 0, .string ⟨#[]⟩, .int .i64 0, .slice none 0 0] 35 (0, 0))) LB_.out hb); clear LB_) | skip); (try (have LB_ := LB; obtain ⟨G0, G1, G2, G3, F0, F1, F2, F3⟩ := zero_cells LB_.out; clear LB_)); have EX3 := aM (ai (g := w.heap.size) (o := (.cells #[.int .i64 a0, .string a1, .int .i64 Z, .slice A3 l.length c3] 26 (0, 0))) (Z162) hb); have MX3 := aM (ai (g := w.heap.size + 1) (o := (.cells #[.int .i64 b0, .int .i64 b1, .int .i64 b2, .int .i64 b3, .string b4, .slice A5 X.length c5] 29 (0, 0))) (Z163) hb); have bA := aM (show Below w3.heap.size w3 u3 from Below.trans (by repeat (first | exact HV2.out | exact bi _ _ | apply ab | apply ac)) (hb.mono (by have h_ := HV2.out.size; first | omega | (simp; omega)))); have bR := aM (Kd.S_bound hS); have dM := aM hb.size; (try clear EX2_); (try clear hS); (try clear hb))
    | (have EX1_ := EX1; go_at_call 8; refine (fx.calls k b0 b1 b2 b3 b4 A5 c5 X y0 y1 y2 y3 y4 y5 _ (Kd.C_below bK.out (Below.trans HB.out (Below.mono (Z171) HB.out.size))) bJ D2.out).mono ?_; rintro e u2 ⟨v, rfl, hS, hb⟩; obtain ⟨A7, c7, e7⟩ := Kd.R_slice hS; subst e7; (first | have LB := aM (made_behind_drew hb) | have LB := aM (made_behind hb) | (have LB_ := LB; have LB := aM (ai (o := (.cells #[.int .i64 0, .string ⟨#[]⟩, .int .i64 0, .slice none 0 0] 35 (0, 0))) LB_.out hb); clear LB_) | skip); have EX2 := aM (ai (g := w.heap.size) (o := (.cells #[.int .i64 a0, .string a1, .int .i64 Z, .slice A3 l.length c3] 26 (0, 0))) (Z164) hb); have MX2 := aM (ai (g := w.heap.size + 1) (o := (.cells #[.int .i64 b0, .int .i64 b1, .int .i64 b2, .int .i64 b3, .string b4, .slice A5 X.length c5] 29 (0, 0))) (Z165) hb); have HV2 := aM (show Below w3.heap.size w3 u2 from Below.trans (Z171) (hb.mono (by have h_ := HV1.out.size; first | omega | (simp; omega)))); have bP := aM hS; have bO := aM (Kd.S_below (by repeat (first | exact aY.out | apply Kd.S_alloc | apply Kd.S_drew)) hb); (try clear EX1_); (try clear hS); (try clear hb))
    | (go_at_call 7; refine (gq.calls k a0 a1 Z A3 c3 l x0 x1 x2 x3 _ (Kd.C_below HC.out (by repeat (first | exact HB.out | apply ab | apply ac))) hc D1.out).mono ?_; rintro e u1 ⟨v, rfl, hS, hb⟩; obtain ⟨A6, c6, e6⟩ := Kd.S_slice hS; subst e6; (first | have LB := aM (made_behind_drew hb) | have LB := aM (made_behind hb) | (have LB_ := LB; have LB := aM (ai (o := (.cells #[.int .i64 0, .string ⟨#[]⟩, .int .i64 0, .slice none 0 0] 35 (0, 0))) LB_.out hb); clear LB_) | skip); have EX1 := aM (ai (g := w.heap.size) (o := (.cells #[.int .i64 a0, .string a1, .int .i64 Z, .slice A3 l.length c3] 26 (0, 0))) (Z166) hb); have MX1 := aM (ai (g := w.heap.size + 1) (o := (.cells #[.int .i64 b0, .int .i64 b1, .int .i64 b2, .int .i64 b3, .string b4, .slice A5 X.length c5] 29 (0, 0))) (Z167) hb); have HV1 := aM (show Below w3.heap.size w3 u1 from Below.trans (by repeat (first | exact bi _ _ | apply ab | apply ac)) (hb.mono (fg))); have aY := aM hS; (try clear hS); (try clear hb)))
  ·go_wp2
   go_meet
   exact ⟨u3.heap.size, _, _, rfl, rfl, ⟨by simpa using heap_alloc_new u3 _⟩, ⟨⟨bA.out.size, (Z193)⟩⟩, ⟨Kd.S_mono (Kd.S_alloc bR.out _) (fun q hq => ⟨hq.2.1, by have h_ := hq.2.2.1; simp; omega⟩)⟩, ⟨ab bA.out _⟩⟩
  all_goals (go_wp2; go_meet; exact ⟨_, _, _, rfl, rfl, ⟨(ch (cs := #[.int .i64 D, .string J, .int .i64 O, .slice none 0 0]) (ch (cs := #[.int .i64 D, .string J, .int .i64 0, .slice none 0 0]) (ch (cs := #[.int .i64 D, .string ⟨#[]⟩, .int .i64 0, .slice none 0 0]) (ch (cs := #[.int .i64 0, .string ⟨#[]⟩, .int .i64 0, .slice none 0 0]) LB.out 0 _ rfl) 1 _ rfl) 2 _ rfl) 3 _ rfl)⟩, ⟨⟨(Z97), (Z193)⟩⟩, ⟨Kd.S_mono (Kd.S_far (p := ⟨_, 3, none⟩) (Kd.S_far (p := ⟨_, 2, none⟩) (Kd.S_far (p := ⟨_, 1, none⟩) (Kd.S_far (p := ⟨_, 0, none⟩) (Kd.S_types bR.out LB.out (Z68)) (fun _ hk => hk.2) (.int .i64 D)) (fun _ hk => hk.2) (.string J)) (fun _ hk => hk.2) (.int .i64 O)) (fun _ hk => hk.2) (.slice A8 M.length c8)) (fun q hq => ⟨hq.1.2.1, by have h_ := hq.1.2.2.1; simpa using h_⟩)⟩, ⟨(aa (j := 3) (v := .slice A8 M.length c8) (aa (j := 2) (v := .int .i64 O) (aa (j := 1) (v := .string J) (aa (j := 0) (v := .int .i64 D) bA.out (Z97)) (Z97)) (Z97)) (Z97))⟩⟩)
 case rest =>
  skip
  obtain ⟨b6, dN, v6, rfl, rfl, s, N6, I, HV⟩ := hcut
  replace EX := aM ((HV.out.block _ (en EX.out)).trans EX.out)
  replace MX := aM ((HV.out.block _ (en MX.out)).trans MX.out)
  replace N6 := aM (show w.heap.size + 2 <= b6 /\ b6 < wc.heap.size /\ w.heap.size + 2 <= dN /\ wc.heap.size <= wc.heap.size from ⟨Nat.le_trans N0.out N6.out.1, en s.out, Nat.le_trans N0.out N6.out.2, bj _⟩)
  replace HB := aM (Below.trans HB.out (HV.out.mono HB.out.size))
  obtain ⟨A9, c9, e9⟩ := Kd.S_slice I.out
  subst e9
  clear HV N0
  obtain ⟨p0, p1, p2, p3⟩ := cl4 EX.out
  go_wp2_with fail
  refine (gq.calls k a0 a1 Z A3 c3 l x0 x1 x2 x3 _ (Kd.C_below HC.out HB.out) hc D1.out).mono ?_
  rintro e w9 ⟨v8, rfl, hS, hb⟩
  obtain ⟨A8, c8, e8⟩ := Kd.S_slice hS
  subst e8
  have aN := aM (Kd.S_mono (ok' := fun q => wc.heap.size <= q /\ q < w9.heap.size) (Kd.S_bound hS) (fun q hq => ⟨hq.2.1, hq.2.2.1⟩))
  have N8 := aM (show b6 < wc.heap.size /\ w.heap.size + 2 <= wc.heap.size /\ wc.heap.size <= w9.heap.size from ⟨N6.out.2.1, Nat.le_trans N6.out.1 (Nat.le_of_lt N6.out.2.1), hb.size⟩)
  replace EX := aM (ai EX.out hb)
  replace MX := aM (ai MX.out hb)
  replace s := aM (ai s.out hb)
  replace I := aM (Kd.S_below I.out hb)
  replace HB := aM (ae HB.out hb)
  clear hS hb p0 p1 p2 p3
  replace EX := aM (ah EX.out (.cells #[.int .i64 x0, .string x1, .int .i64 x2, .slice A8 x3.length c8] 35))
  replace MX := aM (ah MX.out (.cells #[.int .i64 x0, .string x1, .int .i64 x2, .slice A8 x3.length c8] 35))
  replace s := aM (ah s.out (.cells #[.int .i64 x0, .string x1, .int .i64 x2, .slice A8 x3.length c8] 35))
  replace I := aM (Kd.S_alloc I.out (.cells #[.int .i64 x0, .string x1, .int .i64 x2, .slice A8 x3.length c8] 35))
  replace HB := aM (ab HB.out (.cells #[.int .i64 x0, .string x1, .int .i64 x2, .slice A8 x3.length c8] 35))
  replace aN := aM (Kd.S_alloc aN.out (.cells #[.int .i64 x0, .string x1, .int .i64 x2, .slice A8 x3.length c8] 35))
  have aF := aM (show (w9.alloc (.cells #[.int .i64 x0, .string x1, .int .i64 x2, .slice A8 x3.length c8] 35)).heap[w9.heap.size]? = some (.cells #[.int .i64 x0, .string x1, .int .i64 x2, .slice A8 x3.length c8] 35 (0, 0)) from by simpa using heap_alloc_new w9 _)
  have N9 := aM (show w9.heap.size < (w9.alloc (.cells #[.int .i64 x0, .string x1, .int .i64 x2, .slice A8 x3.length c8] 35)).heap.size from by simp)
  go_upto_region 10 with (fail)
  generalize w9.alloc (.cells #[.int .i64 x0, .string x1, .int .i64 x2, .slice A8 x3.length c8] 35) = W9 at EX MX s I HB aN aF N9 ⊢
  generalize w9.heap.size = h8 at aN N8 aF N9 ⊢
  generalize wc.heap.size = n8 at I aN N6 N8
  obtain ⟨p0, p1, p2, p3, p4, p5⟩ := cl6 MX.out
  go_wp2_with fail
  refine (fx.calls k b0 b1 b2 b3 b4 A5 c5 X y0 y1 y2 y3 y4 y5 _ (Kd.C_below bK.out HB.out) bJ D2.out).mono ?_
  rintro e a6 ⟨v9, rfl, hS, hb⟩
  obtain ⟨aT, c10, e10⟩ := Kd.R_slice hS
  subst e10
  have aP := aM (Kd.R_mono (ok' := fun q => W9.heap.size <= q /\ q < a6.heap.size) (Kd.R_bound hS) (fun q hq => ⟨hq.2.1, hq.2.2.1⟩))
  have N10 := aM (show h8 < W9.heap.size /\ W9.heap.size <= a6.heap.size from ⟨N9.out, hb.size⟩)
  replace EX := aM (ai EX.out hb)
  replace MX := aM (ai MX.out hb)
  replace s := aM (ai s.out hb)
  replace I := aM (Kd.S_below I.out hb)
  replace HB := aM (ae HB.out hb)
  replace aN := aM (Kd.S_below aN.out hb)
  replace aF := aM (ai aF.out hb)
  clear hS hb N9 p0 p1 p2 p3 p4 p5
  replace EX := aM (ah EX.out (.cells #[.int .i64 y0, .int .i64 y1, .int .i64 y2, .int .i64 y3, .string y4, .slice aT y5.length c10] 41))
  replace MX := aM (ah MX.out (.cells #[.int .i64 y0, .int .i64 y1, .int .i64 y2, .int .i64 y3, .string y4, .slice aT y5.length c10] 41))
  replace s := aM (ah s.out (.cells #[.int .i64 y0, .int .i64 y1, .int .i64 y2, .int .i64 y3, .string y4, .slice aT y5.length c10] 41))
  replace I := aM (Kd.S_alloc I.out (.cells #[.int .i64 y0, .int .i64 y1, .int .i64 y2, .int .i64 y3, .string y4, .slice aT y5.length c10] 41))
  replace HB := aM (ab HB.out (.cells #[.int .i64 y0, .int .i64 y1, .int .i64 y2, .int .i64 y3, .string y4, .slice aT y5.length c10] 41))
  replace aN := aM (Kd.S_alloc aN.out (.cells #[.int .i64 y0, .int .i64 y1, .int .i64 y2, .int .i64 y3, .string y4, .slice aT y5.length c10] 41))
  replace aF := aM (ah aF.out (.cells #[.int .i64 y0, .int .i64 y1, .int .i64 y2, .int .i64 y3, .string y4, .slice aT y5.length c10] 41))
  replace aP := aM (Kd.R_alloc aP.out (.cells #[.int .i64 y0, .int .i64 y1, .int .i64 y2, .int .i64 y3, .string y4, .slice aT y5.length c10] 41))
  have Y := aM (show (a6.alloc (.cells #[.int .i64 y0, .int .i64 y1, .int .i64 y2, .int .i64 y3, .string y4, .slice aT y5.length c10] 41)).heap[a6.heap.size]? = some (.cells #[.int .i64 y0, .int .i64 y1, .int .i64 y2, .int .i64 y3, .string y4, .slice aT y5.length c10] 41 (0, 0)) from by simpa using heap_alloc_new a6 _)
  have bX := aM (show a6.heap.size < (a6.alloc (.cells #[.int .i64 y0, .int .i64 y1, .int .i64 y2, .int .i64 y3, .string y4, .slice aT y5.length c10] 41)).heap.size from by simp)
  go_upto_region 11 with (fail)
  generalize a6.alloc (.cells #[.int .i64 y0, .int .i64 y1, .int .i64 y2, .int .i64 y3, .string y4, .slice aT y5.length c10] 41) = aX at EX MX s I HB aN aF aP Y bX ⊢
  generalize a6.heap.size = h9 at aP N10 Y bX ⊢
  generalize W9.heap.size = n9 at aP N10
  obtain ⟨p0, p1, p2, p3⟩ := cl4 aF.out
  obtain ⟨q0, q1, q2, q3, q4, q5⟩ := cl6 Y.out
  go_wp2_with fail
  refine (impl_Commit.calls k x0 x1 x2 A8 c8 x3 y0 y1 y2 y3 y4 aT c10 y5 D J O M r4 _ (Kd.S_reads' aN.out).2.2 (Kd.S_reads' aN.out).2.1 (Kd.R_reads' aP.out).2.2 (Kd.R_reads' aP.out).2.1 D4.out).mono ?_
  rintro e bG ⟨dZ, rfl, hS, hb⟩
  obtain ⟨aU, aV, e11⟩ := Kd.S_slice hS
  subst e11
  have U := aM (Kd.S_mono (ok' := fun q => aX.heap.size <= q /\ q < bG.heap.size) (Kd.S_bound hS) (fun q hq => ⟨hq.2.1, hq.2.2.1⟩))
  have N12 := aM (show h9 < aX.heap.size /\ aX.heap.size <= bG.heap.size from ⟨bX.out, hb.size⟩)
  replace EX := aM (ai EX.out hb)
  replace MX := aM (ai MX.out hb)
  replace s := aM (ai s.out hb)
  replace I := aM (Kd.S_below I.out hb)
  replace HB := aM (ae HB.out hb)
  replace aN := aM (Kd.S_below aN.out hb)
  replace aF := aM (ai aF.out hb)
  replace aP := aM (Kd.R_below aP.out hb)
  replace Y := aM (ai Y.out hb)
  clear hS hb bX p0 p1 p2 p3 q0 q1 q2 q3 q4 q5
  replace EX := aM (ah EX.out (.cells #[.int .i64 D, .string J, .int .i64 O, .slice aU M.length aV] 35))
  replace MX := aM (ah MX.out (.cells #[.int .i64 D, .string J, .int .i64 O, .slice aU M.length aV] 35))
  replace s := aM (ah s.out (.cells #[.int .i64 D, .string J, .int .i64 O, .slice aU M.length aV] 35))
  replace I := aM (Kd.S_alloc I.out (.cells #[.int .i64 D, .string J, .int .i64 O, .slice aU M.length aV] 35))
  replace HB := aM (ab HB.out (.cells #[.int .i64 D, .string J, .int .i64 O, .slice aU M.length aV] 35))
  replace aN := aM (Kd.S_alloc aN.out (.cells #[.int .i64 D, .string J, .int .i64 O, .slice aU M.length aV] 35))
  replace aF := aM (ah aF.out (.cells #[.int .i64 D, .string J, .int .i64 O, .slice aU M.length aV] 35))
  replace aP := aM (Kd.R_alloc aP.out (.cells #[.int .i64 D, .string J, .int .i64 O, .slice aU M.length aV] 35))
  replace Y := aM (ah Y.out (.cells #[.int .i64 D, .string J, .int .i64 O, .slice aU M.length aV] 35))
  replace U := aM (Kd.S_alloc U.out (.cells #[.int .i64 D, .string J, .int .i64 O, .slice aU M.length aV] 35))
  have y := aM (show (bG.alloc (.cells #[.int .i64 D, .string J, .int .i64 O, .slice aU M.length aV] 35)).heap[bG.heap.size]? = some (.cells #[.int .i64 D, .string J, .int .i64 O, .slice aU M.length aV] 35 (0, 0)) from by simpa using heap_alloc_new bG _)
  go_upto_region 12 with (fail)
  generalize bG.alloc (.cells #[.int .i64 D, .string J, .int .i64 O, .slice aU M.length aV] 35) = a7 at EX MX s I HB aN aF aP Y U y ⊢
  generalize bG.heap.size = aR at U N12 y ⊢
  generalize aX.heap.size = n10 at U N12
  obtain ⟨p0, p1, p2, p3⟩ := cl4 y.out
  obtain ⟨q0, q1, q2, q3⟩ := cl4 s.out
  go_wp2_with fail
  refine (ga.calls k D J O _ _ M D J O _ _ M true _ (Kd.S_reads' U.out).2.2 (Kd.S_reads' U.out).2.1 (Kd.S_reads' I.out).2.2 (Kd.S_reads' I.out).2.1 D5.out).mono ?_
  rintro e bY ⟨rfl, hb⟩
  replace EX := aM (ai EX.out hb)
  replace MX := aM (ai MX.out hb)
  replace s := aM (ai s.out hb)
  replace I := aM (Kd.S_below I.out hb)
  replace HB := aM (ae HB.out hb)
  replace aN := aM (Kd.S_below aN.out hb)
  replace aF := aM (ai aF.out hb)
  replace aP := aM (Kd.R_below aP.out hb)
  replace Y := aM (ai Y.out hb)
  replace U := aM (Kd.S_below U.out hb)
  replace y := aM (ai y.out hb)
  clear hb p0 p1 p2 p3 q0 q1 q2 q3
  go_upto_region 14 with (fail)
  have KEEP := aM (fun (W : World) (h1 : W.heap[h8]? = some (.cells #[.int .i64 x0, .string x1, .int .i64 x2, .slice A8 x3.length c8] 35 (0, 0))) (h2 : W.heap[w.heap.size]? = some (.cells #[.int .i64 a0, .string a1, .int .i64 Z, .slice A3 l.length c3] 26 (0, 0))) => (show W.cell? ⟨h8, 0, none⟩ = some (.int .i64 x0) /\ W.cell? ⟨h8, 1, none⟩ = some (.string x1) /\ W.cell? ⟨h8, 2, none⟩ = some (.int .i64 x2) /\ W.cell? ⟨h8, 3, none⟩ = some (.slice A8 x3.length c8) /\ W.cell? ⟨w.heap.size, 0, none⟩ = some (.int .i64 a0) /\ W.cell? ⟨w.heap.size, 1, none⟩ = some (.string a1) /\ W.cell? ⟨w.heap.size, 2, none⟩ = some (.int .i64 Z) /\ W.cell? ⟨w.heap.size, 3, none⟩ = some (.slice A3 l.length c3) from ⟨(al h1 0).trans rfl, (al h1 1).trans rfl, (al h1 2).trans rfl, (al h1 3).trans rfl, (al h2 0).trans rfl, (al h2 1).trans rfl, (al h2 2).trans rfl, (al h2 3).trans rfl⟩))
  go_region_held3 (fun W => W.cell? ⟨h8, 0, none⟩ = some (.int .i64 x0) /\ W.cell? ⟨h8, 1, none⟩ = some (.string x1) /\ W.cell? ⟨h8, 2, none⟩ = some (.int .i64 x2) /\ W.cell? ⟨h8, 3, none⟩ = some (.slice A8 x3.length c8) /\ W.cell? ⟨w.heap.size, 0, none⟩ = some (.int .i64 a0) /\ W.cell? ⟨w.heap.size, 1, none⟩ = some (.string a1) /\ W.cell? ⟨w.heap.size, 2, none⟩ = some (.int .i64 Z) /\ W.cell? ⟨w.heap.size, 3, none⟩ = some (.slice A3 l.length c3))
   (first | (have E_ := HV2; exact KEEP.out _ (blk_old aF.out HV2.out) (blk_old EX.out HV2.out)) | (have E_ := HV1; exact KEEP.out _ (blk_old aF.out HV1.out) (blk_old EX.out HV1.out)) | exact KEEP.out _ (ag aF.out) (ag EX.out) | go_keep)
   (first
    | (have E_ := HV1; go_at_call 10; refine (ga.calls k x0 x1 x2 _ _ x3 x0 x1 x2 _ _ x3 true _ (Kd.S_reads' (Kd.S_below aN.out (HV1.out))).2.2 (Kd.S_reads' aN.out).2.1 (Kd.S_reads' aY.out).2.2 (Kd.S_reads' aY.out).2.1 D6.out).mono ?_; rintro e bS ⟨rfl, hb⟩; have HV2 := aM (show Below bY.heap.size bY bS from Below.trans HV1.out (hb.mono HV1.out.size)); clear hb E_)
    | (go_at_call 7; refine (gq.calls k a0 a1 Z A3 c3 l x0 x1 x2 x3 _ (Kd.C_drew (Kd.C_below HC.out HB.out)) hc D1.out).mono ?_; rintro e u14 ⟨v, rfl, hS, hb⟩; obtain ⟨A6, c6, e6⟩ := Kd.S_slice hS; subst e6; have HV1 := aM (show Below bY.heap.size bY u14 from Below.trans (ac (bi _ _)) (hb.mono (bj _))); have aY := aM hS; clear hS hb))
  have hb := HV2.out
  replace EX := aM (ai EX.out hb)
  replace MX := aM (ai MX.out hb)
  replace s := aM (ai s.out hb)
  replace I := aM (Kd.S_below I.out hb)
  replace HB := aM (ae HB.out hb)
  replace aN := aM (Kd.S_below aN.out hb)
  replace aF := aM (ai aF.out hb)
  replace aP := aM (Kd.R_below aP.out hb)
  replace Y := aM (ai Y.out hb)
  replace U := aM (Kd.S_below U.out hb)
  replace y := aM (ai y.out hb)
  clear hb KEEP HV1 HV2 aY
  go_upto_region 16 with (fail)
  have KEEP := aM (fun (W : World) (h1 : W.heap[h9]? = some (.cells #[.int .i64 y0, .int .i64 y1, .int .i64 y2, .int .i64 y3, .string y4, .slice aT y5.length c10] 41 (0, 0))) (h2 : W.heap[w.heap.size + 1]? = some (.cells #[.int .i64 b0, .int .i64 b1, .int .i64 b2, .int .i64 b3, .string b4, .slice A5 X.length c5] 29 (0, 0))) => (show W.cell? ⟨h9, 0, none⟩ = some (.int .i64 y0) /\ W.cell? ⟨h9, 1, none⟩ = some (.int .i64 y1) /\ W.cell? ⟨h9, 2, none⟩ = some (.int .i64 y2) /\ W.cell? ⟨h9, 3, none⟩ = some (.int .i64 y3) /\ W.cell? ⟨h9, 4, none⟩ = some (.string y4) /\ W.cell? ⟨h9, 5, none⟩ = some (.slice aT y5.length c10) /\ W.cell? ⟨w.heap.size + 1, 0, none⟩ = some (.int .i64 b0) /\ W.cell? ⟨w.heap.size + 1, 1, none⟩ = some (.int .i64 b1) /\ W.cell? ⟨w.heap.size + 1, 2, none⟩ = some (.int .i64 b2) /\ W.cell? ⟨w.heap.size + 1, 3, none⟩ = some (.int .i64 b3) /\ W.cell? ⟨w.heap.size + 1, 4, none⟩ = some (.string b4) /\ W.cell? ⟨w.heap.size + 1, 5, none⟩ = some (.slice A5 X.length c5) from ⟨(al h1 0).trans rfl, (al h1 1).trans rfl, (al h1 2).trans rfl, (al h1 3).trans rfl, (al h1 4).trans rfl, (al h1 5).trans rfl, (al h2 0).trans rfl, (al h2 1).trans rfl, (al h2 2).trans rfl, (al h2 3).trans rfl, (al h2 4).trans rfl, (al h2 5).trans rfl⟩))
  go_region_held3 (fun W => W.cell? ⟨h9, 0, none⟩ = some (.int .i64 y0) /\ W.cell? ⟨h9, 1, none⟩ = some (.int .i64 y1) /\ W.cell? ⟨h9, 2, none⟩ = some (.int .i64 y2) /\ W.cell? ⟨h9, 3, none⟩ = some (.int .i64 y3) /\ W.cell? ⟨h9, 4, none⟩ = some (.string y4) /\ W.cell? ⟨h9, 5, none⟩ = some (.slice aT y5.length c10) /\ W.cell? ⟨w.heap.size + 1, 0, none⟩ = some (.int .i64 b0) /\ W.cell? ⟨w.heap.size + 1, 1, none⟩ = some (.int .i64 b1) /\ W.cell? ⟨w.heap.size + 1, 2, none⟩ = some (.int .i64 b2) /\ W.cell? ⟨w.heap.size + 1, 3, none⟩ = some (.int .i64 b3) /\ W.cell? ⟨w.heap.size + 1, 4, none⟩ = some (.string b4) /\ W.cell? ⟨w.heap.size + 1, 5, none⟩ = some (.slice A5 X.length c5))
   (first | (have E_ := HV2; exact KEEP.out _ (blk_old Y.out HV2.out) (blk_old MX.out HV2.out)) | (have E_ := HV1; exact KEEP.out _ (blk_old Y.out HV1.out) (blk_old MX.out HV1.out)) | exact KEEP.out _ (ag Y.out) (ag MX.out) | go_keep)
   (first
    | (have E_ := HV1; go_at_call 11; refine (laws_eqMutation.calls k y0 y1 y2 y3 y4 _ _ y5 y0 y1 y2 y3 y4 _ _ y5 true _ (Kd.R_reads' (Kd.R_below aP.out (HV1.out))).2.2 (Kd.R_reads' aP.out).2.1 (Kd.R_reads' aY.out).2.2 (Kd.R_reads' aY.out).2.1 D7.out).mono ?_; rintro e bT ⟨rfl, hb⟩; have HV2 := aM (show Below bS.heap.size bS bT from Below.trans HV1.out (hb.mono HV1.out.size)); clear hb E_)
    | (go_at_call 8; refine (fx.calls k b0 b1 b2 b3 b4 A5 c5 X y0 y1 y2 y3 y4 y5 _ (Kd.C_drew (Kd.C_below bK.out HB.out)) bJ D2.out).mono ?_; rintro e u16 ⟨v, rfl, hS, hb⟩; obtain ⟨A6, c6, e6⟩ := Kd.R_slice hS; subst e6; have HV1 := aM (show Below bS.heap.size bS u16 from Below.trans (ac (bi _ _)) (hb.mono (bj _))); have aY := aM hS; clear hS hb))
  have hb := HV2.out
  replace EX := aM (ai EX.out hb)
  replace MX := aM (ai MX.out hb)
  replace s := aM (ai s.out hb)
  replace I := aM (Kd.S_below I.out hb)
  replace HB := aM (ae HB.out hb)
  replace aN := aM (Kd.S_below aN.out hb)
  replace aF := aM (ai aF.out hb)
  replace aP := aM (Kd.R_below aP.out hb)
  replace Y := aM (ai Y.out hb)
  replace U := aM (Kd.S_below U.out hb)
  replace y := aM (ai y.out hb)
  clear hb KEEP HV1 HV2 aY
  obtain ⟨p0, p1, p2, p3⟩ := cl4 aF.out
  go_wp2_with fail
  refine (laws_markEngine.calls k (fun q => n8 <= q /\ q < h8) x0 x1 x2 _ x3 1 k1 x3' w _ HB.out (Kd.S_lower aN.out (by have i8_ := N8.out; omega)) D8.out).mono ?_
  rintro e bI ⟨rfl, -, hB, hk⟩
  clear p0 p1 p2 p3
  replace EX := aM ((hk.2 _ (en EX.out) (Z71)).trans EX.out)
  replace MX := aM ((hk.2 _ (en MX.out) (Z71)).trans MX.out)
  replace s := aM ((hk.2 _ (en s.out) (Z71)).trans s.out)
  replace I := aM (Kd.S_step I.out (fun q hq hlt => hk.2 q hlt (Z110)))
  replace aP := aM (Kd.R_step aP.out (fun q hq hlt => hk.2 q hlt (Z110)))
  replace Y := aM ((hk.2 _ (en Y.out) (Z71)).trans Y.out)
  replace U := aM (Kd.S_step U.out (fun q hq hlt => hk.2 q hlt (Z110)))
  replace y := aM ((hk.2 _ (en y.out) (Z71)).trans y.out)
  replace HB := aM hB
  clear aN aF hB hk
  obtain ⟨p0, p1, p2, p3, p4, p5⟩ := cl6 Y.out
  go_wp2_with fail
  refine (gu.calls k y0 y1 y2 y3 y4 (fun q => n9 <= q /\ q < h9) _ y5 k1 k2 y5' w _ HB.out (Kd.R_lower aP.out (by have i8_ := N8.out; have i10_ := N10.out; omega)) D9.out).mono ?_
  rintro e a8 ⟨rfl, -, hB, hk⟩
  clear p0 p1 p2 p3 p4 p5
  replace EX := aM ((hk.2 _ (en EX.out) (Z71)).trans EX.out)
  replace MX := aM ((hk.2 _ (en MX.out) (Z71)).trans MX.out)
  replace s := aM ((hk.2 _ (en s.out) (Z71)).trans s.out)
  replace I := aM (Kd.S_step I.out (fun q hq hlt => hk.2 q hlt (Z110)))
  replace U := aM (Kd.S_step U.out (fun q hq hlt => hk.2 q hlt (Z110)))
  replace y := aM ((hk.2 _ (en y.out) (Z71)).trans y.out)
  replace HB := aM hB
  clear aP Y hB hk
  obtain ⟨p0, p1, p2, p3⟩ := cl4 y.out
  obtain ⟨q0, q1, q2, q3⟩ := cl4 s.out
  go_wp2_with fail
  refine (ga.calls k D J O _ _ M D J O _ _ M true _ (Kd.S_reads' U.out).2.2 (Kd.S_reads' U.out).2.1 (Kd.S_reads' I.out).2.2 (Kd.S_reads' I.out).2.1 D5.out).mono ?_
  rintro e bZ ⟨rfl, hb⟩
  replace EX := aM (ai EX.out hb)
  replace MX := aM (ai MX.out hb)
  replace s := aM (ai s.out hb)
  replace I := aM (Kd.S_below I.out hb)
  replace HB := aM (ae HB.out hb)
  replace U := aM (Kd.S_below U.out hb)
  replace y := aM (ai y.out hb)
  clear hb p0 p1 p2 p3 q0 q1 q2 q3
  obtain ⟨p0, p1, p2, p3⟩ := cl4 y.out
  go_wp2_with fail
  refine (laws_markEngine.calls k (fun q => n10 <= q /\ q < aR) D J O _ M 1 m1 M' w _ HB.out (Kd.S_lower U.out (by have i8_ := N8.out; have i10_ := N10.out; have i12_ := N12.out; omega)) dD.out).mono ?_
  rintro e b7 ⟨rfl, hS, hB, hk⟩
  clear p0 p1 p2 p3
  replace EX := aM ((hk.2 _ (en EX.out) (Z71)).trans EX.out)
  replace MX := aM ((hk.2 _ (en MX.out) (Z71)).trans MX.out)
  replace s := aM ((hk.2 _ (en s.out) (Z71)).trans s.out)
  replace I := aM (Kd.S_step I.out (fun q hq hlt => hk.2 q hlt (Z110)))
  replace y := aM ((hk.2 _ (en y.out) (Z71)).trans y.out)
  replace HB := aM hB
  replace U := aM hS
  clear hS hB hk
  have HLR := aM (show M.length = M'.length from (Kd.S_reads' U.out).1)
  obtain ⟨p0, p1, p2, p3⟩ := cl4 y.out
  go_wp2_with fail
  rw [HLR.out]
  refine (laws_heldEngine.calls k D J O _ _ M' 1 m1 _ (Kd.S_reads' U.out).2.2 (by have h_ := (Kd.S_reads' U.out).2.1; have l_ := HLR.out; omega) cV.out).mono ?_
  rintro e a3 ⟨rfl, hb⟩
  replace EX := aM (ai EX.out hb)
  replace MX := aM (ai MX.out hb)
  replace s := aM (ai s.out hb)
  replace I := aM (Kd.S_below I.out hb)
  replace HB := aM (ae HB.out hb)
  replace y := aM (ai y.out hb)
  replace U := aM (Kd.S_below U.out hb)
  clear hb p0 p1 p2 p3
  go_upto_region 31 with (fail)
  go_cut [15, 16] (fun dR dS we => ∃ (b lo : Nat) (v : Value), dR = .pointer (some ⟨b, 0, none⟩) /\ dS = .int .i64 r4 /\ ap (we.heap[b]? = some (.cells #[.int .i64 D, .string J, .int .i64 O, v] 35 (0, 0))) /\ ap (a3.heap.size <= b /\ a3.heap.size <= lo) /\ ap (Kd.S k82 82 we lo (fun q => lo <= q /\ q < we.heap.size) v M) /\ ap (Below a3.heap.size a3 we))
  case first =>
   have KEEP := aM (fun (W : World) (h1 : W.heap[w.heap.size]? = some (.cells #[.int .i64 a0, .string a1, .int .i64 Z, .slice A3 l.length c3] 26 (0, 0))) (h2 : W.heap[w.heap.size + 1]? = some (.cells #[.int .i64 b0, .int .i64 b1, .int .i64 b2, .int .i64 b3, .string b4, .slice A5 X.length c5] 29 (0, 0))) => (show W.cell? ⟨w.heap.size, 0, none⟩ = some (.int .i64 a0) /\ W.cell? ⟨w.heap.size, 1, none⟩ = some (.string a1) /\ W.cell? ⟨w.heap.size, 2, none⟩ = some (.int .i64 Z) /\ W.cell? ⟨w.heap.size, 3, none⟩ = some (.slice A3 l.length c3) /\ W.cell? ⟨w.heap.size + 1, 0, none⟩ = some (.int .i64 b0) /\ W.cell? ⟨w.heap.size + 1, 1, none⟩ = some (.int .i64 b1) /\ W.cell? ⟨w.heap.size + 1, 2, none⟩ = some (.int .i64 b2) /\ W.cell? ⟨w.heap.size + 1, 3, none⟩ = some (.int .i64 b3) /\ W.cell? ⟨w.heap.size + 1, 4, none⟩ = some (.string b4) /\ W.cell? ⟨w.heap.size + 1, 5, none⟩ = some (.slice A5 X.length c5) from ⟨(al h1 0).trans rfl, (al h1 1).trans rfl, (al h1 2).trans rfl, (al h1 3).trans rfl, (al h2 0).trans rfl, (al h2 1).trans rfl, (al h2 2).trans rfl, (al h2 3).trans rfl, (al h2 4).trans rfl, (al h2 5).trans rfl⟩))
   go_region_held3 (fun W => W.cell? ⟨w.heap.size, 0, none⟩ = some (.int .i64 a0) /\ W.cell? ⟨w.heap.size, 1, none⟩ = some (.string a1) /\ W.cell? ⟨w.heap.size, 2, none⟩ = some (.int .i64 Z) /\ W.cell? ⟨w.heap.size, 3, none⟩ = some (.slice A3 l.length c3) /\ W.cell? ⟨w.heap.size + 1, 0, none⟩ = some (.int .i64 b0) /\ W.cell? ⟨w.heap.size + 1, 1, none⟩ = some (.int .i64 b1) /\ W.cell? ⟨w.heap.size + 1, 2, none⟩ = some (.int .i64 b2) /\ W.cell? ⟨w.heap.size + 1, 3, none⟩ = some (.int .i64 b3) /\ W.cell? ⟨w.heap.size + 1, 4, none⟩ = some (.string b4) /\ W.cell? ⟨w.heap.size + 1, 5, none⟩ = some (.slice A5 X.length c5))
    (first | (have E_ := EX3; exact KEEP.out _ (Z130) (Z131)) | (have E_ := EX2; exact KEEP.out _ (Z162) (Z163)) | (have E_ := EX1; exact KEEP.out _ (Z164) (Z165)) | (have E_ := EX; exact KEEP.out _ (Z166) (Z167)) | go_keep)
    (first
     | (have EX2_ := EX2; go_at_call 9; refine (impl_Commit.calls k x0 x1 x2 A6 c6 x3 y0 y1 y2 y3 y4 A7 c7 y5 D J O M r4 _ ?_ ?_ ?_ ?_ D4.out).mono ?_; (focus (repeat (first | exact (Kd.S_reads' bO.out).2.2 | (with_reducible refine Kd.C_alloc ?_ _) | (with_reducible refine Kd.C_drew ?_)))); (focus (exact (Kd.S_reads' bO.out).2.1)); (focus (repeat (first | exact (Kd.R_reads' bP.out).2.2 | (with_reducible refine Kd.C_alloc ?_ _) | (with_reducible refine Kd.C_drew ?_)))); (focus (exact (Kd.R_reads' bP.out).2.1)); rintro e u3 ⟨v, rfl, hS, hb⟩; obtain ⟨A8, c8, e8⟩ := Kd.S_slice hS; subst e8; (first | have LB := aM (made_behind_drew hb) | have LB := aM (made_behind hb) | (have LB_ := LB; have LB := aM (ai (o := (.cells #[.int .i64 0, .string ⟨#[]⟩, .int .i64 0, .slice none 0 0] 35 (0, 0))) LB_.out hb); clear LB_) | skip); (try (have LB_ := LB; obtain ⟨G0, G1, G2, G3, F0, F1, F2, F3⟩ := zero_cells LB_.out; clear LB_)); have EX3 := aM (ai (g := w.heap.size) (o := (.cells #[.int .i64 a0, .string a1, .int .i64 Z, .slice A3 l.length c3] 26 (0, 0))) (Z162) hb); have MX3 := aM (ai (g := w.heap.size + 1) (o := (.cells #[.int .i64 b0, .int .i64 b1, .int .i64 b2, .int .i64 b3, .string b4, .slice A5 X.length c5] 29 (0, 0))) (Z163) hb); have bA := aM (show Below a3.heap.size a3 u3 from Below.trans (by repeat (first | exact HV2.out | exact bi _ _ | apply ab | apply ac)) (hb.mono (by have h_ := HV2.out.size; first | omega | (simp; omega)))); have bR := aM (Kd.S_bound hS); have dM := aM hb.size; (try clear EX2_); (try clear hS); (try clear hb))
     | (have EX1_ := EX1; go_at_call 8; refine (fx.calls k b0 b1 b2 b3 b4 A5 c5 X y0 y1 y2 y3 y4 y5 _ (Kd.C_below bK.out (Below.trans HB.out (Below.mono (Z171) HB.out.size))) bJ D2.out).mono ?_; rintro e u2 ⟨v, rfl, hS, hb⟩; obtain ⟨A7, c7, e7⟩ := Kd.R_slice hS; subst e7; (first | have LB := aM (made_behind_drew hb) | have LB := aM (made_behind hb) | (have LB_ := LB; have LB := aM (ai (o := (.cells #[.int .i64 0, .string ⟨#[]⟩, .int .i64 0, .slice none 0 0] 35 (0, 0))) LB_.out hb); clear LB_) | skip); have EX2 := aM (ai (g := w.heap.size) (o := (.cells #[.int .i64 a0, .string a1, .int .i64 Z, .slice A3 l.length c3] 26 (0, 0))) (Z164) hb); have MX2 := aM (ai (g := w.heap.size + 1) (o := (.cells #[.int .i64 b0, .int .i64 b1, .int .i64 b2, .int .i64 b3, .string b4, .slice A5 X.length c5] 29 (0, 0))) (Z165) hb); have HV2 := aM (show Below a3.heap.size a3 u2 from Below.trans (Z171) (hb.mono (by have h_ := HV1.out.size; first | omega | (simp; omega)))); have bP := aM hS; have bO := aM (Kd.S_below (by repeat (first | exact aY.out | apply Kd.S_alloc | apply Kd.S_drew)) hb); (try clear EX1_); (try clear hS); (try clear hb))
     | (go_at_call 7; refine (gq.calls k a0 a1 Z A3 c3 l x0 x1 x2 x3 _ (Kd.C_below HC.out (by repeat (first | exact HB.out | apply ab | apply ac))) hc D1.out).mono ?_; rintro e u1 ⟨v, rfl, hS, hb⟩; obtain ⟨A6, c6, e6⟩ := Kd.S_slice hS; subst e6; (first | have LB := aM (made_behind_drew hb) | have LB := aM (made_behind hb) | (have LB_ := LB; have LB := aM (ai (o := (.cells #[.int .i64 0, .string ⟨#[]⟩, .int .i64 0, .slice none 0 0] 35 (0, 0))) LB_.out hb); clear LB_) | skip); have EX1 := aM (ai (g := w.heap.size) (o := (.cells #[.int .i64 a0, .string a1, .int .i64 Z, .slice A3 l.length c3] 26 (0, 0))) (Z166) hb); have MX1 := aM (ai (g := w.heap.size + 1) (o := (.cells #[.int .i64 b0, .int .i64 b1, .int .i64 b2, .int .i64 b3, .string b4, .slice A5 X.length c5] 29 (0, 0))) (Z167) hb); have HV1 := aM (show Below a3.heap.size a3 u1 from Below.trans (by repeat (first | exact bi _ _ | apply ab | apply ac)) (hb.mono (fg))); have aY := aM hS; (try clear hS); (try clear hb)))
   ·go_wp2
    go_meet
    exact ⟨u3.heap.size, _, _, rfl, rfl, ⟨by simpa using heap_alloc_new u3 _⟩, ⟨⟨bA.out.size, (Z193)⟩⟩, ⟨Kd.S_mono (Kd.S_alloc bR.out _) (fun q hq => ⟨hq.2.1, by have h_ := hq.2.2.1; simp; omega⟩)⟩, ⟨ab bA.out _⟩⟩
   all_goals (go_wp2; go_meet; exact ⟨_, _, _, rfl, rfl, ⟨(ch (cs := #[.int .i64 D, .string J, .int .i64 O, .slice none 0 0]) (ch (cs := #[.int .i64 D, .string J, .int .i64 0, .slice none 0 0]) (ch (cs := #[.int .i64 D, .string ⟨#[]⟩, .int .i64 0, .slice none 0 0]) (ch (cs := #[.int .i64 0, .string ⟨#[]⟩, .int .i64 0, .slice none 0 0]) LB.out 0 _ rfl) 1 _ rfl) 2 _ rfl) 3 _ rfl)⟩, ⟨⟨(Z97), (Z193)⟩⟩, ⟨Kd.S_mono (Kd.S_far (p := ⟨_, 3, none⟩) (Kd.S_far (p := ⟨_, 2, none⟩) (Kd.S_far (p := ⟨_, 1, none⟩) (Kd.S_far (p := ⟨_, 0, none⟩) (Kd.S_types bR.out LB.out (Z68)) (fun _ hk => hk.2) (.int .i64 D)) (fun _ hk => hk.2) (.string J)) (fun _ hk => hk.2) (.int .i64 O)) (fun _ hk => hk.2) (.slice A8 M.length c8)) (fun q hq => ⟨hq.1.2.1, by have h_ := hq.1.2.2.1; simpa using h_⟩)⟩, ⟨(aa (j := 3) (v := .slice A8 M.length c8) (aa (j := 2) (v := .int .i64 O) (aa (j := 1) (v := .string J) (aa (j := 0) (v := .int .i64 D) bA.out (Z97)) (Z97)) (Z97)) (Z97))⟩⟩)
  case rest =>
   obtain ⟨b8, d0, eA, rfl, rfl, a9, zq, bH, HV⟩ := hcut
   obtain ⟨dU, dV, e15⟩ := Kd.S_slice bH.out
   subst e15
   have hb := HV.out
   replace EX := aM (ai EX.out hb)
   replace MX := aM (ai MX.out hb)
   replace s := aM (ai s.out hb)
   replace I := aM (Kd.S_below I.out hb)
   replace HB := aM (ae HB.out hb)
   replace y := aM (ai y.out hb)
   replace U := aM (Kd.S_below U.out hb)
   clear hb HV zq
   obtain ⟨p0, p1, p2, p3⟩ := cl4 a9.out
   obtain ⟨q0, q1, q2, q3⟩ := cl4 s.out
   go_wp2_with fail
   refine (ga.calls k D J O _ _ M D J O _ _ M true _ (Kd.S_reads' bH.out).2.2 (Kd.S_reads' bH.out).2.1 (Kd.S_reads' I.out).2.2 (Kd.S_reads' I.out).2.1 D5.out).mono ?_
   rintro e b9 ⟨rfl, hb⟩
   replace EX := aM (ai EX.out hb)
   replace MX := aM (ai MX.out hb)
   replace s := aM (ai s.out hb)
   replace I := aM (Kd.S_below I.out hb)
   replace HB := aM (ae HB.out hb)
   replace y := aM (ai y.out hb)
   replace U := aM (Kd.S_below U.out hb)
   replace a9 := aM (ai a9.out hb)
   replace bH := aM (Kd.S_below bH.out hb)
   clear hb p0 p1 p2 p3 q0 q1 q2 q3
   obtain ⟨p0, p1, p2, p3⟩ := cl4 y.out
   go_wp2_with fail
   rw [HLR.out]
   refine (laws_heldEngine.calls k D J O _ _ M' 1 m1 _ (Kd.S_reads' U.out).2.2 (by have h_ := (Kd.S_reads' U.out).2.1; have l_ := HLR.out; omega) cV.out).mono ?_
   rintro e eB ⟨rfl, hb⟩
   replace EX := aM (ai EX.out hb)
   replace MX := aM (ai MX.out hb)
   replace s := aM (ai s.out hb)
   replace I := aM (Kd.S_below I.out hb)
   replace HB := aM (ae HB.out hb)
   replace y := aM (ai y.out hb)
   replace U := aM (Kd.S_below U.out hb)
   replace a9 := aM (ai a9.out hb)
   replace bH := aM (Kd.S_below bH.out hb)
   clear hb p0 p1 p2 p3
   go_wp2
   go_ret
   exact ⟨rfl, HB.out⟩
end Go.Proofs.YtifkmkiljpeaaadGreat.PFnExactCommit
