import Derived.Test.YtifkmkiljpeaaadGreatPFnExactCommitxA
import Derived.Test.YtifkmkiljpeaaadGreatPFnExactCommitxC
import Derived.Test.YtifkmkiljpeaaadGreatPFnExactCommitxB
set_option maxHeartbeats 40000000
set_option maxRecDepth 100000
namespace Go.Proofs.YtifkmkiljpeaaadGreat.PFnExactCommit
open Go.RowKit Go.Proofs.YtifkmkiljpeaaadGreatW.PrintWords Go.Proofs.YtifkmkiljpeaaadGreatW.PrintLast Go.Proofs.YtifkmkiljpeaaadGreatW.PrintMore Go.Proofs.YtifkmkiljpeaaadGreat.Mac Go.Proofs.Tryz
set_option linter.unusedVariables false
set_option linter.unusedSimpArgs false
def s_commit (s0 : Int) (s1 : ByteArray) (s2 : Int) (bx : List S82) (kind uid mode flags : Int) (nm : ByteArray) (l : List S84) : Option (Int × ByteArray × Int × List S82 × Int) :=
 if bx.length <= 1048576 /\ (∀ b ∈ bx, b.f3.length <= 1048576 /\ b.f4.length <= 1048576) /\ l.length <= 1048576 then
  (if (gi bx kind uid mode flags nm l).2 ≠ 0 then some (s0, s1, s2, bx, (gi bx kind uid mode flags nm l).2) else
   (spec_l09Bytes.f kind uid mode flags nm l).bind fun t => if 20000 < t.length then some (s0, s1, s2, bx, 7) else
    (spec_l08Append.f s0 s1 s2 (strOfNums t)).bind fun u => if u.2.2.2 ≠ 0 then some (s0, s1, s2, bx, u.2.2.2) else
     (spec_l08Sync.f u.1 u.2.1 u.2.2.1).bind fun v => some (v.1, v.2.1, v.2.2, (gi bx kind uid mode flags nm l).1, 0))
  else none
section
variable (k : Nat) (s0 : Int) (s1 : ByteArray) (s2 : Int) (A3 : Option Addr) (c3 : Nat) (bx : List S82) (kind uid mode flags : Int) (nm : ByteArray) (A : Option Addr) (c : Nat) (l : List S84) (r1 : Int) (r2 : ByteArray) (r3 : Int) (r4 : List S82) (r5 : Int) (w : World)
theorem s_l10Commit (h3 : Kd.C k82 w A3 bx.length bx) (aL : bx.length <= c3) (hC : Kd.C k84 w A l.length l) (hc : l.length <= c) (h : s_commit s0 s1 s2 bx kind uid mode flags nm l = some (r1, r2, r3, r4, r5)) :
  Calls prog 19 #[.agg #[.int .i64 s0, .string s1, .int .i64 s2, .slice A3 bx.length c3], .agg #[.int .i64 kind, .int .i64 uid, .int .i64 mode, .int .i64 flags, .string nm, .slice A l.length c]] w fun e w' => ∃ A' c', e = .returned (.tuple #[.agg #[.int .i64 r1, .string r2, .int .i64 r3, .slice A' r4.length c'], .int .i64 r5]) /\ r4.length <= c' /\ Kd.C k82 w' A' r4.length r4 /\ Below w.heap.size w w' := by
 unfold s_commit at h
 split at h
 case isFalse => cases h
 rename_i hin
 have HI := aM hin
 have aN := aM h3
 have HC := aM hC
 have EX := aM (ah (ah (show (w.alloc (.cells #[.int .i64 s0, .string s1, .int .i64 s2, .slice A3 bx.length c3] 35)).heap[w.heap.size]? = some (.cells #[.int .i64 s0, .string s1, .int .i64 s2, .slice A3 bx.length c3] 35 (0, 0)) from by simpa using heap_alloc_new w _) (.cells #[.int .i64 kind, .int .i64 uid, .int .i64 mode, .int .i64 flags, .string nm, .slice A l.length c] 41)) (.cells #[.int .i64 0, .string ⟨#[]⟩, .int .i64 0, .slice none 0 0] 35))
 have MX := aM (ah (show ((w.alloc (.cells #[.int .i64 s0, .string s1, .int .i64 s2, .slice A3 bx.length c3] 35)).alloc (.cells #[.int .i64 kind, .int .i64 uid, .int .i64 mode, .int .i64 flags, .string nm, .slice A l.length c] 41)).heap[w.heap.size + 1]? = some (.cells #[.int .i64 kind, .int .i64 uid, .int .i64 mode, .int .i64 flags, .string nm, .slice A l.length c] 41 (0, 0)) from by simpa using heap_alloc_new (w.alloc (.cells #[.int .i64 s0, .string s1, .int .i64 s2, .slice A3 bx.length c3] 35)) _) (.cells #[.int .i64 0, .string ⟨#[]⟩, .int .i64 0, .slice none 0 0] 35))
 have RX := aM (show (((w.alloc (.cells #[.int .i64 s0, .string s1, .int .i64 s2, .slice A3 bx.length c3] 35)).alloc (.cells #[.int .i64 kind, .int .i64 uid, .int .i64 mode, .int .i64 flags, .string nm, .slice A l.length c] 41)).alloc (.cells #[.int .i64 0, .string ⟨#[]⟩, .int .i64 0, .slice none 0 0] 35)).heap[w.heap.size + 1 + 1]? = some (.cells #[.int .i64 0, .string ⟨#[]⟩, .int .i64 0, .slice none 0 0] 35 (0, 0)) from by simpa using heap_alloc_new ((w.alloc (.cells #[.int .i64 s0, .string s1, .int .i64 s2, .slice A3 bx.length c3] 35)).alloc (.cells #[.int .i64 kind, .int .i64 uid, .int .i64 mode, .int .i64 flags, .string nm, .slice A l.length c] 41)) _)
 have HB := aM (ab (ab (ab (bi w.heap.size w) (.cells #[.int .i64 s0, .string s1, .int .i64 s2, .slice A3 bx.length c3] 35)) (.cells #[.int .i64 kind, .int .i64 uid, .int .i64 mode, .int .i64 flags, .string nm, .slice A l.length c] 41)) (.cells #[.int .i64 0, .string ⟨#[]⟩, .int .i64 0, .slice none 0 0] 35))
 have s : w.heap.size <= w.heap.size + 1 + 1 := by omega
 clear hin h3 hC
 go_enter func19, ntmps19
 go_upto_region 1 with (fail)
 generalize ((w.alloc (.cells #[.int .i64 s0, .string s1, .int .i64 s2, .slice A3 bx.length c3] 35)).alloc (.cells #[.int .i64 kind, .int .i64 uid, .int .i64 mode, .int .i64 flags, .string nm, .slice A l.length c] 41)).alloc (.cells #[.int .i64 0, .string ⟨#[]⟩, .int .i64 0, .slice none 0 0] 35) = W1 at EX MX RX HB ⊢
 obtain ⟨y0, y1, y2, y3⟩ := cl4 EX.out
 obtain ⟨m0, m1, m2, m3, m4, m5⟩ := cl6 MX.out
 go_wp2_with fail
 refine (s_apply A3 c3 bx kind uid mode flags nm A c l _ (Kd.C_below aN.out HB.out) aL (Kd.C_below HC.out HB.out) HI.out.1 HI.out.2.1 HI.out.2.2).mono ?_
 rintro e w2 ⟨v, rfl, hS, aG⟩
 have EX2 := aM (ai EX.out aG)
 have MX2 := aM (ai MX.out aG)
 have I := aM (ai RX.out aG)
 have HB2 := aM (ae HB.out aG)
 have aX := aM (show w.heap.size <= W1.heap.size /\ w.heap.size + 1 + 1 < W1.heap.size from ⟨HB.out.size, en RX.out⟩)
 obtain ⟨q, hq⟩ : ∃ q, gi bx kind uid mode flags nm l = q := ⟨_, rfl⟩
 rw [hq] at h hS ⊢
 obtain ⟨q1, q2⟩ := q
 clear EX MX RX HB aG hq y0 y1 y2 y3 m0 m1 m2 m3 m4 m5
 by_cases h2 : q2 = 0
 ·subst h2
  have HS := aM (Kd.S_mono (ok' := fun k_ => W1.heap.size <= k_) (Kd.S_bound (hS rfl)) (fun k_ hk => hk.2.1))
  rw [if_neg (fg)] at h
  obtain ⟨t, ht, h⟩ := Option.bind_eq_some_iff.mp h
  have HT := aM ht
  obtain ⟨A5, c5, e5⟩ := Kd.S_slice HS.out
  subst e5
  clear hS ht
  obtain ⟨m0, m1, m2, m3, m4, m5⟩ := cl6 MX2.out
  go_wp2_with fail
  refine (spec_l09Bytes.calls kind uid mode flags nm A c l t _ (Kd.C_below HC.out HB2.out) hc HT.out).mono ?_
  rintro e w3 ⟨v3, rfl, hR, aI⟩
  obtain ⟨A6, c6, e6⟩ := Kd.R_slice hR
  subst e6
  have hcv := own_string (P := prog) underlying74 underlying5 underlying9 (Kd.own_of_R hR)
  have EX3 := aM (ai EX2.out aI)
  have J := aM (ai I.out aI)
  have aO := aM (ae HB2.out aI)
  have aV := aM (Kd.S_below HS.out aI)
  clear EX2 MX2 I HB2 HS HT hR aI m0 m1 m2 m3 m4 m5
  by_cases h4 : 20000 < t.length
  ·rw [if_pos h4] at h
   simp only [Option.some.injEq, Prod.mk.injEq] at h
   obtain ⟨rfl, rfl, rfl, rfl, rfl⟩ := h
   have t1 : decide ((20000 : Int) < (t.length : Int)) = true := az (Z31)
   clear h4 hcv
   obtain ⟨y0, y1, y2, y3⟩ := cl4 EX3.out
   have HH := aM (show ((((w3.setCell ⟨w.heap.size + 1 + 1, 0, none⟩ (.int .i64 s0)).setCell ⟨w.heap.size + 1 + 1, 1, none⟩ (.string s1)).setCell ⟨w.heap.size + 1 + 1, 2, none⟩ (.int .i64 s2)).setCell ⟨w.heap.size + 1 + 1, 3, none⟩ (.slice A3 bx.length c3)).heap[w.heap.size + 1 + 1]? = some (.cells #[.int .i64 s0, .string s1, .int .i64 s2, .slice A3 bx.length c3] 35 (0, 0)) from (ch (cs := #[.int .i64 s0, .string s1, .int .i64 s2, .slice none 0 0]) (ch (cs := #[.int .i64 s0, .string s1, .int .i64 0, .slice none 0 0]) (ch (cs := #[.int .i64 s0, .string ⟨#[]⟩, .int .i64 0, .slice none 0 0]) (ch (cs := #[.int .i64 0, .string ⟨#[]⟩, .int .i64 0, .slice none 0 0]) J.out 0 _ rfl) 1 _ rfl) 2 _ rfl) 3 _ rfl))
   have HBF := aM (aa (j := 3) (v := .slice A3 bx.length c3) (aa (j := 2) (v := .int .i64 s2) (aa (j := 1) (v := .string s1) (aa (j := 0) (v := .int .i64 s0) aO.out s) s) s) s)
   have f0 := am J.out 0
   have f1 := am J.out 1
   have f2 := am J.out 2
   have f3 := am J.out 3
   obtain ⟨r0, r1, r2, r3⟩ := cl4 J.out
   clear J aO
   go_wp2
   refine bodyPost_ret (fk rfl _ _ (w.heap.size + 1 + 1) 35 #[.int .i64 s0, .string s1, .int .i64 s2, .slice A3 bx.length c3] (0, 0) _ rfl HH.out underlying35 rfl (Z16)) rfl ?_
   exact ⟨A3, c3, rfl, aL, Kd.C_below aN.out HBF.out, HBF.out⟩
  rw [if_neg h4] at h
  have t1 : decide ((20000 : Int) < (t.length : Int)) = false := ba (Z31)
  obtain ⟨⟨u0, u1, u2, u3⟩, hu, h⟩ := Option.bind_eq_some_iff.mp h
  have HU := aM hu
  clear hu h4
  obtain ⟨y0, y1, y2, y3⟩ := cl4 EX3.out
  go_wp2_with fail
  refine (spec_l08Append.calls s0 s1 s2 (strOfNums t) u0 u1 u2 u3 _ HU.out).mono ?_
  rintro e w4 ⟨rfl, aJ⟩
  have Y := aM (ah (ai EX3.out aJ) (.cells #[.int .i64 u0, .string u1, .int .i64 u2] 32))
  have y := aM (ah (ai J.out aJ) (.cells #[.int .i64 u0, .string u1, .int .i64 u2] 32))
  have aF := aM (ab (ae aO.out aJ) (.cells #[.int .i64 u0, .string u1, .int .i64 u2] 32))
  have aK := aM (Kd.S_alloc (Kd.S_below aV.out aJ) (.cells #[.int .i64 u0, .string u1, .int .i64 u2] 32))
  have U := aM (show (w4.alloc (.cells #[.int .i64 u0, .string u1, .int .i64 u2] 32)).heap[w4.heap.size]? = some (.cells #[.int .i64 u0, .string u1, .int .i64 u2] 32 (0, 0)) from by simpa using heap_alloc_new w4 _)
  clear EX3 J aO aV HU aJ y0 y1 y2 y3 hcv
  by_cases h5 : u3 = 0
  ·subst h5
   rw [if_neg (fg)] at h
   obtain ⟨⟨O, X, Z⟩, hv, h⟩ := Option.bind_eq_some_iff.mp h
   simp only [Option.some.injEq, Prod.mk.injEq] at h
   obtain ⟨rfl, rfl, rfl, rfl, rfl⟩ := h
   have HV := aM hv
   clear hv
   go_upto_region 8 with (fail)
   generalize w4.alloc (.cells #[.int .i64 u0, .string u1, .int .i64 u2] 32) = D at Y y aF aK U ⊢
   generalize w4.heap.size = g at U ⊢
   obtain ⟨l0, l1, l2⟩ := cl3 U.out
   go_wp2_with fail
   refine (spec_l08Sync.calls u0 u1 u2 O X Z _ HV.out).mono ?_
   rintro e w6 ⟨rfl, aR⟩
   have M := aM (ai y.out aR)
   have aW := aM (ae aF.out aR)
   have a3 := aM (Kd.S_mono (ok' := fun k_ => True /\ k_ ≠ w.heap.size + 1 + 1) (Kd.S_below aK.out aR) (fun k_ hk => ⟨trivial, by have := aX.out.2; omega⟩))
   clear Y y aF aK U HV aR l0 l1 l2
   have HH := aM (show ((((w6.setCell ⟨w.heap.size + 1 + 1, 0, none⟩ (.int .i64 O)).setCell ⟨w.heap.size + 1 + 1, 1, none⟩ (.string X)).setCell ⟨w.heap.size + 1 + 1, 2, none⟩ (.int .i64 Z)).setCell ⟨w.heap.size + 1 + 1, 3, none⟩ (.slice A5 q1.length c5)).heap[w.heap.size + 1 + 1]? = some (.cells #[.int .i64 O, .string X, .int .i64 Z, .slice A5 q1.length c5] 35 (0, 0)) from (ch (cs := #[.int .i64 O, .string X, .int .i64 Z, .slice none 0 0]) (ch (cs := #[.int .i64 O, .string X, .int .i64 0, .slice none 0 0]) (ch (cs := #[.int .i64 O, .string ⟨#[]⟩, .int .i64 0, .slice none 0 0]) (ch (cs := #[.int .i64 0, .string ⟨#[]⟩, .int .i64 0, .slice none 0 0]) M.out 0 _ rfl) 1 _ rfl) 2 _ rfl) 3 _ rfl))
   have HBF := aM (aa (j := 3) (v := .slice A5 q1.length c5) (aa (j := 2) (v := .int .i64 Z) (aa (j := 1) (v := .string X) (aa (j := 0) (v := .int .i64 O) aW.out s) s) s) s)
   have f0 := am M.out 0
   have f1 := am M.out 1
   have f2 := am M.out 2
   have f3 := am M.out 3
   obtain ⟨r0, r1, r2, r3⟩ := cl4 M.out
   have HCF := aM (Kd.S_far (p := ⟨w.heap.size + 1 + 1, 3, none⟩) (Kd.S_far (p := ⟨w.heap.size + 1 + 1, 2, none⟩) (Kd.S_far (p := ⟨w.heap.size + 1 + 1, 1, none⟩) (Kd.S_far (p := ⟨w.heap.size + 1 + 1, 0, none⟩) a3.out (fun _ hk => hk.2) (.int .i64 O)) (fun _ hk => hk.2) (.string X)) (fun _ hk => hk.2) (.int .i64 Z)) (fun _ hk => hk.2) (.slice A5 q1.length c5))
   clear M aW
   go_wp2
   refine bodyPost_ret (fk rfl _ _ (w.heap.size + 1 + 1) 35 #[.int .i64 O, .string X, .int .i64 Z, .slice A5 q1.length c5] (0, 0) _ rfl HH.out underlying35 rfl (Z16)) rfl ?_
   exact ⟨A5, c5, rfl, (Kd.S_reads' HCF.out).2.1, (Kd.S_reads' HCF.out).2.2, HBF.out⟩
  rw [if_pos h5] at h
  simp only [Option.some.injEq, Prod.mk.injEq] at h
  obtain ⟨rfl, rfl, rfl, rfl, rfl⟩ := h
  have hb : (u3 != 0) = true := by simpa using h5
  clear h5
  go_upto_region 8 with (fail)
  generalize w4.alloc (.cells #[.int .i64 u0, .string u1, .int .i64 u2] 32) = D at Y y aF aK U ⊢
  clear aK U
  obtain ⟨y0, y1, y2, y3⟩ := cl4 Y.out
  have HH := aM (show ((((D.setCell ⟨w.heap.size + 1 + 1, 0, none⟩ (.int .i64 s0)).setCell ⟨w.heap.size + 1 + 1, 1, none⟩ (.string s1)).setCell ⟨w.heap.size + 1 + 1, 2, none⟩ (.int .i64 s2)).setCell ⟨w.heap.size + 1 + 1, 3, none⟩ (.slice A3 bx.length c3)).heap[w.heap.size + 1 + 1]? = some (.cells #[.int .i64 s0, .string s1, .int .i64 s2, .slice A3 bx.length c3] 35 (0, 0)) from (ch (cs := #[.int .i64 s0, .string s1, .int .i64 s2, .slice none 0 0]) (ch (cs := #[.int .i64 s0, .string s1, .int .i64 0, .slice none 0 0]) (ch (cs := #[.int .i64 s0, .string ⟨#[]⟩, .int .i64 0, .slice none 0 0]) (ch (cs := #[.int .i64 0, .string ⟨#[]⟩, .int .i64 0, .slice none 0 0]) y.out 0 _ rfl) 1 _ rfl) 2 _ rfl) 3 _ rfl))
  have HBF := aM (aa (j := 3) (v := .slice A3 bx.length c3) (aa (j := 2) (v := .int .i64 s2) (aa (j := 1) (v := .string s1) (aa (j := 0) (v := .int .i64 s0) aF.out s) s) s) s)
  have f0 := am y.out 0
  have f1 := am y.out 1
  have f2 := am y.out 2
  have f3 := am y.out 3
  obtain ⟨r0, r1, r2, r3⟩ := cl4 y.out
  clear y aF
  go_wp2
  refine bodyPost_ret (fk rfl _ _ (w.heap.size + 1 + 1) 35 #[.int .i64 s0, .string s1, .int .i64 s2, .slice A3 bx.length c3] (0, 0) _ rfl HH.out underlying35 rfl (Z16)) rfl ?_
  exact ⟨A3, c3, rfl, aL, Kd.C_below aN.out HBF.out, HBF.out⟩
 rw [if_pos h2] at h
 simp only [Option.some.injEq, Prod.mk.injEq] at h
 obtain ⟨rfl, rfl, rfl, rfl, rfl⟩ := h
 have hb : (q2 != 0) = true := by simpa using h2
 clear h2 hS
 obtain ⟨y0, y1, y2, y3⟩ := cl4 EX2.out
 have HH := aM (show ((((w2.setCell ⟨w.heap.size + 1 + 1, 0, none⟩ (.int .i64 s0)).setCell ⟨w.heap.size + 1 + 1, 1, none⟩ (.string s1)).setCell ⟨w.heap.size + 1 + 1, 2, none⟩ (.int .i64 s2)).setCell ⟨w.heap.size + 1 + 1, 3, none⟩ (.slice A3 bx.length c3)).heap[w.heap.size + 1 + 1]? = some (.cells #[.int .i64 s0, .string s1, .int .i64 s2, .slice A3 bx.length c3] 35 (0, 0)) from (ch (cs := #[.int .i64 s0, .string s1, .int .i64 s2, .slice none 0 0]) (ch (cs := #[.int .i64 s0, .string s1, .int .i64 0, .slice none 0 0]) (ch (cs := #[.int .i64 s0, .string ⟨#[]⟩, .int .i64 0, .slice none 0 0]) (ch (cs := #[.int .i64 0, .string ⟨#[]⟩, .int .i64 0, .slice none 0 0]) I.out 0 _ rfl) 1 _ rfl) 2 _ rfl) 3 _ rfl))
 have HBF := aM (aa (j := 3) (v := .slice A3 bx.length c3) (aa (j := 2) (v := .int .i64 s2) (aa (j := 1) (v := .string s1) (aa (j := 0) (v := .int .i64 s0) HB2.out s) s) s) s)
 have f0 := am I.out 0
 have f1 := am I.out 1
 have f2 := am I.out 2
 have f3 := am I.out 3
 obtain ⟨r0, r1, r2, r3⟩ := cl4 I.out
 clear I HB2
 go_wp2
 refine bodyPost_ret (fk rfl _ _ (w.heap.size + 1 + 1) 35 #[.int .i64 s0, .string s1, .int .i64 s2, .slice A3 bx.length c3] (0, 0) _ rfl HH.out underlying35 rfl (Z16)) rfl ?_
 exact ⟨A3, c3, rfl, aL, Kd.C_below aN.out HBF.out, HBF.out⟩
end
def spec_Commit.f (k : Nat) (s0 : Int) (s1 : ByteArray) (s2 : Int) (bx : List S82) (kind uid mode flags : Int) (nm : ByteArray) (l : List S84) : Option (Int × ByteArray × Int × List S82 × Int) :=
 (spec_l10Ask.f k s0 s1 s2 bx kind uid mode flags nm l).bind fun a => if a ≠ 0 then some (0, ⟨#[]⟩, 0, [], a) else
  (s_commit s0 s1 s2 bx kind uid mode flags nm l).bind fun q => (spec_l10Own.f k q.1 q.2.1 q.2.2.1 q.2.2.2.1).bind fun o => some (o.1, o.2.1, o.2.2.1, o.2.2.2, q.2.2.2.2)
theorem spec_Commit.calls (k : Nat) (s0 : Int) (s1 : ByteArray) (s2 : Int) (A3 : Option Addr) (c3 : Nat) (bx : List S82) (kind uid mode flags : Int) (nm : ByteArray) (A : Option Addr) (c : Nat) (l : List S84) (r1 : Int) (r2 : ByteArray) (r3 : Int) (r4 : List S82) (r5 : Int) (w : World)
  (h3 : Kd.C k82 w A3 bx.length bx) (aP : bx.length <= c3) (hC : Kd.C k84 w A l.length l) (hc : l.length <= c) (h : spec_Commit.f k s0 s1 s2 bx kind uid mode flags nm l = some (r1, r2, r3, r4, r5)) :
  Calls prog 6 #[.agg #[.int .i64 s0, .string s1, .int .i64 s2, .slice A3 bx.length c3], .agg #[.int .i64 kind, .int .i64 uid, .int .i64 mode, .int .i64 flags, .string nm, .slice A l.length c]] w fun e w' => ∃ v3_ : Value, e = .returned (.tuple #[.agg #[.int .i64 r1, .string r2, .int .i64 r3, v3_], .int .i64 r5]) /\ Kd.S k82 82 w' w.heap.size (fun _ => True) v3_ r4 /\ Below w.heap.size w w' := by
 unfold spec_Commit.f at h
 obtain ⟨a, ha, h⟩ := Option.bind_eq_some_iff.mp h
 have HA := aM ha
 have aQ := aM h3
 have HC := aM hC
 have EX := aM (ah (ah (show (w.alloc (.cells #[.int .i64 s0, .string s1, .int .i64 s2, .slice A3 bx.length c3] 35)).heap[w.heap.size]? = some (.cells #[.int .i64 s0, .string s1, .int .i64 s2, .slice A3 bx.length c3] 35 (0, 0)) from by simpa using heap_alloc_new w _) (.cells #[.int .i64 kind, .int .i64 uid, .int .i64 mode, .int .i64 flags, .string nm, .slice A l.length c] 41)) (.cells #[.int .i64 0, .string ⟨#[]⟩, .int .i64 0, .slice none 0 0] 35))
 have MX := aM (ah (show ((w.alloc (.cells #[.int .i64 s0, .string s1, .int .i64 s2, .slice A3 bx.length c3] 35)).alloc (.cells #[.int .i64 kind, .int .i64 uid, .int .i64 mode, .int .i64 flags, .string nm, .slice A l.length c] 41)).heap[w.heap.size + 1]? = some (.cells #[.int .i64 kind, .int .i64 uid, .int .i64 mode, .int .i64 flags, .string nm, .slice A l.length c] 41 (0, 0)) from by simpa using heap_alloc_new (w.alloc (.cells #[.int .i64 s0, .string s1, .int .i64 s2, .slice A3 bx.length c3] 35)) _) (.cells #[.int .i64 0, .string ⟨#[]⟩, .int .i64 0, .slice none 0 0] 35))
 have RX := aM (show (((w.alloc (.cells #[.int .i64 s0, .string s1, .int .i64 s2, .slice A3 bx.length c3] 35)).alloc (.cells #[.int .i64 kind, .int .i64 uid, .int .i64 mode, .int .i64 flags, .string nm, .slice A l.length c] 41)).alloc (.cells #[.int .i64 0, .string ⟨#[]⟩, .int .i64 0, .slice none 0 0] 35)).heap[w.heap.size + 1 + 1]? = some (.cells #[.int .i64 0, .string ⟨#[]⟩, .int .i64 0, .slice none 0 0] 35 (0, 0)) from by simpa using heap_alloc_new ((w.alloc (.cells #[.int .i64 s0, .string s1, .int .i64 s2, .slice A3 bx.length c3] 35)).alloc (.cells #[.int .i64 kind, .int .i64 uid, .int .i64 mode, .int .i64 flags, .string nm, .slice A l.length c] 41)) _)
 have HB := aM (ab (ab (ab (bi w.heap.size w) (.cells #[.int .i64 s0, .string s1, .int .i64 s2, .slice A3 bx.length c3] 35)) (.cells #[.int .i64 kind, .int .i64 uid, .int .i64 mode, .int .i64 flags, .string nm, .slice A l.length c] 41)) (.cells #[.int .i64 0, .string ⟨#[]⟩, .int .i64 0, .slice none 0 0] 35))
 have U : w.heap.size <= w.heap.size + 1 + 1 := by omega
 clear ha h3 hC
 go_enter func6, ntmps6
 go_upto_region 1 with (fail)
 generalize ((w.alloc (.cells #[.int .i64 s0, .string s1, .int .i64 s2, .slice A3 bx.length c3] 35)).alloc (.cells #[.int .i64 kind, .int .i64 uid, .int .i64 mode, .int .i64 flags, .string nm, .slice A l.length c] 41)).alloc (.cells #[.int .i64 0, .string ⟨#[]⟩, .int .i64 0, .slice none 0 0] 35) = W1 at EX MX RX HB ⊢
 obtain ⟨y0, y1, y2, y3⟩ := cl4 EX.out
 obtain ⟨m0, m1, m2, m3, m4, m5⟩ := cl6 MX.out
 go_wp2_with fail
 refine (spec_l10Ask.calls k s0 s1 s2 A3 c3 bx kind uid mode flags nm A c l a _ (Kd.C_below aQ.out HB.out) aP (Kd.C_below HC.out HB.out) hc HA.out).mono ?_
 rintro e w2 ⟨rfl, aA⟩
 have EX2 := aM (ai EX.out aA)
 have MX2 := aM (ai MX.out aA)
 have s := aM (ai RX.out aA)
 have HB2 := aM (ae HB.out aA)
 clear EX MX RX HB HA aA y0 y1 y2 y3 m0 m1 m2 m3 m4 m5
 by_cases h2 : a = 0
 ·subst h2
  rw [if_neg (fg)] at h
  obtain ⟨⟨D, I, J, M, q4⟩, hq, h⟩ := Option.bind_eq_some_iff.mp h
  obtain ⟨⟨O, X, o2, o3⟩, ho, h⟩ := Option.bind_eq_some_iff.mp h
  simp only [Option.some.injEq, Prod.mk.injEq] at h
  obtain ⟨rfl, rfl, rfl, rfl, rfl⟩ := h
  have HO := aM ho
  obtain ⟨y0, y1, y2, y3⟩ := cl4 EX2.out
  obtain ⟨m0, m1, m2, m3, m4, m5⟩ := cl6 MX2.out
  go_wp2_with fail
  refine (s_l10Commit s0 s1 s2 A3 c3 bx kind uid mode flags nm A c l D I J M q4 _ (Kd.C_below aQ.out HB2.out) aP (Kd.C_below HC.out HB2.out) hc hq).mono ?_
  rintro e w3 ⟨Y, c5, rfl, aU, aR, aJ⟩
  have aC := aM (ah (ai s.out aJ) (.cells #[.int .i64 D, .string I, .int .i64 J, .slice Y M.length c5] 35))
  have aD := aM (ab (ae HB2.out aJ) (.cells #[.int .i64 D, .string I, .int .i64 J, .slice Y M.length c5] 35))
  have aK := aM (Kd.C_alloc aR (.cells #[.int .i64 D, .string I, .int .i64 J, .slice Y M.length c5] 35))
  have Z := aM (show (w3.alloc (.cells #[.int .i64 D, .string I, .int .i64 J, .slice Y M.length c5] 35)).heap[w3.heap.size]? = some (.cells #[.int .i64 D, .string I, .int .i64 J, .slice Y M.length c5] 35 (0, 0)) from by simpa using heap_alloc_new w3 _)
  clear EX2 MX2 s HB2 aJ aR ho hq y0 y1 y2 y3 m0 m1 m2 m3 m4 m5
  go_upto_region 5 with (fail)
  generalize w3.alloc (.cells #[.int .i64 D, .string I, .int .i64 J, .slice Y M.length c5] 35) = W5 at aC aD aK Z ⊢
  generalize w3.heap.size = g at Z ⊢
  obtain ⟨l0, l1, l2, l3⟩ := cl4 Z.out
  go_wp2_with fail
  refine (spec_l10Own.calls k D I J Y c5 M O X o2 o3 _ aK.out aU HO.out).mono ?_
  rintro e w6 ⟨v, rfl, aL, aN⟩
  obtain ⟨A7, c7, e7⟩ := Kd.S_slice aL
  subst e7
  have y := aM (ai aC.out aN)
  have aS := aM (ae aD.out aN)
  have aX := aM (Kd.S_mono (ok' := fun k_ => True /\ k_ ≠ w.heap.size + 1 + 1) (Kd.S_lower (Kd.S_bound aL) aD.out.size) (fun k_ hk => ⟨trivial, by have := hk.2.1; have := en aC.out; omega⟩))
  clear aC aD aK Z HO aL aN l0 l1 l2 l3
  have HH := aM (show ((((w6.setCell ⟨w.heap.size + 1 + 1, 0, none⟩ (.int .i64 O)).setCell ⟨w.heap.size + 1 + 1, 1, none⟩ (.string X)).setCell ⟨w.heap.size + 1 + 1, 2, none⟩ (.int .i64 o2)).setCell ⟨w.heap.size + 1 + 1, 3, none⟩ (.slice A7 o3.length c7)).heap[w.heap.size + 1 + 1]? = some (.cells #[.int .i64 O, .string X, .int .i64 o2, .slice A7 o3.length c7] 35 (0, 0)) from (ch (cs := #[.int .i64 O, .string X, .int .i64 o2, .slice none 0 0]) (ch (cs := #[.int .i64 O, .string X, .int .i64 0, .slice none 0 0]) (ch (cs := #[.int .i64 O, .string ⟨#[]⟩, .int .i64 0, .slice none 0 0]) (ch (cs := #[.int .i64 0, .string ⟨#[]⟩, .int .i64 0, .slice none 0 0]) y.out 0 _ rfl) 1 _ rfl) 2 _ rfl) 3 _ rfl))
  have HBF := aM (aa (j := 3) (v := .slice A7 o3.length c7) (aa (j := 2) (v := .int .i64 o2) (aa (j := 1) (v := .string X) (aa (j := 0) (v := .int .i64 O) aS.out U) U) U) U)
  have f0 := am y.out 0
  have f1 := am y.out 1
  have f2 := am y.out 2
  have f3 := am y.out 3
  obtain ⟨r0, r1, r2, r3⟩ := cl4 y.out
  have HCF := aM (Kd.S_far (p := ⟨w.heap.size + 1 + 1, 3, none⟩) (Kd.S_far (p := ⟨w.heap.size + 1 + 1, 2, none⟩) (Kd.S_far (p := ⟨w.heap.size + 1 + 1, 1, none⟩) (Kd.S_far (p := ⟨w.heap.size + 1 + 1, 0, none⟩) aX.out (fun _ hk => hk.2) (.int .i64 O)) (fun _ hk => hk.2) (.string X)) (fun _ hk => hk.2) (.int .i64 o2)) (fun _ hk => hk.2) (.slice A7 o3.length c7))
  clear y aS
  go_wp2
  refine bodyPost_ret (fk rfl _ _ (w.heap.size + 1 + 1) 35 #[.int .i64 O, .string X, .int .i64 o2, .slice A7 o3.length c7] (0, 0) _ rfl HH.out underlying35 rfl (Z16)) rfl ?_
  exact ⟨_, rfl, Kd.S_mono HCF.out (fun _ _ => trivial), HBF.out⟩
 rw [if_pos h2] at h
 simp only [Option.some.injEq, Prod.mk.injEq] at h
 obtain ⟨rfl, rfl, rfl, rfl, rfl⟩ := h
 have hb : (a != 0) = true := by simpa using h2
 clear h2
 have HH := aM (show ((((w2.setCell ⟨w.heap.size + 1 + 1, 0, none⟩ (.int .i64 0)).setCell ⟨w.heap.size + 1 + 1, 1, none⟩ (.string ⟨#[]⟩)).setCell ⟨w.heap.size + 1 + 1, 2, none⟩ (.int .i64 0)).setCell ⟨w.heap.size + 1 + 1, 3, none⟩ (.slice none 0 0)).heap[w.heap.size + 1 + 1]? = some (.cells #[.int .i64 0, .string ⟨#[]⟩, .int .i64 0, .slice none 0 0] 35 (0, 0)) from (ch (cs := #[.int .i64 0, .string ⟨#[]⟩, .int .i64 0, .slice none 0 0]) (ch (cs := #[.int .i64 0, .string ⟨#[]⟩, .int .i64 0, .slice none 0 0]) (ch (cs := #[.int .i64 0, .string ⟨#[]⟩, .int .i64 0, .slice none 0 0]) (ch (cs := #[.int .i64 0, .string ⟨#[]⟩, .int .i64 0, .slice none 0 0]) s.out 0 _ rfl) 1 _ rfl) 2 _ rfl) 3 _ rfl))
 have HBF := aM (aa (j := 3) (v := .slice none 0 0) (aa (j := 2) (v := .int .i64 0) (aa (j := 1) (v := .string ⟨#[]⟩) (aa (j := 0) (v := .int .i64 0) HB2.out U) U) U) U)
 have f0 := am s.out 0
 have f1 := am s.out 1
 have f2 := am s.out 2
 have f3 := am s.out 3
 obtain ⟨r0, r1, r2, r3⟩ := cl4 s.out
 clear s HB2
 go_wp2
 refine bodyPost_ret (fk rfl _ _ (w.heap.size + 1 + 1) 35 #[.int .i64 0, .string ⟨#[]⟩, .int .i64 0, .slice none 0 0] (0, 0) _ rfl HH.out underlying35 rfl (Z16)) rfl ?_
 exact ⟨.slice none 0 0, rfl, Kd.S_nil .., HBF.out⟩
def laws_toLog.f (s : Int) (y : ByteArray) (D : Int) : Option (Int × ByteArray × Int) := some (s, y, D)
theorem laws_toLog.calls (s : Int) (y : ByteArray) (D : Int) (r1 : Int) (r2 : ByteArray) (r3 : Int) (w : World) (h : laws_toLog.f s y D = some (r1, r2, r3)) :
  Calls prog 21 #[.agg #[.int .i64 s, .string y, .int .i64 D]] w fun e w' => e = .returned (.agg #[.int .i64 r1, .string r2, .int .i64 r3]) /\ Below w.heap.size w w' := by
 have aB := underlying23
 have aC := underlying32
 have HB := aM (bi w.heap.size w)
 have H := h
 clear h
 unfold laws_toLog.f at H
 simp only [Option.some.injEq, Prod.mk.injEq] at H
 obtain ⟨rfl, rfl, rfl⟩ := H
 go_enter func21, ntmps21
 go_wp2_with (first | ((with_reducible refine gD 1 ?_); refine bxF w 1 #[.int .i64 s, .string y, .int .i64 D] 23 (Z0) ?_; intro aD hg w2 BK264 aE GE264 HB hb; clear hb hg) | ((with_reducible refine gD 2 ?_); refine bxF w 2 #[.int .i64 0, .string (⟨#[]⟩ : ByteArray), .int .i64 0] 32 (Z145) ?_; intro I hg w3 BK265 aF GE265 HB hb; have J := aM ((nL BK264 hg (Z100))); have M := aM ((nG BK264 hg (Z100))); replace BK264 := aM (kB BK264 (Z100) hb); clear hb hg) | ((with_reducible refine gD 3 ?_); refine bxF w 3 #[.int .i64 0, .string (⟨#[]⟩ : ByteArray), .int .i64 0] 32 (Z117) ?_; intro aG hg w4 O aH U HB hb; have X := aM ((nL BK264 hg (Z100))); have Y := aM ((nG BK264 hg (Z100))); replace BK264 := aM (kB BK264 (Z100) hb); have Z := aM ((nL BK265 hg (Z177))); have aA := aM ((nG BK265 hg (Z177))); replace BK265 := aM (kB BK265 (Z177) hb); clear hb hg; have aI := J.out; have aJ := M.out; have aK := X.out; have aL := Y.out; refine bD3 BK264 ?_; intros; have aN := aA.out; have aO := Z.out; refine bD3 O ?_; intros; refine bD3 BK265 ?_; intros))
 refine bodyPost_ret (results_cell_row rfl _ _ I 32 #[.int .i64 s, .string y, .int .i64 D] (0, 0) _ rfl zB underlying32 rfl (Z16)) rfl ?_
 exact ⟨Z1, by repeat (first | (with_reducible first | exact HB.out | apply ab | apply af | apply ac | refine aa ?_ GE264.out | refine aa ?_ GE265.out | refine aa ?_ U.out) | exact HB.out)⟩
def laws_toStored.f (s : Int) (y : Int) (D : ByteArray) : Option (Int × Int × ByteArray) := some (s, y, D)
theorem laws_toStored.calls (s : Int) (y : Int) (D : ByteArray) (r1 : Int) (r2 : Int) (r3 : ByteArray) (w : World) (h : laws_toStored.f s y D = some (r1, r2, r3)) :
  Calls prog 114 #[.agg #[.int .i64 s, .int .i64 y, .string D]] w fun e w' => e = .returned (.agg #[.int .i64 r1, .int .i64 r2, .string r3]) /\ Below w.heap.size w w' := by
 have aB := underlying136
 have aC := underlying113
 have HB := aM (bi w.heap.size w)
 have H := h
 clear h
 unfold laws_toStored.f at H
 simp only [Option.some.injEq, Prod.mk.injEq] at H
 obtain ⟨rfl, rfl, rfl⟩ := H
 go_enter func114, ntmps114
 go_wp2_with (first | ((with_reducible refine gD 1 ?_); refine bxF w 1 #[.int .i64 s, .int .i64 y, .string D] 136 (Z0) ?_; intro aD hg w2 BK267 aE GE267 HB hb; clear hb hg) | ((with_reducible refine gD 2 ?_); refine bxF w 2 #[.int .i64 0, .int .i64 0, .string (⟨#[]⟩ : ByteArray)] 113 (Z146) ?_; intro I hg w3 BK268 aF GE268 HB hb; have J := aM ((nL BK267 hg (Z101))); have M := aM ((nG BK267 hg (Z101))); replace BK267 := aM (kB BK267 (Z101) hb); clear hb hg) | ((with_reducible refine gD 3 ?_); refine bxF w 3 #[.int .i64 0, .int .i64 0, .string (⟨#[]⟩ : ByteArray)] 113 (Z118) ?_; intro aG hg w4 O aH U HB hb; have X := aM ((nL BK267 hg (Z101))); have Y := aM ((nG BK267 hg (Z101))); replace BK267 := aM (kB BK267 (Z101) hb); have Z := aM ((nL BK268 hg (Z178))); have aA := aM ((nG BK268 hg (Z178))); replace BK268 := aM (kB BK268 (Z178) hb); clear hb hg; have aI := J.out; have aJ := M.out; have aK := X.out; have aL := Y.out; refine bD3 BK267 ?_; intros; have aN := aA.out; have aO := Z.out; refine bD3 O ?_; intros; refine bD3 BK268 ?_; intros))
 refine bodyPost_ret (results_cell_row rfl _ _ I 113 #[.int .i64 s, .int .i64 y, .string D] (0, 0) _ rfl zB underlying113 rfl (Z16)) rfl ?_
 exact ⟨Z1, by repeat (first | (with_reducible first | exact HB.out | apply ab | apply af | apply ac | refine aa ?_ GE267.out | refine aa ?_ GE268.out | refine aa ?_ U.out) | exact HB.out)⟩
def dw.l0 : Nat -> List (S136) -> List (S113) -> Int -> Option ((List (S113)))
 | 0, _, _, _ => none
 | k + 1, x0, x3, x4 => if x4 < (x0.length : Int) then (if 0 <= x4 then ((laws_toStored.f ((au x0 x4).f0) ((au x0 x4).f1) ((au x0 x4).f2)).bind fun s => (if x4 < (x3.length : Int) then (dw.l0 k x0 (x3.set (x4 : Int).toNat (⟨s.1, s.2.1, s.2.2⟩ : S113)) (wrap64 (x4 + 1))) else (none))) else (none)) else (some x3)
def dw.f (k : Nat) (l0 : List (S136)) : Option ((List (S113))) := if 0 <= (l0.length : Int) then (if ((l0.length : Int) : Int).toNat <= 8796093022208 then (dw.l0 k l0 (List.replicate ((l0.length : Int) : Int).toNat z113) 0) else (none)) else (none)
theorem dw.calls (k : Nat) (A0 : Option Addr) (c0 : Nat) (l0 : List (S136)) (r : List (S113)) (w : World) (hr0 : Kd.C k136 w A0 l0.length l0) (aL : l0.length <= c0) (h : dw.f k l0 = some r) :
  Calls prog 83 #[.slice A0 l0.length c0] w fun e w' => ∃ v0_ : Value, e = .returned (v0_) /\ Kd.R k113 113 w' w.heap.size (fun _ => True) v0_ r /\ Below w.heap.size w w' := by
 have bN := underlying136
 have bO := underlying113
 replace hr0 := aM hr0
 replace aL := aM aL
 have HB := aM (bi w.heap.size w)
 have H := h
 clear h
 unfold dw.f at H
 obtain ⟨c2, H⟩ := ifS H
 have a3 := bh c2
 have a5 : decide (0 <= (l0.length : Int)) = true := az c2
 clear c2
 obtain ⟨c3, H⟩ := ifS H
 have a6 := bh c3
 have a7 : decide (((l0.length : Int) : Int).toNat <= 8796093022208) = true := az c3
 clear c3
 obtain ⟨aN, U⟩ : ∃ y_ : List (S113), y_ = (List.replicate ((l0.length : Int) : Int).toNat z113) := ⟨_, rfl⟩
 replace H : (dw.l0 k l0 aN 0) = some r := by first | (rw [U]; with_reducible exact H) | (have H2_ := (Option.bind_some _ _).symm.trans H; rw [U]; with_reducible exact H2_) | (have H2_ := (Option.bind_some _ _).symm.trans H; with_reducible exact H2_) | with_reducible exact H | (rw [U]; exact H) | exact H
 have aO := aM U
 clear U
 have H' := aM H
 clear H
 go_enter func83, ntmps83
 go_wp2_with (first | ((with_reducible refine gD 7 ?_); refine Kd.R_make k113 _ 113 rfl (N := 7) rfl 80 _ _ rfl (l0.length : Int) rfl rfl underlying80 (.agg #[(.int .i64 0), (.int .i64 0), (.string ⟨#[]⟩)]) 32 info113 rfl (Z68) (Z31) z113 (ok := fun _ => True) (okp := fun _ => True) (k113_mkM _ _ _ z113 ) (fun _ hk => hk) trivial (dT (Z4)) (Nat.le_trans (Nat.mul_le_mul_right _ (dT (Z4) : (l0.length : Int).toNat <= 8796093022208)) (Z31)) (bi _ _) (bj _) ?_; intro a8 w4 X hb hg_ hnew_; clear hg_ hnew_; (first | rw [← aO.out] at X | (simp only [Int.reduceToNat] at X; rw [← aO.out] at X)); have a9 := aM (Kd.R_lower X (ct (Z0))); replace HB := aM (ae (Z0) hb); clear hb X))
 go_loopg [4] k (fun kq v4 w' => ∃ (y : List (S113)) (s : Int), v4 = .int .i64 s /\ ap (dw.l0 kq l0 y s = some r) /\ ap (kq <= k) /\ ap (Kd.R k113 113 w' w.heap.size (fun _ => True) a8 y) /\ ap (Below w.heap.size w w'))
 case atStart => exact ⟨(aN), (0), (Z3), H', ⟨bj _⟩, ⟨by (with_reducible repeat (first | apply Kd.R_alloc | apply Kd.R_drewN | apply Kd.R_drew)); exact a9.out⟩, ⟨Z0⟩⟩
 case round =>
  clear H'
  (try clear c2); (try clear a3); (try clear a5); (try clear c3); (try clear a6); (try clear a7)
  obtain ⟨y, s, rfl, HA, HK1, HO_3, HB⟩ := hrel
  cases gk with
  | zero => exact absurd HA.out (by simp [dw.l0])
  | succ k1 =>
   have H := HA.out
   clear HA
   simp only [dw.l0] at H
   by_cases c6 : s < (l0.length : Int)
   ·rw [if_pos c6] at H
    have bB := az c6
    clear c6
    obtain ⟨c7, H⟩ := ifS H
    have bP := az c7
    clear c7
    obtain ⟨⟨J, M, O⟩, A8, H⟩ := cz H
    try dsimp only at H
    obtain ⟨c9, H⟩ := ifS H
    have bQ := az c9
    clear c9
    obtain ⟨aD, Y⟩ : ∃ y_ : List (S113), y_ = (y.set (s : Int).toNat (⟨J, M, O⟩ : S113)) := ⟨_, rfl⟩
    replace H : (dw.l0 k1 l0 aD (wrap64 (s + 1))) = some r := by first | (rw [Y]; with_reducible exact H) | (have H2_ := (Option.bind_some _ _).symm.trans H; rw [Y]; with_reducible exact H2_) | (have H2_ := (Option.bind_some _ _).symm.trans H; with_reducible exact H2_) | with_reducible exact H | (rw [Y]; exact H) | exact H
    have bD := aM Y
    clear Y
    have H' := aM H
    clear H
    have aE : 0 <= (s : Int) := dT (Z4)
    have aF : s < (l0.length : Int) := dT (Z4)
    obtain ⟨bR, bE, aQ, aR, aS⟩ := at_T136 hr0.out s aE aF
    cases bE
    replace aQ := cB HB.out aQ
    replace aR := cB HB.out aR
    replace aS := cB HB.out aS
    replace aE := bh aE
    replace aF := bh aF
    go_wp2_with (first | ((with_reducible refine gC 114 ?_); refine gL 20 func114 #[.agg #[.int .i64 ((au l0 s).f0), .int .i64 ((au l0 s).f1), .string ((au l0 s).f2)]] ?_; (with_reducible refine (laws_toStored.calls ((au l0 s).f0) ((au l0 s).f1) ((au l0 s).f2) J M O _ A8.out).mono ?_); rintro e I ⟨rfl, hb⟩; refine ⟨_, rfl, ?_⟩; replace HO_3 := aM (Kd.R_below (Z76) hb); replace HB := aM (ae (Z0) hb); (try clear hb); have p10 : 0 <= (s : Int) := dT (Z4); have aG : (s : Int) < ((y.length : Int) : Int) := dT (Z4); obtain ⟨D, aT, aU, aV, bF, bS, aW⟩ := Kd.R_form HO_3.out (Z31); (first | cases aU | (injection aU with ea_ en_ ec_; (first | subst ea_ | (injection ea_ with ea_; subst ea_)); subst ec_; clear en_)); have aH := aM aV; have bT := aM aW; clear aV bF aW; obtain ⟨bU, bG, aX, aA, aB⟩ := Kd.R_elem HO_3.out z113 (s : Int) p10 aG; obtain rfl := k113_openM aX; have bV : I.cell? ⟨D, (s : Int).toNat * 3, none⟩ = some (.int .i64 ((ar y s).f0)) := aA 0 _ rfl; have bW : I.cell? ⟨D, (s : Int).toNat * 3 + 1, none⟩ = some (.int .i64 ((ar y s).f1)) := aA 1 _ rfl; have bX : I.cell? ⟨D, (s : Int).toNat * 3 + 2, none⟩ = some (.string ((ar y s).f2)) := aA 2 _ rfl; have bY : I.frozen? ⟨D, (s : Int).toNat * 3, none⟩ = false := aB 0; have bZ : I.frozen? ⟨D, (s : Int).toNat * 3 + 1, none⟩ = false := aB 1; have b0 : I.frozen? ⟨D, (s : Int).toNat * 3 + 2, none⟩ = false := aB 2; clear bG aA aB aX; replace p10 := bh p10; replace aG := bh aG; have aY := aM (show Kd.R k113 113 I w.heap.size (fun _ => True) (.slice (some ⟨D, 0, none⟩) y.length aT) y from (Z76)); obtain ⟨b1, aZ, a2, Z, aC⟩ := Kd.R_elem aY.out z113 (s : Int) (dT (Z4)) (by have h_ : (s : Int) < ((y.length : Int) : Int) := dT (Z4); first | exact h_ | (have e_ := (Kd.R_reads' HO_3.out).1; omega) | simpa using h_); obtain rfl := k113_openM a2; have aI := Kd.R_seg aY.out (s : Int) (dT (Z4)) (by have h_ : (s : Int) < ((y.length : Int) : Int) := dT (Z4); first | exact h_ | (have e_ := (Kd.R_reads' HO_3.out).1; omega) | simpa using h_) (seg := [.int .i64 J, .int .i64 M, .string O]) (j := 0) aZ Z (show 3 <= 3 from by decide) (x' := (⟨J, M, O⟩ : S113)) (k113_mkM _ _ _ (⟨J, M, O⟩ : S113) ) (fun _ hk => hk); have bH := Z 0 _ rfl; (try simp only [show (k113).sz = 3 from rfl, Nat.mul_one, Nat.add_zero] at bH); have bI := aC 0; (try simp only [show (k113).sz = 3 from rfl, Nat.mul_one, Nat.add_zero] at bI); have bJ := Z 1 _ rfl; (try simp only [show (k113).sz = 3 from rfl, Nat.mul_one, Nat.add_zero] at bJ); have bK := aC 1; (try simp only [show (k113).sz = 3 from rfl, Nat.mul_one, Nat.add_zero] at bK); have bL := Z 2 _ rfl; (try simp only [show (k113).sz = 3 from rfl, Nat.mul_one, Nat.add_zero] at bL); have bM := aC 2; (try simp only [show (k113).sz = 3 from rfl, Nat.mul_one, Nat.add_zero] at bM); clear aZ Z aC a2) | ((with_reducible refine gate_store (t := 113) (p := 21) rfl ?_); refine store_event (t := 113) (p := 21) (v := ?vo_w13) (w1 := (((I.setCell ⟨D, (s : Int).toNat * 3, none⟩ (.int .i64 J)).setCell ⟨D, (s : Int).toNat * 3 + 1, none⟩ (.int .i64 M)).setCell ⟨D, (s : Int).toNat * 3 + 2, none⟩ (.string O))) ?hg ?ho ?hn ?hr ?_; (case ho => rfl); (case hg => rfl); (case hn => rfl); (case hr => first | (go_simp; done) | (go_simp; rfl)); intro aJ hw; have hg : I.grownBy aJ (some D) := (by rw [hw]; exact aI.2); have hp_ : Kd.R k113 113 aJ w.heap.size (fun _ => True) (.slice (some ⟨D, 0, none⟩) y.length aT) aD := (by rw [hw, bD.out]; exact aI.1); clear aI; replace HO_3 := aM (hp_); replace HB := aM ((by rw [hw]; exact aa (aa (aa (HB.out) aH.out) aH.out) aH.out : Below w.heap.size w aJ)); clear hg hw hp_))
    go_roundg k1
    case measure => have := HK1.out; omega
    case rel => exact ⟨(aD), (wrap64 (s + 1)), (Z3), H', ⟨Z85⟩, ⟨Z76⟩, ⟨Z0⟩⟩
   rw [if_neg c6] at H
   have bB := ba c6
   clear c6
   obtain rfl := oI H
   go_wp2
   go_ret
   exact ⟨_, Z1, Z76, Z0⟩
def dz.l0 : Nat -> List ByteArray -> List ByteArray -> Int -> Option (List ByteArray)
 | 0, _, _, _ => none
 | k + 1, x0, x3, x4 => if x4 < (x0.length : Int) then (if 0 <= x4 then (if x4 < (x3.length : Int) then (dz.l0 k x0 (x3.set (x4 : Int).toNat (gb ByteArray.empty x0 x4)) (wrap64 (x4 + 1))) else (none)) else (none)) else (some x3)
def dz.f (k : Nat) (l0 : List ByteArray) : Option (List ByteArray) := if 0 <= (l0.length : Int) then (if ((l0.length : Int) : Int).toNat <= 17592186044416 then (dz.l0 k l0 (List.replicate ((l0.length : Int) : Int).toNat (⟨#[]⟩ : ByteArray)) 0) else (none)) else (none)
theorem dz.calls (k : Nat) (A0 : Option Addr) (c0 : Nat) (l0 : List ByteArray) (r : List ByteArray) (w : World) (hr0 : Kd.C Kd.string w A0 l0.length l0) (aC : l0.length <= c0) (h : dz.f k l0 = some r) :
  Calls prog 84 #[.slice A0 l0.length c0] w fun e w' => ∃ v0_ : Value, e = .returned (v0_) /\ Kd.R Kd.string 9 w' w.heap.size (fun _ => True) v0_ r /\ Below w.heap.size w w' := by
 replace hr0 := aM hr0
 replace aC := aM aC
 have HB := aM (bi w.heap.size w)
 have H := h
 clear h
 unfold dz.f at H
 obtain ⟨c2, H⟩ := ifS H
 have aK := bh c2
 have aL : decide (0 <= (l0.length : Int)) = true := az c2
 clear c2
 obtain ⟨c3, H⟩ := ifS H
 have aN := bh c3
 have aO : decide (((l0.length : Int) : Int).toNat <= 17592186044416) = true := az c3
 clear c3
 obtain ⟨aD, D⟩ : ∃ y_ : List ByteArray, y_ = (List.replicate ((l0.length : Int) : Int).toNat (⟨#[]⟩ : ByteArray)) := ⟨_, rfl⟩
 replace H : (dz.l0 k l0 aD 0) = some r := by first | (rw [D]; with_reducible exact H) | (have H2_ := (Option.bind_some _ _).symm.trans H; rw [D]; with_reducible exact H2_) | (have H2_ := (Option.bind_some _ _).symm.trans H; with_reducible exact H2_) | with_reducible exact H | (rw [D]; exact H) | exact H
 have aE := aM D
 clear D
 have H' := aM H
 clear H
 go_enter func84, ntmps84
 go_wp2_with (first | ((with_reducible refine gD 7 ?_); refine Kd.R_make Kd.string _ 9 rfl (N := 7) rfl 66 _ _ rfl (l0.length : Int) rfl rfl underlying66 (.string ⟨#[]⟩) 16 info9 rfl (Z68) (Z31) (⟨#[]⟩ : ByteArray) (ok := fun _ => True) (okp := fun _ => True) rfl (fun _ hk => hk) trivial (dT (Z4)) (Nat.le_trans (Nat.mul_le_mul_right _ (dT (Z4) : (l0.length : Int).toNat <= 17592186044416)) (Z31)) (bi _ _) (bj _) ?_; intro aP w4 I hb hg_ hnew_; clear hg_ hnew_; (first | rw [← aE.out] at I | (simp only [Int.reduceToNat] at I; rw [← aE.out] at I)); have aQ := aM (Kd.R_lower I (ct (Z0))); replace HB := aM (ae (Z0) hb); clear hb I))
 go_loopg [4] k (fun kq v4 w' => ∃ (y : List ByteArray) (s : Int), v4 = .int .i64 s /\ ap (dz.l0 kq l0 y s = some r) /\ ap (kq <= k) /\ ap (Kd.R Kd.string 9 w' w.heap.size (fun _ => True) aP y) /\ ap (Below w.heap.size w w'))
 case atStart => exact ⟨(aD), (0), (Z3), H', ⟨bj _⟩, ⟨by (with_reducible repeat (first | apply Kd.R_alloc | apply Kd.R_drewN | apply Kd.R_drew)); exact aQ.out⟩, ⟨Z0⟩⟩
 case round =>
  clear H'
  (try clear c2); (try clear aK); (try clear aL); (try clear c3); (try clear aN); (try clear aO)
  obtain ⟨y, s, rfl, HA, HK1, HO_3, HB⟩ := hrel
  cases gk with
  | zero => exact absurd HA.out (by simp [dz.l0])
  | succ k1 =>
   have H := HA.out
   clear HA
   simp only [dz.l0] at H
   by_cases c6 : s < (l0.length : Int)
   ·rw [if_pos c6] at H
    have aS := az c6
    clear c6
    obtain ⟨c7, H⟩ := ifS H
    have aY := az c7
    clear c7
    obtain ⟨c8, H⟩ := ifS H
    have aZ := az c8
    clear c8
    obtain ⟨M, J⟩ : ∃ y_ : List ByteArray, y_ = (y.set (s : Int).toNat (gb ByteArray.empty l0 s)) := ⟨_, rfl⟩
    replace H : (dz.l0 k1 l0 M (wrap64 (s + 1))) = some r := by first | (rw [J]; with_reducible exact H) | (have H2_ := (Option.bind_some _ _).symm.trans H; rw [J]; with_reducible exact H2_) | (have H2_ := (Option.bind_some _ _).symm.trans H; with_reducible exact H2_) | with_reducible exact H | (rw [J]; exact H) | exact H
    have aT := aM J
    clear J
    have H' := aM H
    clear H
    have O : 0 <= (s : Int) := dT (Z4)
    have U : s < (l0.length : Int) := dT (Z4)
    obtain ⟨a2, aU, aG⟩ := Kd.at_string hr0.out s O U
    cases aU
    replace aG := cB HB.out aG
    replace O := bh O
    replace U := bh U
    have p9 : 0 <= (s : Int) := dT (Z4)
    have X : (s : Int) < ((y.length : Int) : Int) := dT (Z4)
    obtain ⟨Y, aV, aH, aI, aW, a3, aJ⟩ := Kd.R_form HO_3.out (Z31)
    (first | cases aH | (injection aH with ea_ en_ ec_; (first | subst ea_ | (injection ea_ with ea_; subst ea_)); subst ec_; clear en_))
    have aX := aM aI
    have a5 := aM aJ
    clear aI aW aJ
    obtain ⟨a6, a7⟩ := Kd.R_celln (⟨#[]⟩ : ByteArray) HO_3.out (s : Int) p9 X
    replace p9 := bh p9
    replace X := bh X
    have Z := Kd.R_putg HO_3.out (s : Int) (gb ByteArray.empty l0 s)
    go_wp2_with (first | ((with_reducible refine gate_store (t := 9) (p := 20) rfl ?_); refine store_event (t := 9) (p := 20) (v := ?vo_w11) (w1 := (wr.setCell ⟨Y, (s : Int).toNat, none⟩ (.string (gb ByteArray.empty l0 s)))) ?hg ?ho ?hn ?hr ?_; (case ho => rfl); (case hg => rfl); (case hn => rfl); (case hr => first | (go_simp; done) | (go_simp; rfl)); intro aA hw; have hg : wr.grownBy aA (some Y) := (by rw [hw]; exact Z.2); have hp_ : Kd.R Kd.string 9 aA w.heap.size (fun _ => True) (.slice (some ⟨Y, 0, none⟩) y.length aV) M := (by rw [hw, aT.out]; exact Z.1); clear Z; replace HO_3 := aM (hp_); replace HB := aM ((by rw [hw]; exact aa (HB.out) aX.out : Below w.heap.size w aA)); clear hg hw hp_))
    go_roundg k1
    case measure => have := HK1.out; omega
    case rel => exact ⟨(M), (wrap64 (s + 1)), (Z3), H', ⟨Z85⟩, ⟨Z76⟩, ⟨Z0⟩⟩
   rw [if_neg c6] at H
   have aS := ba c6
   clear c6
   obtain rfl := oI H
   go_wp2
   go_ret
   exact ⟨_, Z1, Z76, Z0⟩
def laws_toBox.f (k : Nat) (s : ByteArray) (y : Int) (D : Int) (l0_3 : List (S136)) (I : List ByteArray) : Option (ByteArray × Int × Int × (List (S113)) × List ByteArray) := (dw.f k l0_3).bind fun J => ((dz.f k I).bind fun M => (some (s, y, D, J, M)))
theorem laws_toBox.calls (k : Nat) (D : ByteArray) (I : Int) (J : Int) (O : Option Addr) (U : Nat) (l0_3 : List (S136)) (X : Option Addr) (Y : Nat) (s : List ByteArray) (r1 : ByteArray) (r2 : Int) (r3 : Int) (r4 : List (S113)) (r5 : List ByteArray) (w : World) (aC : Kd.C k136 w O l0_3.length l0_3) (aD : l0_3.length <= U) (aE : Kd.C Kd.string w X s.length s) (aF : s.length <= Y) (h : laws_toBox.f k D I J l0_3 s = some (r1, r2, r3, r4, r5)) :
  Calls prog 43 #[.agg #[.string D, .int .i64 I, .int .i64 J, .slice O l0_3.length U, .slice X s.length Y]] w fun e w' => ∃ v3_ v4_ : Value, e = .returned (.agg #[.string r1, .int .i64 r2, .int .i64 r3, v3_, v4_]) /\ Kd.R k113 113 w' w.heap.size (fun _ => True) v3_ r4 /\ Kd.R Kd.string 9 w' w.heap.size (fun _ => True) v4_ r5 /\ Below w.heap.size w w' := by
 have aX := underlying68
 have aY := underlying82
 replace aC := aM aC
 replace aD := aM aD
 replace aE := aM aE
 replace aF := aM aF
 have HB := aM (bi w.heap.size w)
 have H := h
 clear h
 unfold laws_toBox.f at H
 obtain ⟨aG, A2, H⟩ := cz H
 try dsimp only at H
 obtain ⟨Z, A3, H⟩ := cz H
 try dsimp only at H
 simp only [Option.some.injEq, Prod.mk.injEq] at H
 obtain ⟨rfl, rfl, rfl, rfl, rfl⟩ := H
 go_enter func43, ntmps43
 go_wp2_with (first | ((with_reducible refine gD 1 ?_); refine bxF w 1 #[.string D, .int .i64 I, .int .i64 J, .slice O l0_3.length U, .slice X s.length Y] 68 (Z0) ?_; intro aZ hg w4 BK283 a2 GE283 HB hb; clear hb hg) | ((with_reducible refine gD 2 ?_); refine bxF w 2 #[.string (⟨#[]⟩ : ByteArray), .int .i64 0, .int .i64 0, .slice none 0 0, .slice none 0 0] 82 (Z147) ?_; intro aO hg w5 BK284 a3 GE284 HB hb; have aP := aM ((nL BK283 hg (Z102))); have aQ := aM ((nG BK283 hg (Z102))); replace BK283 := aM (kB BK283 (Z102) hb); clear hb hg) | ((with_reducible refine gD 3 ?_); refine bxF w 3 #[.string (⟨#[]⟩ : ByteArray), .int .i64 0, .int .i64 0, .slice none 0 0, .slice none 0 0] 82 (Z119) ?_; intro aA hg w6 y a5 GE285 HB hb; have aR := aM ((nL BK283 hg (Z102))); have aS := aM ((nG BK283 hg (Z102))); replace BK283 := aM (kB BK283 (Z102) hb); have aT := aM ((nL BK284 hg (Z179))); have aU := aM ((nG BK284 hg (Z179))); replace BK284 := aM (kB BK284 (Z179) hb); clear hb hg; have a6 := aP.out; have a7 := aQ.out; have a8 := aR.out; have a9 := aS.out; refine bD5 BK283 ?_; intros; have bA := aU.out; have bB := aT.out; refine bD5 y ?_; intros) | ((with_reducible refine gC 83 ?_); refine gL 15 func83 #[.slice O l0_3.length U] ?_; (with_reducible refine (dw.calls k _ _ l0_3 aG _ ?Y1 ?Y2 A2.out).mono ?_); (case Y1 => exact Kd.C_below aC.out (Z53)); (case Y2 => exact aD.out); rintro e bC ⟨bD, rfl, M, hb⟩; refine ⟨_, rfl, ?_⟩; have aB := aM (Kd.R_lower M (ct (Z53))); replace BK283 := aM (kB BK283 zB hb); replace BK284 := aM (kB BK284 zB hb); replace y := aM (ai (g := aA) (o := .cells #[.string D, .int .i64 I, .int .i64 J, .slice none 0 0, .slice none 0 0] 82 (0, 0)) zB hb); replace HB := aM (ae (Z53) hb); (try clear hb); (try clear M); obtain ⟨aJ, aK, aV⟩ := Kd.R_slice aB.out; subst aV; refine bD5 y ?_; intros; refine bD5 BK283 ?_; intros) | ((with_reducible refine gC 84 ?_); refine gL 19 func84 #[.slice X s.length Y] ?_; (with_reducible refine (dz.calls k _ _ s Z _ ?Y1 ?Y2 A3.out).mono ?_); (case Y1 => exact Kd.C_below aE.out (Z53)); (case Y2 => exact aF.out); rintro e bE ⟨bF, rfl, M, hb⟩; refine ⟨_, rfl, ?_⟩; replace aB := aM (Kd.R_below (by (with_reducible repeat (first | apply Kd.R_alloc | apply Kd.R_drewN | apply Kd.R_drew)); exact (Kd.R_mono (rF 3 (Kd.R_types aB.out y.out (Z68))) (fun _ h_ => h_.1))) hb); have aL := aM (Kd.R_lower M (ct (Z53))); replace BK283 := aM (kB BK283 zB hb); replace BK284 := aM (kB BK284 zB hb); replace y := aM (ai (g := aA) (o := .cells #[.string D, .int .i64 I, .int .i64 J, .slice aJ aG.length aK, .slice none 0 0] 82 (0, 0)) zB hb); replace HB := aM (ae (Z53) hb); (try clear hb); (try clear hk); (try clear M); obtain ⟨aH, aI, aW⟩ := Kd.R_slice aL.out; subst aW; refine bD5 y ?_; intros; refine bD5 BK284 ?_; intros))
 refine bodyPost_ret (results_cell_row rfl _ _ aO 82 #[.string D, .int .i64 I, .int .i64 J, .slice aJ aG.length aK, .slice aH Z.length aI] (0, 0) _ rfl zB underlying82 rfl (Z16)) rfl ?_
 exact ⟨_, _, Z1, by (with_reducible repeat (first | apply Kd.R_alloc | apply Kd.R_drewN | apply Kd.R_drew)); exact Kd.R_mono (rF 4 (rF 3 (rF 2 (rF 1 (rF 0 (Kd.R_far (p := ⟨aA, 4, none⟩) (Kd.R_types (Kd.R_types aB.out y.out (Z68)) BK284.out (Z68)) (fun _ hk => hk.1.2) (.slice aH Z.length aI))))))) (fun _ hk => trivial), by (with_reducible repeat (first | apply Kd.R_alloc | apply Kd.R_drewN | apply Kd.R_drew)); exact Kd.R_mono (rF 4 (rF 3 (rF 2 (rF 1 (rF 0 (Kd.R_far (p := ⟨aA, 4, none⟩) (Kd.R_types (Kd.R_types aL.out y.out (Z68)) BK284.out (Z68)) (fun _ hk => hk.1.2) (.slice aH Z.length aI))))))) (fun _ hk => trivial), Z53⟩
def fi.l0 : Nat -> List (S68) -> List (S82) -> Int -> Option ((List (S82)))
 | 0, _, _, _ => none
 | k + 1, x0, x3, x4 => if x4 < (x0.length : Int) then (if 0 <= x4 then ((laws_toBox.f k ((av x0 x4).f0) ((av x0 x4).f1) ((av x0 x4).f2) ((av x0 x4).f3) ((av x0 x4).f4)).bind fun s => (if x4 < (x3.length : Int) then (fi.l0 k x0 (x3.set (x4 : Int).toNat (⟨s.1, s.2.1, s.2.2.1, s.2.2.2.1, s.2.2.2.2⟩ : S82)) (wrap64 (x4 + 1))) else (none))) else (none)) else (some x3)
def fi.f (k : Nat) (l0 : List (S68)) : Option ((List (S82))) := if 0 <= (l0.length : Int) then (if ((l0.length : Int) : Int).toNat <= 3518437208883 then (fi.l0 k l0 (List.replicate ((l0.length : Int) : Int).toNat z82) 0) else (none)) else (none)
theorem fi.calls (k : Nat) (A0 : Option Addr) (c0 : Nat) (l0 : List (S68)) (r : List (S82)) (w : World) (hr0 : Kd.C k68 w A0 l0.length l0) (aV : l0.length <= c0) (h : fi.f k l0 = some r) :
  Calls prog 22 #[.slice A0 l0.length c0] w fun e w' => ∃ v0_ : Value, e = .returned (v0_) /\ Kd.S k82 82 w' w.heap.size (fun _ => True) v0_ r /\ Below w.heap.size w w' := by
 have cN := underlying68
 have cO := underlying82
 replace hr0 := aM hr0
 replace aV := aM aV
 have HB := aM (bi w.heap.size w)
 have H := h
 clear h
 unfold fi.f at H
 obtain ⟨c2, H⟩ := ifS H
 have bH := bh c2
 have bI : decide (0 <= (l0.length : Int)) = true := az c2
 clear c2
 obtain ⟨c3, H⟩ := ifS H
 have bJ := bh c3
 have bK : decide (((l0.length : Int) : Int).toNat <= 3518437208883) = true := az c3
 clear c3
 obtain ⟨aW, aA⟩ : ∃ y_ : List (S82), y_ = (List.replicate ((l0.length : Int) : Int).toNat z82) := ⟨_, rfl⟩
 replace H : (fi.l0 k l0 aW 0) = some r := by first | (rw [aA]; with_reducible exact H) | (have H2_ := (Option.bind_some _ _).symm.trans H; rw [aA]; with_reducible exact H2_) | (have H2_ := (Option.bind_some _ _).symm.trans H; with_reducible exact H2_) | with_reducible exact H | (rw [aA]; exact H) | exact H
 have aX := aM aA
 clear aA
 have H' := aM H
 clear H
 go_enter func22, ntmps22
 go_wp2_with (first | ((with_reducible refine gD 7 ?_); refine Kd.S_make k82 _ 82 rfl (N := 7) rfl 33 _ _ rfl (l0.length : Int) rfl rfl underlying33 (.agg #[(.string ⟨#[]⟩), (.int .i64 0), (.int .i64 0), (.slice none 0 0), (.slice none 0 0)]) 80 info82 rfl (Z68) (Z31) z82 (ok := fun _ => True) (okp := fun _ => True) (k82_mkM _ _ _ z82 (Kd.R_nil _ _ _ _ _) (Kd.R_nil _ _ _ _ _)) (fun _ hk => hk) trivial (dT (Z4)) (Nat.le_trans (Nat.mul_le_mul_right _ (dT (Z4) : (l0.length : Int).toNat <= 3518437208883)) (Z31)) (bi _ _) (bj _) ?_; intro bL w4 aB hb hg_ hnew_; clear hg_ hnew_; (first | rw [← aX.out] at aB | (simp only [Int.reduceToNat] at aB; rw [← aX.out] at aB)); have bM := aM (Kd.S_lower aB (ct (Z0))); replace HB := aM (ae (Z0) hb); clear hb aB))
 go_loopg [4] k (fun kq v4 w' => ∃ (D : List (S82)) (s : Int), v4 = .int .i64 s /\ ap (fi.l0 kq l0 D s = some r) /\ ap (kq <= k) /\ ap (Kd.S k82 82 w' w.heap.size (fun _ => True) bL D) /\ ap (Below w.heap.size w w'))
 case atStart => exact ⟨(aW), (0), (Z3), H', ⟨bj _⟩, ⟨by (with_reducible repeat (first | apply Kd.S_alloc | apply Kd.S_drewN | apply Kd.S_drew)); exact bM.out⟩, ⟨Z0⟩⟩
 case round =>
  clear H'
  (try clear c2); (try clear bH); (try clear bI); (try clear c3); (try clear bJ); (try clear bK)
  obtain ⟨D, s, rfl, HA, HK1, HO_3, HB⟩ := hrel
  cases gk with
  | zero => exact absurd HA.out (by simp [fi.l0])
  | succ k1 =>
   have H := HA.out
   clear HA
   simp only [fi.l0] at H
   by_cases c6 : s < (l0.length : Int)
   ·rw [if_pos c6] at H
    have bO := az c6
    clear c6
    obtain ⟨c7, H⟩ := ifS H
    have cP := az c7
    clear c7
    obtain ⟨⟨J, M, O, aE, aF⟩, A8, H⟩ := cz H
    try dsimp only at H
    obtain ⟨c9, H⟩ := ifS H
    have cQ := az c9
    clear c9
    obtain ⟨aL, aC⟩ : ∃ y_ : List (S82), y_ = (D.set (s : Int).toNat (⟨J, M, O, aE, aF⟩ : S82)) := ⟨_, rfl⟩
    replace H : (fi.l0 k1 l0 aL (wrap64 (s + 1))) = some r := by first | (rw [aC]; with_reducible exact H) | (have H2_ := (Option.bind_some _ _).symm.trans H; rw [aC]; with_reducible exact H2_) | (have H2_ := (Option.bind_some _ _).symm.trans H; with_reducible exact H2_) | with_reducible exact H | (rw [aC]; exact H) | exact H
    have bQ := aM aC
    clear aC
    have H' := aM H
    clear H
    have aN : 0 <= (s : Int) := dT (Z4)
    have aO : s < (l0.length : Int) := dT (Z4)
    obtain ⟨cR, bR, bS, bT, bU, bV, aY, aZ, a2, a3, a5, a6, a7, a8, a9⟩ := at_T68 hr0.out s aN aO
    cases bV
    replace aY := cB HB.out aY
    replace aZ := cB HB.out aZ
    replace a2 := cB HB.out a2
    replace a3 := cB HB.out a3
    replace a5 := cB HB.out a5
    have bW := aM a7
    have bX := aM a6
    clear a7 a6
    have bY := aM a9
    have bZ := aM a8
    clear a9 a8
    replace aN := bh aN
    replace aO := bh aO
    go_wp2_with (first | ((with_reducible refine gC 43 ?_); refine gL 20 func43 #[.agg #[.string ((av l0 s).f0), .int .i64 ((av l0 s).f1), .int .i64 ((av l0 s).f2), .slice bR ((av l0 s).f3).length bS, .slice bT ((av l0 s).f4).length bU]] ?_; (with_reducible refine (laws_toBox.calls k1 ((av l0 s).f0) ((av l0 s).f1) ((av l0 s).f2) _ _ ((av l0 s).f3) _ _ ((av l0 s).f4) J M O aE aF _ ?Y1 ?Y2 ?Y3 ?Y4 A8.out).mono ?_); (case Y1 => have h_ := Kd.C_below bW.out HB.out; exact tC); (case Y2 => exact bX.out); (case Y3 => have h_ := Kd.C_below bY.out HB.out; exact tC); (case Y4 => exact bZ.out); rintro e I ⟨aG, aH, rfl, aP, aQ, hb⟩; refine ⟨_, rfl, ?_⟩; replace HO_3 := aM (Kd.S_mono (Kd.S_told (Kd.S_told (Kd.S_old (Z94) hb) (Kd.R_base aP)) (Kd.R_base aQ)) (fun _ h_ => h_.1)); have aI := aM (Kd.R_lower aP (ct (Z0))); have aJ := aM (Kd.R_lower aQ (ct (Z0))); replace HB := aM (ae (Z0) hb); (try clear hb); (try clear aP); (try clear aQ); have p10 : 0 <= (s : Int) := dT (Z4); have aR : (s : Int) < ((D.length : Int) : Int) := dT (Z4); obtain ⟨y, bA, bB, bC, b0, cS, bD⟩ := Kd.S_form HO_3.out (Z31); (first | cases bB | (injection bB with ea_ en_ ec_; (first | subst ea_ | (injection ea_ with ea_; subst ea_)); subst ec_; clear en_)); have aD := aM bC; have cT := aM bD; clear bC b0 bD; obtain ⟨_, cU, b1, bE, U, X, _, _⟩ := Kd.S_elem HO_3.out z82 (s : Int) p10 aR; obtain ⟨b2, b6, rfl, cV, cX⟩ := k82_openM bE; have cY : I.cell? ⟨y, (s : Int).toNat * 5, none⟩ = some (.string ((ax D s).f0)) := U 0 _ rfl; have cZ : I.cell? ⟨y, (s : Int).toNat * 5 + 1, none⟩ = some (.int .i64 ((ax D s).f1)) := U 1 _ rfl; have dA : I.cell? ⟨y, (s : Int).toNat * 5 + 2, none⟩ = some (.int .i64 ((ax D s).f2)) := U 2 _ rfl; have dB : I.cell? ⟨y, (s : Int).toNat * 5 + 3, none⟩ = some (b2) := U 3 _ rfl; have dC : I.cell? ⟨y, (s : Int).toNat * 5 + 4, none⟩ = some (b6) := U 4 _ rfl; have dD : I.frozen? ⟨y, (s : Int).toNat * 5, none⟩ = false := X 0; have dE : I.frozen? ⟨y, (s : Int).toNat * 5 + 1, none⟩ = false := X 1; have dF : I.frozen? ⟨y, (s : Int).toNat * 5 + 2, none⟩ = false := X 2; have dG : I.frozen? ⟨y, (s : Int).toNat * 5 + 3, none⟩ = false := X 3; have dH : I.frozen? ⟨y, (s : Int).toNat * 5 + 4, none⟩ = false := X 4; clear b1 U X bE; replace p10 := bh p10; replace aR := bh aR; have n_ := aM (Kd.S_mono (ok' := (fun k_ => some k_ ≠ (aG : Value).ownBlock /\ some k_ ≠ (aH : Value).ownBlock)) HO_3.out (fun k_ hk => ⟨hk.1.2, hk.2⟩)); clear HO_3; have HO_3 := n_; clear n_; have b7 := aM (show Kd.S k82 82 I w.heap.size (fun k_ => ((fun _ => True)) k_ /\ ¬ ((fun k_ => some k_ = (aG : Value).ownBlock ∨ some k_ = (aH : Value).ownBlock)) k_) (.slice (some ⟨y, 0, none⟩) D.length bA) D from (by (with_reducible repeat (first | apply Kd.S_alloc | apply Kd.S_drewN | apply Kd.S_drew)); exact Kd.S_mono HO_3.out (fun k_ hk => ⟨trivial, fun e_ => e_.elim (fun h_ => hk.1 h_) (fun h_ => hk.2 h_)⟩))); obtain ⟨dI, dJ, b8, bF, Y, Z, b9, bG⟩ := Kd.S_elem b7.out z82 (s : Int) (dT (Z4)) (by have h_ : (s : Int) < ((D.length : Int) : Int) := dT (Z4); first | exact h_ | (have e_ := (Kd.S_reads' HO_3.out).1; omega) | simpa using h_); obtain ⟨dK, dL, rfl, dM, dN⟩ := k82_openM bF; have aS := Kd.S_seg bG (dT (Z4)) (by have h_ : (s : Int) < ((D.length : Int) : Int) := dT (Z4); first | exact h_ | (have e_ := (Kd.S_reads' HO_3.out).1; omega) | simpa using h_) (seg := [.string J, .int .i64 M, .int .i64 O, aG, aH]) (j := 0) (show 5 <= 5 from by decide) (x' := (⟨J, M, O, aE, aF⟩ : S82)) (k82_mkM _ _ _ (⟨J, M, O, aE, aF⟩ : S82) (Kd.R_mono (Kd.R_tight rfl (Kd.R_mono (ok' := fun k_ => ((fun _ => True)) k_ /\ k_ ≠ y) (Kd.R_apart' (aI.out) (Kd.S_typed HO_3.out) (Z68)) (fun k_ hk => ⟨trivial, fun e_ => (hk.2) (by rw [e_]; rfl)⟩))) (fun _ h_ => Or.inr (Or.inl h_))) (Kd.R_mono (Kd.R_tight rfl (Kd.R_mono (ok' := fun k_ => ((fun _ => True)) k_ /\ k_ ≠ y) (Kd.R_apart' (aJ.out) (Kd.S_typed HO_3.out) (Z68)) (fun k_ hk => ⟨trivial, fun e_ => (hk.2) (by rw [e_]; rfl)⟩))) (fun _ h_ => Or.inr (Or.inr (h_))))) (fun _ hk => hk) (fun k_ hk_ => hk_.elim (fun h_ => ((Kd.R_mono (ok' := fun k_ => ((fun _ => True)) k_ /\ k_ ≠ y) (Kd.R_apart' (aI.out) (Kd.S_typed HO_3.out) (Z68)) (fun k_ hk => ⟨trivial, fun e_ => (hk.2) (by rw [e_]; rfl)⟩))).1 k_ h_.symm) (fun h_ => ((Kd.R_mono (ok' := fun k_ => ((fun _ => True)) k_ /\ k_ ≠ y) (Kd.R_apart' (aJ.out) (Kd.S_typed HO_3.out) (Z68)) (fun k_ hk => ⟨trivial, fun e_ => (hk.2) (by rw [e_]; rfl)⟩))).1 k_ h_.symm)); have cA := Y 0 _ rfl; (try simp only [show (k82).sz = 5 from rfl, Nat.mul_one, Nat.add_zero] at cA); have cC := Z 0; (try simp only [show (k82).sz = 5 from rfl, Nat.mul_one, Nat.add_zero] at cC); have cD := Y 1 _ rfl; (try simp only [show (k82).sz = 5 from rfl, Nat.mul_one, Nat.add_zero] at cD); have cG := Z 1; (try simp only [show (k82).sz = 5 from rfl, Nat.mul_one, Nat.add_zero] at cG); have cH := Y 2 _ rfl; (try simp only [show (k82).sz = 5 from rfl, Nat.mul_one, Nat.add_zero] at cH); have cI := Z 2; (try simp only [show (k82).sz = 5 from rfl, Nat.mul_one, Nat.add_zero] at cI); have cJ := Y 3 _ rfl; (try simp only [show (k82).sz = 5 from rfl, Nat.mul_one, Nat.add_zero] at cJ); have cK := Z 3; (try simp only [show (k82).sz = 5 from rfl, Nat.mul_one, Nat.add_zero] at cK); have cL := Y 4 _ rfl; (try simp only [show (k82).sz = 5 from rfl, Nat.mul_one, Nat.add_zero] at cL); have cM := Z 4; (try simp only [show (k82).sz = 5 from rfl, Nat.mul_one, Nat.add_zero] at cM); clear b8 Y Z bF b9 bG) | ((with_reducible refine gate_store (t := 82) (p := 21) rfl ?_); refine store_event (t := 82) (p := 21) (v := ?vo_w13) (w1 := (((((I.setCell ⟨y, (s : Int).toNat * 5, none⟩ (.string J)).setCell ⟨y, (s : Int).toNat * 5 + 1, none⟩ (.int .i64 M)).setCell ⟨y, (s : Int).toNat * 5 + 2, none⟩ (.int .i64 O)).setCell ⟨y, (s : Int).toNat * 5 + 3, none⟩ (aG)).setCell ⟨y, (s : Int).toNat * 5 + 4, none⟩ (aH))) ?hg ?ho ?hn ?hr ?_; (case ho => rfl); (case hg => rfl); (case hn => rfl); (case hr => (obtain ⟨_, _, hv_⟩ := Kd.R_slice aI.out; subst hv_; obtain ⟨_, _, hv_⟩ := Kd.R_slice aJ.out; subst hv_; first | (go_simp; done) | (go_simp; rfl))); intro aT hw; have hg : I.grownBy aT (some y) := (by rw [hw]; exact aS.2); have hp_ : Kd.S k82 82 aT w.heap.size (fun _ => True) (.slice (some ⟨y, 0, none⟩) D.length bA) aL := (by rw [hw, bQ.out]; exact aS.1); clear aS; have n0_ := aM (hp_); have n1_ := aM ((by rw [hw]; exact aa (aa (aa (aa (aa (HB.out) aD.out) aD.out) aD.out) aD.out) aD.out : Below w.heap.size w aT)); clear HO_3; clear HB; clear aI; clear aJ; have HO_3 := n0_; have HB := n1_; clear n0_ n1_; clear hg hw hp_))
    go_roundg k1
    case measure => have := HK1.out; omega
    case rel => exact ⟨(aL), (wrap64 (s + 1)), (Z3), H', ⟨Z85⟩, ⟨Z94⟩, ⟨Z0⟩⟩
   rw [if_neg c6] at H
   have bO := ba c6
   clear c6
   obtain rfl := oI H
   go_wp2
   go_ret
   exact ⟨_, Z1, Z94, Z0⟩
def gq.f (k : Nat) (y : Int) (D : ByteArray) (I : Int) (l0_3 : List (S68)) : Option (Int × ByteArray × Int × (List (S82))) := (laws_toLog.f y D I).bind fun s => ((fi.f k l0_3).bind fun J => (some (s.1, s.2.1, s.2.2, J)))
theorem gq.calls (k : Nat) (y : Int) (D : ByteArray) (I : Int) (J : Option Addr) (M : Nat) (l0_3 : List (S68)) (r1 : Int) (r2 : ByteArray) (r3 : Int) (r4 : List (S82)) (w : World) (O : Kd.C k68 w J l0_3.length l0_3) (U : l0_3.length <= M) (h : gq.f k y D I l0_3 = some (r1, r2, r3, r4)) :
  Calls prog 7 #[.agg #[.int .i64 y, .string D, .int .i64 I, .slice J l0_3.length M]] w fun e w' => ∃ v3_ : Value, e = .returned (.agg #[.int .i64 r1, .string r2, .int .i64 r3, v3_]) /\ Kd.S k82 82 w' w.heap.size (fun _ => True) v3_ r4 /\ Below w.heap.size w w' := by
 have aQ := underlying26
 have aR := underlying35
 have aS := underlying23
 have aT := underlying32
 replace O := aM O
 replace U := aM U
 have HB := aM (bi w.heap.size w)
 have H := h
 clear h
 unfold gq.f at H
 obtain ⟨⟨X, Y, Z⟩, A2, H⟩ := cz H
 try dsimp only at H
 obtain ⟨aA, A3, H⟩ := cz H
 try dsimp only at H
 simp only [Option.some.injEq, Prod.mk.injEq] at H
 obtain ⟨rfl, rfl, rfl, rfl⟩ := H
 go_enter func7, ntmps7
 go_wp2_with (first | ((with_reducible refine gD 1 ?_); refine bxF w 1 #[.int .i64 y, .string D, .int .i64 I, .slice J l0_3.length M] 26 (Z0) ?_; intro aU hg w4 BK306 aV GE306 HB hb; clear hb hg) | ((with_reducible refine gD 2 ?_); refine bxF w 2 #[.int .i64 0, .string (⟨#[]⟩ : ByteArray), .int .i64 0, .slice none 0 0] 35 (Z148) ?_; intro aH hg w5 BK307 aW GE307 HB hb; have aI := aM ((nL BK306 hg (Z86))); have aJ := aM ((nG BK306 hg (Z86))); replace BK306 := aM (kB BK306 (Z86) hb); clear hb hg) | ((with_reducible refine gD 3 ?_); refine bxF w 3 #[.int .i64 0, .string (⟨#[]⟩ : ByteArray), .int .i64 0, .slice none 0 0] 35 (Z120) ?_; intro aB hg w6 s aX GE308 HB hb; have aK := aM ((nL BK306 hg (Z86))); have aL := aM ((nG BK306 hg (Z86))); replace BK306 := aM (kB BK306 (Z86) hb); have aN := aM ((nL BK307 hg (Z159))); have aO := aM ((nG BK307 hg (Z159))); replace BK307 := aM (kB BK307 (Z159) hb); clear hb hg; have aY := aI.out; have aZ := aJ.out; have a2 := aK.out; have a3 := aL.out; refine bD4 BK306 ?_; intros) | ((with_reducible refine gC 21 ?_); refine gL 6 func21 #[.agg #[.int .i64 y, .string D, .int .i64 I]] ?_; (with_reducible refine (laws_toLog.calls y D I X Y Z _ A2.out).mono ?_); rintro e a5 ⟨rfl, hb⟩; refine ⟨_, rfl, ?_⟩; replace BK306 := aM (kB BK306 (Z86) hb); replace BK307 := aM (kB BK307 (Z159) hb); replace s := aM (kB s zB hb); replace HB := aM (ae (Z73) hb); (try clear hb); have a6 := aO.out; have a7 := aN.out; refine bD4 s ?_; intros; refine bD4 BK306 ?_; intros) | ((with_reducible refine gC 22 ?_); refine gL 10 func22 #[.slice J l0_3.length M] ?_; (with_reducible refine (fi.calls k _ _ l0_3 aA _ ?Y1 ?Y2 A3.out).mono ?_); (case Y1 => exact Kd.C_below O.out (Z73)); (case Y2 => exact U.out); rintro e a8 ⟨a9, rfl, aC, hb⟩; refine ⟨_, rfl, ?_⟩; have aD := aM (Kd.S_lower aC (ct (Z73))); replace BK306 := aM (kB BK306 zB hb); replace BK307 := aM (kB BK307 zB hb); replace s := aM (ai (g := aB) (o := .cells #[.int .i64 X, .string Y, .int .i64 Z, .slice none 0 0] 35 (0, 0)) zB hb); replace HB := aM (ae (Z73) hb); (try clear hb); (try clear aC); obtain ⟨aE, aF, aP⟩ := Kd.S_slice aD.out; subst aP; refine bD4 s ?_; intros; refine bD4 BK307 ?_; intros))
 refine bodyPost_ret (results_cell_row rfl _ _ aH 35 #[.int .i64 X, .string Y, .int .i64 Z, .slice aE aA.length aF] (0, 0) _ rfl zB underlying35 rfl (Z16)) rfl ?_
 exact ⟨_, Z1, by (with_reducible repeat (first | apply Kd.S_alloc | apply Kd.S_drewN | apply Kd.S_drew)); exact Kd.S_mono (sF 3 (sF 2 (sF 1 (sF 0 (Kd.S_far (p := ⟨aB, 3, none⟩) (Kd.S_types (Kd.S_types aD.out s.out (Z68)) BK307.out (Z68)) (fun _ hk => hk.1.2) (.slice aE aA.length aF)))))) (fun _ hk => trivial), Z73⟩
def laws_toItem.f (s : ByteArray) (y : ByteArray) : Option (ByteArray × ByteArray) := some (s, y)
theorem laws_toItem.calls (s : ByteArray) (y : ByteArray) (r1 : ByteArray) (r2 : ByteArray) (w : World) (h : laws_toItem.f s y = some (r1, r2)) :
  Calls prog 44 #[.agg #[.string s, .string y]] w fun e w' => e = .returned (.agg #[.string r1, .string r2]) /\ Below w.heap.size w w' := by
 have aA := underlying71
 have aB := underlying84
 have HB := aM (bi w.heap.size w)
 have H := h
 clear h
 unfold laws_toItem.f at H
 simp only [Option.some.injEq, Prod.mk.injEq] at H
 obtain ⟨rfl, rfl⟩ := H
 go_enter func44, ntmps44
 go_wp2_with (first | ((with_reducible refine gD 1 ?_); refine bxF w 1 #[.string s, .string y] 71 (Z0) ?_; intro aC hg w2 BK315 aD GE315 HB hb; clear hb hg) | ((with_reducible refine gD 2 ?_); refine bxF w 2 #[.string (⟨#[]⟩ : ByteArray), .string (⟨#[]⟩ : ByteArray)] 84 (Z149) ?_; intro D hg w3 BK316 aE GE316 HB hb; have I := aM ((nL BK315 hg (Z103))); have J := aM ((nG BK315 hg (Z103))); replace BK315 := aM (kB BK315 (Z103) hb); clear hb hg) | ((with_reducible refine gD 3 ?_); refine bxF w 3 #[.string (⟨#[]⟩ : ByteArray), .string (⟨#[]⟩ : ByteArray)] 84 (Z121) ?_; intro aF hg w4 M aG O HB hb; have U := aM ((nL BK315 hg (Z103))); have X := aM ((nG BK315 hg (Z103))); replace BK315 := aM (kB BK315 (Z103) hb); have Y := aM ((nL BK316 hg (Z180))); have Z := aM ((nG BK316 hg (Z180))); replace BK316 := aM (kB BK316 (Z180) hb); clear hb hg; have aH := I.out; have aI := J.out; have aJ := U.out; have aK := X.out; refine bD2 BK315 ?_; intros; have aL := Z.out; have aN := Y.out; refine bD2 M ?_; intros; refine bD2 BK316 ?_; intros))
 refine bodyPost_ret (results_cell_row rfl _ _ D 84 #[.string s, .string y] (0, 0) _ rfl zB underlying84 rfl (Z16)) rfl ?_
 exact ⟨Z1, by repeat (first | (with_reducible first | exact HB.out | apply ab | apply af | apply ac | refine aa ?_ GE315.out | refine aa ?_ GE316.out | refine aa ?_ O.out) | exact HB.out)⟩
def ep.l0 : Nat -> List (S71) -> List (S84) -> Int -> Option ((List (S84)))
 | 0, _, _, _ => none
 | k + 1, x0, x3, x4 => if x4 < (x0.length : Int) then (if 0 <= x4 then ((laws_toItem.f ((aw x0 x4).f0) ((aw x0 x4).f1)).bind fun s => (if x4 < (x3.length : Int) then (ep.l0 k x0 (x3.set (x4 : Int).toNat (⟨s.1, s.2⟩ : S84)) (wrap64 (x4 + 1))) else (none))) else (none)) else (some x3)
def ep.f (k : Nat) (l0 : List (S71)) : Option ((List (S84))) := if 0 <= (l0.length : Int) then (if ((l0.length : Int) : Int).toNat <= 8796093022208 then (ep.l0 k l0 (List.replicate ((l0.length : Int) : Int).toNat z84) 0) else (none)) else (none)
theorem ep.calls (k : Nat) (A0 : Option Addr) (c0 : Nat) (l0 : List (S71)) (r : List (S84)) (w : World) (hr0 : Kd.C k71 w A0 l0.length l0) (aJ : l0.length <= c0) (h : ep.f k l0 = some r) :
  Calls prog 23 #[.slice A0 l0.length c0] w fun e w' => ∃ v0_ : Value, e = .returned (v0_) /\ Kd.R k84 84 w' w.heap.size (fun _ => True) v0_ r /\ Below w.heap.size w w' := by
 have bJ := underlying71
 have bK := underlying84
 replace hr0 := aM hr0
 replace aJ := aM aJ
 have HB := aM (bi w.heap.size w)
 have H := h
 clear h
 unfold ep.f at H
 obtain ⟨c2, H⟩ := ifS H
 have aZ := bh c2
 have a2 : decide (0 <= (l0.length : Int)) = true := az c2
 clear c2
 obtain ⟨c3, H⟩ := ifS H
 have a3 := bh c3
 have a5 : decide (((l0.length : Int) : Int).toNat <= 8796093022208) = true := az c3
 clear c3
 obtain ⟨aK, O⟩ : ∃ y_ : List (S84), y_ = (List.replicate ((l0.length : Int) : Int).toNat z84) := ⟨_, rfl⟩
 replace H : (ep.l0 k l0 aK 0) = some r := by first | (rw [O]; with_reducible exact H) | (have H2_ := (Option.bind_some _ _).symm.trans H; rw [O]; with_reducible exact H2_) | (have H2_ := (Option.bind_some _ _).symm.trans H; with_reducible exact H2_) | with_reducible exact H | (rw [O]; exact H) | exact H
 have aL := aM O
 clear O
 have H' := aM H
 clear H
 go_enter func23, ntmps23
 go_wp2_with (first | ((with_reducible refine gD 7 ?_); refine Kd.R_make k84 _ 84 rfl (N := 7) rfl 39 _ _ rfl (l0.length : Int) rfl rfl underlying39 (.agg #[(.string ⟨#[]⟩), (.string ⟨#[]⟩)]) 32 info84 rfl (Z68) (Z31) z84 (ok := fun _ => True) (okp := fun _ => True) (k84_mkM _ _ _ z84 ) (fun _ hk => hk) trivial (dT (Z4)) (Nat.le_trans (Nat.mul_le_mul_right _ (dT (Z4) : (l0.length : Int).toNat <= 8796093022208)) (Z31)) (bi _ _) (bj _) ?_; intro a6 w4 U hb hg_ hnew_; clear hg_ hnew_; (first | rw [← aL.out] at U | (simp only [Int.reduceToNat] at U; rw [← aL.out] at U)); have a7 := aM (Kd.R_lower U (ct (Z0))); replace HB := aM (ae (Z0) hb); clear hb U))
 go_loopg [4] k (fun kq v4 w' => ∃ (y : List (S84)) (s : Int), v4 = .int .i64 s /\ ap (ep.l0 kq l0 y s = some r) /\ ap (kq <= k) /\ ap (Kd.R k84 84 w' w.heap.size (fun _ => True) a6 y) /\ ap (Below w.heap.size w w'))
 case atStart => exact ⟨(aK), (0), (Z3), H', ⟨bj _⟩, ⟨by (with_reducible repeat (first | apply Kd.R_alloc | apply Kd.R_drewN | apply Kd.R_drew)); exact a7.out⟩, ⟨Z0⟩⟩
 case round =>
  clear H'
  (try clear c2); (try clear aZ); (try clear a2); (try clear c3); (try clear a3); (try clear a5)
  obtain ⟨y, s, rfl, HA, HK1, HO_3, HB⟩ := hrel
  cases gk with
  | zero => exact absurd HA.out (by simp [ep.l0])
  | succ k1 =>
   have H := HA.out
   clear HA
   simp only [ep.l0] at H
   by_cases c6 : s < (l0.length : Int)
   ·rw [if_pos c6] at H
    have a9 := az c6
    clear c6
    obtain ⟨c7, H⟩ := ifS H
    have bL := az c7
    clear c7
    obtain ⟨⟨J, M⟩, A8, H⟩ := cz H
    try dsimp only at H
    obtain ⟨c9, H⟩ := ifS H
    have bM := az c9
    clear c9
    obtain ⟨Z, X⟩ : ∃ y_ : List (S84), y_ = (y.set (s : Int).toNat (⟨J, M⟩ : S84)) := ⟨_, rfl⟩
    replace H : (ep.l0 k1 l0 Z (wrap64 (s + 1))) = some r := by first | (rw [X]; with_reducible exact H) | (have H2_ := (Option.bind_some _ _).symm.trans H; rw [X]; with_reducible exact H2_) | (have H2_ := (Option.bind_some _ _).symm.trans H; with_reducible exact H2_) | with_reducible exact H | (rw [X]; exact H) | exact H
    have bB := aM X
    clear X
    have H' := aM H
    clear H
    have aA : 0 <= (s : Int) := dT (Z4)
    have aB : s < (l0.length : Int) := dT (Z4)
    obtain ⟨bN, bC, aO, aP⟩ := at_T71 hr0.out s aA aB
    cases bC
    replace aO := cB HB.out aO
    replace aP := cB HB.out aP
    replace aA := bh aA
    replace aB := bh aB
    go_wp2_with (first | ((with_reducible refine gC 44 ?_); refine gL 20 func44 #[.agg #[.string ((aw l0 s).f0), .string ((aw l0 s).f1)]] ?_; (with_reducible refine (laws_toItem.calls ((aw l0 s).f0) ((aw l0 s).f1) J M _ A8.out).mono ?_); rintro e I ⟨rfl, hb⟩; refine ⟨_, rfl, ?_⟩; replace HO_3 := aM (Kd.R_below (Z76) hb); replace HB := aM (ae (Z0) hb); (try clear hb); have p10 : 0 <= (s : Int) := dT (Z4); have aC : (s : Int) < ((y.length : Int) : Int) := dT (Z4); obtain ⟨D, aQ, aR, aS, bD, bO, aT⟩ := Kd.R_form HO_3.out (Z31); (first | cases aR | (injection aR with ea_ en_ ec_; (first | subst ea_ | (injection ea_ with ea_; subst ea_)); subst ec_; clear en_)); have aU := aM aS; have bP := aM aT; clear aS bD aT; obtain ⟨bQ, bE, aV, aD, aE⟩ := Kd.R_elem HO_3.out z84 (s : Int) p10 aC; obtain rfl := k84_openM aV; have bR : I.cell? ⟨D, (s : Int).toNat * 2, none⟩ = some (.string ((ay y s).f0)) := aD 0 _ rfl; have bS : I.cell? ⟨D, (s : Int).toNat * 2 + 1, none⟩ = some (.string ((ay y s).f1)) := aD 1 _ rfl; have bT : I.frozen? ⟨D, (s : Int).toNat * 2, none⟩ = false := aE 0; have bU : I.frozen? ⟨D, (s : Int).toNat * 2 + 1, none⟩ = false := aE 1; clear bE aD aE aV; replace p10 := bh p10; replace aC := bh aC; have aW := aM (show Kd.R k84 84 I w.heap.size (fun _ => True) (.slice (some ⟨D, 0, none⟩) y.length aQ) y from (Z76)); obtain ⟨bV, aX, aY, Y, aF⟩ := Kd.R_elem aW.out z84 (s : Int) (dT (Z4)) (by have h_ : (s : Int) < ((y.length : Int) : Int) := dT (Z4); first | exact h_ | (have e_ := (Kd.R_reads' HO_3.out).1; omega) | simpa using h_); obtain rfl := k84_openM aY; have aG := Kd.R_seg aW.out (s : Int) (dT (Z4)) (by have h_ : (s : Int) < ((y.length : Int) : Int) := dT (Z4); first | exact h_ | (have e_ := (Kd.R_reads' HO_3.out).1; omega) | simpa using h_) (seg := [.string J, .string M]) (j := 0) aX Y (show 2 <= 2 from by decide) (x' := (⟨J, M⟩ : S84)) (k84_mkM _ _ _ (⟨J, M⟩ : S84) ) (fun _ hk => hk); have bF := Y 0 _ rfl; (try simp only [show (k84).sz = 2 from rfl, Nat.mul_one, Nat.add_zero] at bF); have bG := aF 0; (try simp only [show (k84).sz = 2 from rfl, Nat.mul_one, Nat.add_zero] at bG); have bH := Y 1 _ rfl; (try simp only [show (k84).sz = 2 from rfl, Nat.mul_one, Nat.add_zero] at bH); have bI := aF 1; (try simp only [show (k84).sz = 2 from rfl, Nat.mul_one, Nat.add_zero] at bI); clear aX Y aF aY) | ((with_reducible refine gate_store (t := 84) (p := 21) rfl ?_); refine store_event (t := 84) (p := 21) (v := ?vo_w13) (w1 := ((I.setCell ⟨D, (s : Int).toNat * 2, none⟩ (.string J)).setCell ⟨D, (s : Int).toNat * 2 + 1, none⟩ (.string M))) ?hg ?ho ?hn ?hr ?_; (case ho => rfl); (case hg => rfl); (case hn => rfl); (case hr => first | (go_simp; done) | (go_simp; rfl)); intro aH hw; have hg : I.grownBy aH (some D) := (by rw [hw]; exact aG.2); have hp_ : Kd.R k84 84 aH w.heap.size (fun _ => True) (.slice (some ⟨D, 0, none⟩) y.length aQ) Z := (by rw [hw, bB.out]; exact aG.1); clear aG; replace HO_3 := aM (hp_); replace HB := aM ((by rw [hw]; exact aa (aa (HB.out) aU.out) aU.out : Below w.heap.size w aH)); clear hg hw hp_))
    go_roundg k1
    case measure => have := HK1.out; omega
    case rel => exact ⟨(Z), (wrap64 (s + 1)), (Z3), H', ⟨Z85⟩, ⟨Z76⟩, ⟨Z0⟩⟩
   rw [if_neg c6] at H
   have a9 := ba c6
   clear c6
   obtain rfl := oI H
   go_wp2
   go_ret
   exact ⟨_, Z1, Z76, Z0⟩
def fx.f (k : Nat) (s : Int) (y : Int) (D : Int) (I : Int) (J : ByteArray) (M : List (S71)) : Option (Int × Int × Int × Int × ByteArray × (List (S84))) := (ep.f k M).bind fun O => (some (s, y, D, I, J, O))
theorem fx.calls (k : Nat) (y : Int) (D : Int) (I : Int) (J : Int) (M : ByteArray) (O : Option Addr) (U : Nat) (s : List (S71)) (r1 : Int) (r2 : Int) (r3 : Int) (r4 : Int) (r5 : ByteArray) (r6 : List (S84)) (w : World) (Y : Kd.C k71 w O s.length s) (Z : s.length <= U) (h : fx.f k y D I J M s = some (r1, r2, r3, r4, r5, r6)) :
  Calls prog 8 #[.agg #[.int .i64 y, .int .i64 D, .int .i64 I, .int .i64 J, .string M, .slice O s.length U]] w fun e w' => ∃ v5_ : Value, e = .returned (.agg #[.int .i64 r1, .int .i64 r2, .int .i64 r3, .int .i64 r4, .string r5, v5_]) /\ Kd.R k84 84 w' w.heap.size (fun _ => True) v5_ r6 /\ Below w.heap.size w w' := by
 have aW := underlying29
 have aX := underlying41
 replace Y := aM Y
 replace Z := aM Z
 have HB := aM (bi w.heap.size w)
 have H := h
 clear h
 unfold fx.f at H
 obtain ⟨aA, A2, H⟩ := cz H
 try dsimp only at H
 simp only [Option.some.injEq, Prod.mk.injEq] at H
 obtain ⟨rfl, rfl, rfl, rfl, rfl, rfl⟩ := H
 go_enter func8, ntmps8
 go_wp2_with (first | ((with_reducible refine gD 1 ?_); refine bxF w 1 #[.int .i64 y, .int .i64 D, .int .i64 I, .int .i64 J, .string M, .slice O s.length U] 29 (Z0) ?_; intro aY hg w3 BK325 aZ GE325 HB hb; clear hb hg) | ((with_reducible refine gD 2 ?_); refine bxF w 2 #[.int .i64 0, .int .i64 0, .int .i64 0, .int .i64 0, .string (⟨#[]⟩ : ByteArray), .slice none 0 0] 41 (Z150) ?_; intro aO hg w4 BK326 a2 GE326 HB hb; have aP := aM ((nL BK325 hg (Z104))); have aQ := aM ((nG BK325 hg (Z104))); replace BK325 := aM (kB BK325 (Z104) hb); clear hb hg) | ((with_reducible refine gD 3 ?_); refine bxF w 3 #[.int .i64 0, .int .i64 0, .int .i64 0, .int .i64 0, .string (⟨#[]⟩ : ByteArray), .slice none 0 0] 41 (Z122) ?_; intro aH hg w5 X a3 GE327 HB hb; have aR := aM ((nL BK325 hg (Z104))); have aS := aM ((nG BK325 hg (Z104))); replace BK325 := aM (kB BK325 (Z104) hb); have aT := aM ((nL BK326 hg (Z181))); have aU := aM ((nG BK326 hg (Z181))); replace BK326 := aM (kB BK326 (Z181) hb); clear hb hg; have a5 := aP.out; have a6 := aQ.out; have a7 := aR.out; have a8 := aS.out; refine bD6 BK325 ?_; intros; have a9 := aU.out; have bA := aT.out; refine bD6 X ?_; intros) | ((with_reducible refine gC 23 ?_); refine gL 21 func23 #[.slice O s.length U] ?_; (with_reducible refine (ep.calls k _ _ s aA _ ?Y1 ?Y2 A2.out).mono ?_); (case Y1 => exact Kd.C_below Y.out (Z81)); (case Y2 => exact Z.out); rintro e bB ⟨bC, rfl, aI, hb⟩; refine ⟨_, rfl, ?_⟩; have aJ := aM (Kd.R_lower aI (ct (Z81))); replace BK325 := aM (kB BK325 zB hb); replace BK326 := aM (kB BK326 zB hb); replace X := aM (ai (g := aH) (o := .cells #[.int .i64 y, .int .i64 D, .int .i64 I, .int .i64 J, .string M, .slice none 0 0] 41 (0, 0)) zB hb); replace HB := aM (ae (Z81) hb); (try clear hb); (try clear aI); obtain ⟨aK, aL, aV⟩ := Kd.R_slice aJ.out; subst aV; refine bD6 X ?_; intros; refine bD6 BK326 ?_; intros))
 refine bodyPost_ret (results_cell_row rfl _ _ aO 41 #[.int .i64 y, .int .i64 D, .int .i64 I, .int .i64 J, .string M, .slice aK aA.length aL] (0, 0) _ rfl zB underlying41 rfl (Z16)) rfl ?_
 exact ⟨_, Z1, by (with_reducible repeat (first | apply Kd.R_alloc | apply Kd.R_drewN | apply Kd.R_drew)); exact Kd.R_mono (rF 5 (rF 4 (rF 3 (rF 2 (rF 1 (rF 0 (Kd.R_far (p := ⟨aH, 5, none⟩) (Kd.R_types (Kd.R_types aJ.out X.out (Z68)) BK326.out (Z68)) (fun _ hk => hk.1.2) (.slice aK aA.length aL)))))))) (fun _ hk => trivial), Z81⟩
def impl_LogOK.f (s : Int) (y : ByteArray) (D : Int) : Option (Bool) := (da.f s 0 60000).bind fun I => (if I = true then (if (y.size : Int) <= s then ((da.f D 0 (y.size : Int)).bind fun J => (some J)) else (some false)) else (some false))
theorem impl_LogOK.calls (s : Int) (y : ByteArray) (D : Int) (r : Bool) (w : World) (h : impl_LogOK.f s y D = some r) :
  Calls prog 45 #[.agg #[.int .i64 s, .string y, .int .i64 D]] w fun e w' => e = .returned (.bool r) /\ Below w.heap.size w w' := by
 have aA := underlying32
 have HB := aM (bi w.heap.size w)
 have H := h
 clear h
 unfold impl_LogOK.f at H
 obtain ⟨U, J, H⟩ := cz H
 try dsimp only at H
 by_cases c3 : U = true
 ·subst c3
  replace H := ifT H
  by_cases c4 : (y.size : Int) <= s
  ·rw [if_pos c4] at H
   have X := az c4
   clear c4
   obtain ⟨Y, Z, H⟩ := cz H
   try dsimp only at H
   obtain rfl := oI H
   go_enter func45, ntmps45
   go_wp2_with (first | ((with_reducible refine gD 1 ?_); (try (refine dl (Z96) ?_; dsimp only)); refine bxF w 1 #[.int .i64 s, .string y, .int .i64 D] 32 (Z0) ?_; intro M hg w6 I O GE331 HB hb; clear hb hg; refine bD3 I ?_; intros) | ((with_reducible refine gC 54 ?_); refine gL 5 func54 #[.int .i64 s, .int .i64 0, .int .i64 60000] ?_; (with_reducible refine (da.calls s 0 60000 true _ J.out).mono ?_); rintro e w' ⟨rfl, ⟨nd, rfl⟩⟩; refine ⟨_, rfl, ?_⟩) | (go_at_call 54; (with_reducible refine (da.calls D 0 (y.size : Int) Y _ Z.out).mono ?_); rintro e w' ⟨rfl, ⟨nd, rfl⟩⟩))
   go_ret
   exact ⟨Z1, Z151⟩
  rw [if_neg c4] at H
  have X := ba c4
  clear c4
  obtain rfl := oI H
  go_enter func45, ntmps45
  go_wp2_with (first | ((with_reducible refine gD 1 ?_); (try (refine dl (Z96) ?_; dsimp only)); refine bxF w 1 #[.int .i64 s, .string y, .int .i64 D] 32 (Z0) ?_; intro M hg w8 I O GE331 HB hb; clear hb hg; refine bD3 I ?_; intros) | ((with_reducible refine gC 54 ?_); refine gL 5 func54 #[.int .i64 s, .int .i64 0, .int .i64 60000] ?_; (with_reducible refine (da.calls s 0 60000 true _ J.out).mono ?_); rintro e w' ⟨rfl, ⟨nd, rfl⟩⟩; refine ⟨_, rfl, ?_⟩))
  go_ret
  exact ⟨Z1, Z151⟩
 replace c3 := be c3
 subst c3
 replace H := ifF H
 obtain rfl := oI H
 go_enter func45, ntmps45
 go_wp2_with (first | ((with_reducible refine gD 1 ?_); (try (refine dl (Z96) ?_; dsimp only)); refine bxF w 1 #[.int .i64 s, .string y, .int .i64 D] 32 (Z0) ?_; intro M hg aC I O GE331 HB hb; clear hb hg; refine bD3 I ?_; intros) | ((with_reducible refine gC 54 ?_); refine gL 5 func54 #[.int .i64 s, .int .i64 0, .int .i64 60000] ?_; (with_reducible refine (da.calls s 0 60000 false _ J.out).mono ?_); rintro e w' ⟨rfl, ⟨nd, rfl⟩⟩; refine ⟨_, rfl, ?_⟩))
 go_ret
 exact ⟨Z1, Z151⟩
theorem contains_front (k : Nat) (A : Option Addr) (c : Nat) (l : List ByteArray) (n : Nat) (x : ByteArray) (r : Bool) (w : World) (hC : Kd.C Kd.string w A l.length l) (hn : n <= l.length) (hc : l.length <= c) (h : dc.f k (l.take n) x = some r) :
  Calls prog 115 #[.slice A n c, .string x] w fun e w' => e = .returned (.bool r) /\ ew w w' := by
 have e : (l.take n).length = n := by rw [List.length_take]; omega
 have := dc.calls k A c (l.take n) x r w (Kd.C_take hC hn) (Z31) h
 rw [e] at this; exact this
mutual
def cg.j0 : Nat -> Bool -> ByteArray -> Int -> Int -> List (S113) -> List ByteArray -> Option (Bool)
 | 0, _, _, _, _, _, _ => none
 | k + 1, M, I, J, y, D, s => if M = true then (some false) else (if (D.length : Int) > 30 then (cg.j1 k true I J y D s) else (if (s.length : Int) > 60 then (cg.j1 k true I J y D s) else (cg.j1 k ((s.length : Int) != (wrap64 (y - 1))) I J y D s)))
def cg.j1 : Nat -> Bool -> ByteArray -> Int -> Int -> List (S113) -> List ByteArray -> Option (Bool)
 | 0, _, _, _, _, _, _ => none
 | k + 1, y, D, I, J, s, M => if y = true then (some false) else (cg.l0 k 0 s (s.length : Int) 0 D I J s M)
def cg.l0 : Nat -> Int -> List (S113) -> Int -> Int -> ByteArray -> Int -> Int -> List (S113) -> List ByteArray -> Option (Bool)
 | 0, _, _, _, _, _, _, _, _, _ => none
 | k + 1, x3, y, J, s, M, O, I, U, D => if s < J then (if 0 <= s then (if s < (y.length : Int) then ((da.f ((ar y s).f0) (wrap64 (x3 + 1)) (wrap64 (I - 1))).bind fun X => (if X = true then ((da.f ((ar y s).f1) 0 31).bind fun Y => (if Y = true then (if (((ar y s).f2).size : Int) > 4000 then (some false) else (cg.l0 k ((ar y s).f0) y J (wrap64 (s + 1)) M O I U D)) else (some false))) else (some false))) else (none)) else (none)) else (cg.l1 k D (D.length : Int) 0 M O I U D)
def cg.l1 : Nat -> List ByteArray -> Int -> Int -> ByteArray -> Int -> Int -> List (S113) -> List ByteArray -> Option (Bool)
 | 0, _, _, _, _, _, _, _, _ => none
 | k + 1, y, I, s, J, M, O, U, D => if s < I then (if 0 <= s then (if s < (y.length : Int) then ((impl_keyOK.f (gb ByteArray.empty y s)).bind fun X => (if X = true then (if s <= (D.length : Int) then ((dc.f k (D.take (s : Int).toNat) (gb ByteArray.empty y s)).bind fun Y => (if Y = true then (some false) else (cg.l1 k y I (wrap64 (s + 1)) J M O U D))) else (none)) else (some false))) else (none)) else (none)) else (some true)
end
def cg.f (k : Nat) (s : ByteArray) (y : Int) (D : Int) (l0_3 : List (S113)) (I : List ByteArray) : Option (Bool) := (cw.f k s).bind fun J => (if J = true then ((da.f y 1 1000000).bind fun M => (if M = true then ((da.f D 1 1001).bind fun O => (cg.j0 k (!O) s y D l0_3 I)) else (cg.j0 k true s y D l0_3 I))) else (cg.j0 k true s y D l0_3 I))
theorem cg.calls (k : Nat) (J : ByteArray) (U : Int) (I : Int) (aG : Option Addr) (aH : Nat) (l0_3 : List (S113)) (aI : Option Addr) (aD : Nat) (s : List ByteArray) (r : Bool) (w : World) (aQ : Kd.C k113 w aG l0_3.length l0_3) (bP : l0_3.length <= aH) (aE : Kd.C Kd.string w aI s.length s) (aR : s.length <= aD) (h : cg.f k J U I l0_3 s = some r) :
  Calls prog 85 #[.agg #[.string J, .int .i64 U, .int .i64 I, .slice aG l0_3.length aH, .slice aI s.length aD]] w fun e w' => e = .returned (.bool r) /\ Below w.heap.size w w' := by
 have cZ := underlying82
 have dA := underlying113
 replace aQ := aM aQ
 replace bP := aM bP
 replace aE := aM aE
 replace aR := aM aR
 have HB := aM (bi w.heap.size w)
 have H := h
 clear h
 unfold cg.f at H
 have bD := aM H
 clear H
 go_enter func85, ntmps85
 go_upto_region 1 with (first | ((with_reducible refine gD 1 ?_); (try (refine dl (Z96) ?_; dsimp only)); refine bxF w 1 #[.string J, .int .i64 U, .int .i64 I, .slice aG l0_3.length aH, .slice aI s.length aD] 82 (Z0) ?_; intro aZ hg w3 BK334 dB GE334 HB hb; clear hb hg))
 (try simp only [Act.put, List.setIfInBounds_toArray, List.set_cons_zero, List.set_cons_succ])
 go_cut [23] (fun cC wc => ∃ (kq : Nat) (a2 : Bool), cC = .bool a2 /\ ap (cg.j0 kq a2 J U I l0_3 s = some r) /\ ap (kq <= k) /\ ap (wc.heap[aZ]? = some (.cells #[.string J, .int .i64 U, .int .i64 I, (.slice aG l0_3.length aH), (.slice aI s.length aD)] 82 (0, 0))) /\ ap (Below w.heap.size w wc))
 case first =>
  have H := bD.out
  clear bD
  obtain ⟨cD, A4, H⟩ := cz H
  try dsimp only at H
  by_cases c5 : cD = true
  ·subst c5
   replace H := ifT H
   obtain ⟨cG, A6, H⟩ := cz H
   try dsimp only at H
   by_cases c7 : cG = true
   ·subst c7
    replace H := ifT H
    obtain ⟨bR, A8, H⟩ := cz H
    try dsimp only at H
    have H' := aM H
    clear H
    refine bD5 BK334 ?_
    intros
    go_wp2_with (first | ((with_reducible refine gC 50 ?_); refine gL 10 func50 #[.string J] ?_; (with_reducible refine (cw.calls k J true _ A4.out).mono ?_); rintro e w' ⟨rfl, ⟨nd, rfl⟩⟩; refine ⟨_, rfl, ?_⟩) | (go_at_call 54; (with_reducible refine (da.calls U 1 1000000 true _ A6.out).mono ?_); rintro e w' ⟨rfl, ⟨nd, rfl⟩⟩) | (go_at_call 54; (with_reducible refine (da.calls I 1 1001 bR _ A8.out).mono ?_); rintro e w' ⟨rfl, ⟨nd, rfl⟩⟩))
    go_meet
    case rel => exact ⟨_, (!bR), (Z3), H', ⟨Z82⟩, ⟨Z35⟩, ⟨Z15⟩⟩
   replace c7 := be c7
   subst c7
   replace H := ifF H
   have H' := aM H
   clear H
   refine bD5 BK334 ?_
   intros
   go_wp2_with (first | ((with_reducible refine gC 50 ?_); refine gL 10 func50 #[.string J] ?_; (with_reducible refine (cw.calls k J true _ A4.out).mono ?_); rintro e w' ⟨rfl, ⟨nd, rfl⟩⟩; refine ⟨_, rfl, ?_⟩) | (go_at_call 54; (with_reducible refine (da.calls U 1 1000000 false _ A6.out).mono ?_); rintro e w' ⟨rfl, ⟨nd, rfl⟩⟩))
   go_meet
   case rel => exact ⟨_, (true), (Z3), H', ⟨Z82⟩, ⟨Z35⟩, ⟨Z15⟩⟩
  replace c5 := be c5
  subst c5
  replace H := ifF H
  have H' := aM H
  clear H
  refine bD5 BK334 ?_
  intros
  go_wp2_with (first | ((with_reducible refine gC 50 ?_); refine gL 10 func50 #[.string J] ?_; (with_reducible refine (cw.calls k J false _ A4.out).mono ?_); rintro e w' ⟨rfl, ⟨nd, rfl⟩⟩; refine ⟨_, rfl, ?_⟩))
  go_meet
  case rel => exact ⟨_, (true), (Z3), H', ⟨Z82⟩, ⟨Z35⟩, ⟨Z15⟩⟩
 case rest =>
  clear bD
  obtain ⟨kq, a2, rfl, HA, HJ1, BK334, HB⟩ := hcut
  cases kq with
  | zero => exact absurd HA.out (by simp [cg.j0])
  | succ cI =>
   have H := HA.out
   clear HA
   simp only [cg.j0] at H
   by_cases aJ : a2 = true
   ·subst aJ
    replace H := ifT H
    obtain rfl := oI H
    go_wp2
    go_ret
    exact ⟨Z1, Z15⟩
   replace aJ := be aJ
   subst aJ
   replace H := ifF H
   have bF := aM H
   clear H
   go_upto_region 3 with (fail)
   go_cut [42] (fun cJ wc => ∃ (kq : Nat) (a3 : Bool), cJ = .bool a3 /\ ap (cg.j1 kq a3 J U I l0_3 s = some r) /\ ap (kq <= cI) /\ ap (wc.heap[aZ]? = some (.cells #[.string J, .int .i64 U, .int .i64 I, (.slice aG l0_3.length aH), (.slice aI s.length aD)] 82 (0, 0))) /\ ap (Below w.heap.size w wc))
   case first =>
    have H := bF.out
    clear bF
    by_cases aS : (l0_3.length : Int) > 30
    ·rw [if_pos aS] at H
     have aX : decide (30 < (l0_3.length : Int)) = true := az aS
     have bG : decide (30 < l0_3.length) = true := az (Z31)
     clear aS
     (first | rw [aX] | rw [bG] | (simp only [i64_w, i32_w]; rw [aX]) | skip)
     have H' := aM H
     clear H
     refine bD5 BK334 ?_
     intros
     go_wp2
     go_meet
     case rel => exact ⟨_, (true), (Z3), H', ⟨Z194⟩, ⟨Z35⟩, ⟨Z15⟩⟩
    rw [if_neg aS] at H
    have aX : decide (30 < (l0_3.length : Int)) = false := ba aS
    have bG : decide (30 < l0_3.length) = false := ba (Z31)
    clear aS
    (first | rw [aX] | rw [bG] | (simp only [i64_w, i32_w]; rw [aX]) | skip)
    by_cases aT : (s.length : Int) > 60
    ·rw [if_pos aT] at H
     have cK : decide (60 < (s.length : Int)) = true := az aT
     have cL : decide (60 < s.length) = true := az (Z31)
     clear aT
     have H' := aM H
     clear H
     refine bD5 BK334 ?_
     intros
     go_wp2
     go_meet
     case rel => exact ⟨_, (true), (Z3), H', ⟨Z194⟩, ⟨Z35⟩, ⟨Z15⟩⟩
    rw [if_neg aT] at H
    have cK : decide (60 < (s.length : Int)) = false := ba aT
    have cL : decide (60 < s.length) = false := ba (Z31)
    clear aT
    have H' := aM H
    clear H
    refine bD5 BK334 ?_
    intros
    go_wp2
    go_meet
    case rel => exact ⟨_, (((s.length : Int) != (wrap64 (I - 1)))), (Z3), H', ⟨Z194⟩, ⟨Z35⟩, ⟨Z15⟩⟩
   case rest =>
    clear bF
    (try clear aJ)
    obtain ⟨kq, a3, rfl, HA, a5, BK334, HB⟩ := hcut
    cases kq with
    | zero => exact absurd HA.out (by simp [cg.j1])
    | succ bS =>
     have H := HA.out
     clear HA
     simp only [cg.j1] at H
     by_cases aU : a3 = true
     ·subst aU
      replace H := ifT H
      obtain rfl := oI H
      go_wp2
      go_ret
      exact ⟨Z1, Z15⟩
     replace aU := be aU
     subst aU
     replace H := ifF H
     have H' := aM H
     clear H
     refine bD5 BK334 ?_
     intros
     go_wp2
     go_loopg [3, 46] bS (fun kq v3 cN w' => ∃ (X : Int) (y : Int), v3 = .int .i64 X /\ cN = .int .i64 y /\ ap (cg.l0 kq X l0_3 (l0_3.length : Int) y J U I l0_3 s = some r) /\ ap (kq <= bS) /\ ap (w'.heap[aZ]? = some (.cells #[.string J, .int .i64 U, .int .i64 I, (.slice aG l0_3.length aH), (.slice aI s.length aD)] 82 (0, 0))) /\ ap (Below w.heap.size w w'))
     case atStart => exact ⟨(0), (0), (Z3), (Z3), H', ⟨bj _⟩, ⟨Z35⟩, ⟨Z15⟩⟩
     case round =>
      clear H'
      (try clear aJ); (try clear aU)
      obtain ⟨X, y, rfl, rfl, HA, a6, BK334, HB⟩ := hrel
      cases gk with
      | zero => exact absurd HA.out (by simp [cg.l0])
      | succ k3 =>
       have H := HA.out
       clear HA
       simp only [cg.l0] at H
       by_cases aK : y < (l0_3.length : Int)
       ·rw [if_pos aK] at H
        have bT := az aK
        clear aK
        obtain ⟨bU, H⟩ := ifS H
        have dC := az bU
        clear bU
        obtain ⟨bV, H⟩ := ifS H
        have dD := az bV
        clear bV
        obtain ⟨cO, a7, H⟩ := cz H
        try dsimp only at H
        by_cases a8 : cO = true
        ·subst a8
         replace H := ifT H
         obtain ⟨cP, bI, H⟩ := cz H
         try dsimp only at H
         by_cases a9 : cP = true
         ·subst a9
          replace H := ifT H
          by_cases aV : (((ar l0_3 y).f2).size : Int) > 4000
          ·rw [if_pos aV] at H
           have cQ : decide (4000 < (((ar l0_3 y).f2).size : Int)) = true := az aV
           have cR : decide (4000 < ((ar l0_3 y).f2).size) = true := az (Z31)
           clear aV
           obtain rfl := oI H
           have M : 0 <= (y : Int) := dT (Z4)
           have O : y < (l0_3.length : Int) := dT (Z4)
           obtain ⟨bJ, aL, Y, Z, aA⟩ := ed aQ.out y M O
           cases aL
           replace Y := cB HB.out Y
           replace Z := cB HB.out Z
           replace aA := cB HB.out aA
           replace M := bh M
           replace O := bh O
           go_wp2_with (first | ((with_reducible refine gD 5 ?_); (try (refine dl (Z96) ?_; dsimp only)); refine bxF w 5 #[.int .i64 0, .int .i64 0, .string (⟨#[]⟩ : ByteArray)] 113 (Z15) ?_; intro bK hg dE aN bL GE339 HB hb; have aO := aM ((nL BK334 hg (Z35))); have aP := aM ((nG BK334 hg (Z35))); replace BK334 := aM (kB BK334 (Z35) hb); clear hb hg; have dF := aP.out; have dG := aO.out; refine bD3 aN ?_; intros; refine bD5 BK334 ?_; intros) | ((with_reducible refine gC 54 ?_); refine gL 57 func54 #[.int .i64 ((ar l0_3 y).f0), .int .i64 (wrap64 (X + 1)), .int .i64 (wrap64 (I - 1))] ?_; (with_reducible refine (da.calls ((ar l0_3 y).f0) (wrap64 (X + 1)) (wrap64 (I - 1)) true _ a7.out).mono ?_); rintro e w' ⟨rfl, ⟨nd, rfl⟩⟩; refine ⟨_, rfl, ?_⟩) | (go_at_call 54; (with_reducible refine (da.calls ((ar l0_3 y).f1) 0 31 true _ bI.out).mono ?_); rintro e w' ⟨rfl, ⟨nd, rfl⟩⟩))
           go_ret
           exact ⟨Z1, Z90⟩
          rw [if_neg aV] at H
          have cQ : decide (4000 < (((ar l0_3 y).f2).size : Int)) = false := ba aV
          have cR : decide (4000 < ((ar l0_3 y).f2).size) = false := ba (Z31)
          clear aV
          have H' := aM H
          clear H
          have M : 0 <= (y : Int) := dT (Z4)
          have O : y < (l0_3.length : Int) := dT (Z4)
          obtain ⟨bJ, aL, Y, Z, aA⟩ := ed aQ.out y M O
          cases aL
          replace Y := cB HB.out Y
          replace Z := cB HB.out Z
          replace aA := cB HB.out aA
          replace M := bh M
          replace O := bh O
          go_wp2_with (first | ((with_reducible refine gD 5 ?_); (try (refine dl (Z96) ?_; dsimp only)); refine bxF w 5 #[.int .i64 0, .int .i64 0, .string (⟨#[]⟩ : ByteArray)] 113 (Z15) ?_; intro bK hg dH aN bL GE339 HB hb; have aO := aM ((nL BK334 hg (Z35))); have aP := aM ((nG BK334 hg (Z35))); replace BK334 := aM (kB BK334 (Z35) hb); clear hb hg; have dI := aP.out; have dJ := aO.out; refine bD3 aN ?_; intros; refine bD5 BK334 ?_; intros) | ((with_reducible refine gC 54 ?_); refine gL 57 func54 #[.int .i64 ((ar l0_3 y).f0), .int .i64 (wrap64 (X + 1)), .int .i64 (wrap64 (I - 1))] ?_; (with_reducible refine (da.calls ((ar l0_3 y).f0) (wrap64 (X + 1)) (wrap64 (I - 1)) true _ a7.out).mono ?_); rintro e w' ⟨rfl, ⟨nd, rfl⟩⟩; refine ⟨_, rfl, ?_⟩) | (go_at_call 54; (with_reducible refine (da.calls ((ar l0_3 y).f1) 0 31 true _ bI.out).mono ?_); rintro e w' ⟨rfl, ⟨nd, rfl⟩⟩))
          go_roundg k3
          case measure => have := HJ1.out; have := a5.out; have := a6.out; omega
          case rel => exact ⟨((ar l0_3 y).f0), (wrap64 (y + 1)), (Z3), (Z3), H', ⟨by have := HJ1.out; have := a5.out; have := a6.out; omega⟩, ⟨zB⟩, ⟨Z90⟩⟩
         replace a9 := be a9
         subst a9
         replace H := ifF H
         obtain rfl := oI H
         have M : 0 <= (y : Int) := dT (Z4)
         have O : y < (l0_3.length : Int) := dT (Z4)
         obtain ⟨bJ, aL, Y, Z, aA⟩ := ed aQ.out y M O
         cases aL
         replace Y := cB HB.out Y
         replace Z := cB HB.out Z
         replace aA := cB HB.out aA
         replace M := bh M
         replace O := bh O
         go_wp2_with (first | ((with_reducible refine gD 5 ?_); (try (refine dl (Z96) ?_; dsimp only)); refine bxF w 5 #[.int .i64 0, .int .i64 0, .string (⟨#[]⟩ : ByteArray)] 113 (Z15) ?_; intro bK hg dK aN bL GE339 HB hb; have aO := aM ((nL BK334 hg (Z35))); have aP := aM ((nG BK334 hg (Z35))); replace BK334 := aM (kB BK334 (Z35) hb); clear hb hg; have dL := aP.out; have dM := aO.out; refine bD3 aN ?_; intros; refine bD5 BK334 ?_; intros) | ((with_reducible refine gC 54 ?_); refine gL 57 func54 #[.int .i64 ((ar l0_3 y).f0), .int .i64 (wrap64 (X + 1)), .int .i64 (wrap64 (I - 1))] ?_; (with_reducible refine (da.calls ((ar l0_3 y).f0) (wrap64 (X + 1)) (wrap64 (I - 1)) true _ a7.out).mono ?_); rintro e w' ⟨rfl, ⟨nd, rfl⟩⟩; refine ⟨_, rfl, ?_⟩) | (go_at_call 54; (with_reducible refine (da.calls ((ar l0_3 y).f1) 0 31 false _ bI.out).mono ?_); rintro e w' ⟨rfl, ⟨nd, rfl⟩⟩))
         go_ret
         exact ⟨Z1, Z90⟩
        replace a8 := be a8
        subst a8
        replace H := ifF H
        obtain rfl := oI H
        have M : 0 <= (y : Int) := dT (Z4)
        have O : y < (l0_3.length : Int) := dT (Z4)
        obtain ⟨bJ, aL, Y, Z, aA⟩ := ed aQ.out y M O
        cases aL
        replace Y := cB HB.out Y
        replace Z := cB HB.out Z
        replace aA := cB HB.out aA
        replace M := bh M
        replace O := bh O
        go_wp2_with (first | ((with_reducible refine gD 5 ?_); (try (refine dl (Z96) ?_; dsimp only)); refine bxF w 5 #[.int .i64 0, .int .i64 0, .string (⟨#[]⟩ : ByteArray)] 113 (Z15) ?_; intro bK hg dN aN bL GE339 HB hb; have aO := aM ((nL BK334 hg (Z35))); have aP := aM ((nG BK334 hg (Z35))); replace BK334 := aM (kB BK334 (Z35) hb); clear hb hg; have dO := aP.out; have dP := aO.out; refine bD3 aN ?_; intros; refine bD5 BK334 ?_; intros) | ((with_reducible refine gC 54 ?_); refine gL 57 func54 #[.int .i64 ((ar l0_3 y).f0), .int .i64 (wrap64 (X + 1)), .int .i64 (wrap64 (I - 1))] ?_; (with_reducible refine (da.calls ((ar l0_3 y).f0) (wrap64 (X + 1)) (wrap64 (I - 1)) false _ a7.out).mono ?_); rintro e w' ⟨rfl, ⟨nd, rfl⟩⟩; refine ⟨_, rfl, ?_⟩))
        go_ret
        exact ⟨Z1, Z90⟩
       rw [if_neg aK] at H
       have bT := ba aK
       clear aK
       have H' := aM H
       clear H
       refine bD5 BK334 ?_
       intros
       go_wp2
       go_loopg [77] k3 (fun kq cS w' => ∃ (D : Int), cS = .int .i64 D /\ ap (cg.l1 kq s (s.length : Int) D J U I l0_3 s = some r) /\ ap (kq <= k3) /\ ap (w'.heap[aZ]? = some (.cells #[.string J, .int .i64 U, .int .i64 I, (.slice aG l0_3.length aH), (.slice aI s.length aD)] 82 (0, 0))) /\ ap (Below w.heap.size w w'))
       case atStart => exact ⟨(0), (Z3), H', ⟨bj _⟩, ⟨Z35⟩, ⟨Z15⟩⟩
       case round =>
        clear H'
        (try clear aJ); (try clear aU); (try clear aK); (try clear bT)
        obtain ⟨D, rfl, HA, bW, BK334, HB⟩ := hrel
        cases gk with
        | zero => exact absurd HA.out (by simp [cg.l1])
        | succ k4 =>
         have H := HA.out
         clear HA
         simp only [cg.l1] at H
         by_cases aW : D < (s.length : Int)
         ·rw [if_pos aW] at H
          have cT := az aW
          clear aW
          obtain ⟨bX, H⟩ := ifS H
          have dQ := az bX
          clear bX
          obtain ⟨bY, H⟩ := ifS H
          have dR := az bY
          clear bY
          obtain ⟨cU, bN, H⟩ := cz H
          try dsimp only at H
          by_cases bA : cU = true
          ·subst bA
           replace H := ifT H
           have dS := bh (dT (Z4) : 0 <= D)
           obtain ⟨bO, H⟩ := ifS H
           have zq := bh bO
           have dU : decide (D <= (s.length : Int)) = true := az bO
           clear bO
           obtain ⟨cV, bZ, H⟩ := cz H
           try dsimp only at H
           by_cases bB : cV = true
           ·subst bB
            replace H := ifT H
            obtain rfl := oI H
            have aB : 0 <= (D : Int) := dT (Z4)
            have aC : D < (s.length : Int) := dT (Z4)
            obtain ⟨bC, aY, aF⟩ := Kd.at_string aE.out D aB aC
            cases aY
            replace aF := cB HB.out aF
            replace aB := bh aB
            replace aC := bh aC
            go_wp2_with (first | ((with_reducible refine gC 98 ?_); refine gL 83 func98 #[.string (gb ByteArray.empty s D)] ?_; (with_reducible refine (impl_keyOK.calls (gb ByteArray.empty s D) true _ bN.out).mono ?_); rintro e w' ⟨rfl, ⟨nd, rfl⟩⟩; refine ⟨_, rfl, ?_⟩; refine bD5 BK334 ?_; intros; obtain ⟨i056, b0, _, b1, _⟩ := info_parts info9; obtain ⟨dV, b2, b6⟩ := print_take_of (P := prog) Value.string (⟨#[]⟩ : ByteArray) 66 9 .i64 underlying66 b0 b1 (some bC) aD s D (dT (Z4)) (dT (Z4)) aR.out; have cX := aM (Kd.C_of_reads (h1 := fun _ => rfl) (b2 _ (Kd.reads_of_C aE.out))); have cY := aM b6; clear b2 b6 b0 b1) | (go_at_call 115; refine (contains_front k4 _ _ s _ (gb ByteArray.empty s D) true _ (Kd.C_below aE.out (Z15)) (by have h_ : D <= (s.length : Int) := dT (Z196); omega) aR.out bZ.out).mono ?_; rintro e w' ⟨rfl, ⟨nd, rfl⟩⟩))
            go_ret
            exact ⟨Z1, Z15⟩
           replace bB := be bB
           subst bB
           replace H := ifF H
           have H' := aM H
           clear H
           have aB : 0 <= (D : Int) := dT (Z4)
           have aC : D < (s.length : Int) := dT (Z4)
           obtain ⟨bC, aY, aF⟩ := Kd.at_string aE.out D aB aC
           cases aY
           replace aF := cB HB.out aF
           replace aB := bh aB
           replace aC := bh aC
           go_wp2_with (first | ((with_reducible refine gC 98 ?_); refine gL 83 func98 #[.string (gb ByteArray.empty s D)] ?_; (with_reducible refine (impl_keyOK.calls (gb ByteArray.empty s D) true _ bN.out).mono ?_); rintro e w' ⟨rfl, ⟨nd, rfl⟩⟩; refine ⟨_, rfl, ?_⟩; refine bD5 BK334 ?_; intros; obtain ⟨i058, b7, _, b8, _⟩ := info_parts info9; obtain ⟨dW, b9, cA⟩ := print_take_of (P := prog) Value.string (⟨#[]⟩ : ByteArray) 66 9 .i64 underlying66 b7 b8 (some bC) aD s D (dT (Z4)) (dT (Z4)) aR.out; have cX := aM (Kd.C_of_reads (h1 := fun _ => rfl) (b9 _ (Kd.reads_of_C aE.out))); have cY := aM cA; clear b9 cA b7 b8) | (go_at_call 115; refine (contains_front k4 _ _ s _ (gb ByteArray.empty s D) false _ (Kd.C_below aE.out (Z15)) (by have h_ : D <= (s.length : Int) := dT (Z196); omega) aR.out bZ.out).mono ?_; rintro e w' ⟨rfl, ⟨nd, rfl⟩⟩))
           go_roundg k4
           case measure => have := HJ1.out; have := a5.out; have := a6.out; have := bW.out; omega
           case rel => exact ⟨(wrap64 (D + 1)), (Z3), H', ⟨by have := HJ1.out; have := a5.out; have := a6.out; have := bW.out; omega⟩, ⟨Z35⟩, ⟨Z15⟩⟩
          replace bA := be bA
          subst bA
          replace H := ifF H
          obtain rfl := oI H
          have aB : 0 <= (D : Int) := dT (Z4)
          have aC : D < (s.length : Int) := dT (Z4)
          obtain ⟨bC, aY, aF⟩ := Kd.at_string aE.out D aB aC
          cases aY
          replace aF := cB HB.out aF
          replace aB := bh aB
          replace aC := bh aC
          go_wp2_with (first | ((with_reducible refine gC 98 ?_); refine gL 83 func98 #[.string (gb ByteArray.empty s D)] ?_; (with_reducible refine (impl_keyOK.calls (gb ByteArray.empty s D) false _ bN.out).mono ?_); rintro e w' ⟨rfl, ⟨nd, rfl⟩⟩; refine ⟨_, rfl, ?_⟩))
          go_ret
          exact ⟨Z1, Z15⟩
         rw [if_neg aW] at H
         have cT := ba aW
         clear aW
         obtain rfl := oI H
         go_wp2
         go_ret
         exact ⟨Z1, Z15⟩
def eu.l0 : Nat -> List (S82) -> List (S82) -> Int -> Int -> Option (Bool)
 | 0, _, _, _, _ => none
 | k + 1, x0, x8, x9, x10 => if x10 < x9 then (if 0 <= x10 then (if x10 < (x8.length : Int) then ((cg.f k ((ax x8 x10).f0) ((ax x8 x10).f1) ((ax x8 x10).f2) ((ax x8 x10).f3) ((ax x8 x10).f4)).bind fun s => (if s = true then (if ((ax x8 x10).f1) = (wrap64 (x10 + 1)) then ((gp.f x0 ((ax x8 x10).f0)).bind fun y => (if y = x10 then (eu.l0 k x0 x8 x9 (wrap64 (x10 + 1))) else (some false))) else (some false)) else (some false))) else (none)) else (none)) else (some true)
def eu.f (k : Nat) (l0 : List (S82)) : Option (Bool) := if (l0.length : Int) > 4 then (some false) else (eu.l0 k l0 l0 (l0.length : Int) 0)
theorem eu.calls (k : Nat) (A0 : Option Addr) (c0 : Nat) (l0 : List (S82)) (r : Bool) (w : World) (hr0 : Kd.C k82 w A0 l0.length l0) (aJ : l0.length <= c0) (h : eu.f k l0 = some r) :
  Calls prog 46 #[.slice A0 l0.length c0] w fun e w' => e = .returned (.bool r) /\ Below w.heap.size w w' := by
 have a2 := underlying82
 replace hr0 := aM hr0
 replace aJ := aM aJ
 have HB := aM (bi w.heap.size w)
 have H := h
 clear h
 unfold eu.f at H
 by_cases c2 : (l0.length : Int) > 4
 ·rw [if_pos c2] at H
  have aQ : decide (4 < (l0.length : Int)) = true := az c2
  have aR : decide (4 < l0.length) = true := az (Z31)
  clear c2
  obtain rfl := oI H
  go_enter func46, ntmps46
  go_wp2
  go_ret
  exact ⟨Z1, Z0⟩
 rw [if_neg c2] at H
 have aQ : decide (4 < (l0.length : Int)) = false := ba c2
 have aR : decide (4 < l0.length) = false := ba (Z31)
 clear c2
 have H' := aM H
 clear H
 go_enter func46, ntmps46
 go_wp2
 go_loopg [10] k (fun kq aT w' => ∃ (x10_1 : Int), aT = .int .i64 x10_1 /\ ap (eu.l0 kq l0 l0 (l0.length : Int) x10_1 = some r) /\ ap (kq <= k) /\ ap (Below w.heap.size w w'))
 case atStart => exact ⟨(0), (Z3), H', ⟨bj _⟩, ⟨Z0⟩⟩
 case round =>
  clear H'
  (try clear c2); (try clear aQ); (try clear aR)
  obtain ⟨x10_1, rfl, HA, HK1, HB⟩ := hrel
  cases gk with
  | zero => exact absurd HA.out (by simp [eu.l0])
  | succ k1 =>
   have H := HA.out
   clear HA
   simp only [eu.l0] at H
   by_cases c3 : x10_1 < (l0.length : Int)
   ·rw [if_pos c3] at H
    have aU := az c3
    clear c3
    obtain ⟨c4, H⟩ := ifS H
    have a3 := az c4
    clear c4
    obtain ⟨c5, H⟩ := ifS H
    have a5 := az c5
    clear c5
    obtain ⟨aV, A6, H⟩ := cz H
    try dsimp only at H
    by_cases c7 : aV = true
    ·subst c7
     replace H := ifT H
     by_cases c8 : ((ax l0 x10_1).f1) = (wrap64 (x10_1 + 1))
     ·rw [if_pos c8] at H
      have aW := bf c8
      have aX := bc c8
      clear c8
      obtain ⟨aL, A9, H⟩ := cz H
      try dsimp only at H
      by_cases c10 : aL = x10_1
      ·rw [if_pos c10] at H
       have aY := bf c10
       have aZ := bc c10
       clear c10
       have H' := aM H
       clear H
       have s : 0 <= (x10_1 : Int) := dT (Z4)
       have y : x10_1 < (l0.length : Int) := dT (Z4)
       obtain ⟨aN, A346_3, c346_3, D, I, aC, J, M, O, U, X, Y, Z, aA, aB⟩ := em hr0.out x10_1 s y
       cases aC
       replace J := cB HB.out J
       replace M := cB HB.out M
       replace O := cB HB.out O
       replace U := cB HB.out U
       replace X := cB HB.out X
       have aD := aM Z
       have aE := aM Y
       clear Z Y
       have aF := aM aB
       have aG := aM aA
       clear aB aA
       replace s := bh s
       replace y := bh y
       go_wp2_with (first | ((with_reducible refine gD 4 ?_); refine bxF w 4 #[.string (⟨#[]⟩ : ByteArray), .int .i64 0, .int .i64 0, .slice none 0 0, .slice none 0 0] 82 (Z0) ?_; intro aH hg a6 BK347 aO GE347 HB hb; clear hb hg; refine bD5 BK347 ?_; intros) | ((with_reducible refine gC 85 ?_); refine gL 16 func85 #[.agg #[.string ((ax l0 x10_1).f0), .int .i64 ((ax l0 x10_1).f1), .int .i64 ((ax l0 x10_1).f2), .slice A346_3 ((ax l0 x10_1).f3).length c346_3, .slice D ((ax l0 x10_1).f4).length I]] ?_; (with_reducible refine (cg.calls k1 ((ax l0 x10_1).f0) ((ax l0 x10_1).f1) ((ax l0 x10_1).f2) _ _ ((ax l0 x10_1).f3) _ _ ((ax l0 x10_1).f4) true _ ?Y1 ?Y2 ?Y3 ?Y4 A6.out).mono ?_); (case Y1 => exact Kd.C_below aD.out (Z28)); (case Y2 => exact aE.out); (case Y3 => exact Kd.C_below aF.out (Z28)); (case Y4 => exact aG.out); rintro e a7 ⟨rfl, hb⟩; refine ⟨_, rfl, ?_⟩; replace BK347 := aM (ai (g := aH) (o := .cells #[.string ((ax l0 x10_1).f0), .int .i64 ((ax l0 x10_1).f1), .int .i64 ((ax l0 x10_1).f2), .slice A346_3 ((ax l0 x10_1).f3).length c346_3, .slice D ((ax l0 x10_1).f4).length I] 82 (0, 0)) (Z10) hb); replace HB := aM (ae (Z28) hb); (try clear hb); refine bD5 BK347 ?_; intros) | (go_at_call 86; (with_reducible refine (gp.calls _ _ l0 ((ax l0 x10_1).f0) aL _ ?Y1 ?Y2 A9.out).mono ?_); (case Y1 => have h_ := Kd.C_below hr0.out HB.out; exact tC); (case Y2 => exact aJ.out); rintro e a8 ⟨rfl, hb⟩; replace BK347 := aM (kB BK347 zB hb); replace HB := aM (ae (Z28) hb); (try clear hb)))
       go_roundg k1
       case measure => have := HK1.out; omega
       case rel => exact ⟨(wrap64 (x10_1 + 1)), (Z3), H', ⟨Z85⟩, ⟨Z28⟩⟩
      rw [if_neg c10] at H
      have aY := bb c10
      have aZ := bg c10
      obtain rfl := oI H
      have s : 0 <= (x10_1 : Int) := dT (Z4)
      have y : x10_1 < (l0.length : Int) := dT (Z4)
      obtain ⟨aN, A346_3, c346_3, D, I, aC, J, M, O, U, X, Y, Z, aA, aB⟩ := em hr0.out x10_1 s y
      cases aC
      replace J := cB HB.out J
      replace M := cB HB.out M
      replace O := cB HB.out O
      replace U := cB HB.out U
      replace X := cB HB.out X
      have aD := aM Z
      have aE := aM Y
      clear Z Y
      have aF := aM aB
      have aG := aM aA
      clear aB aA
      replace s := bh s
      replace y := bh y
      go_wp2_with (first | ((with_reducible refine gD 4 ?_); refine bxF w 4 #[.string (⟨#[]⟩ : ByteArray), .int .i64 0, .int .i64 0, .slice none 0 0, .slice none 0 0] 82 (Z0) ?_; intro aH hg a9 BK347 aO GE347 HB hb; clear hb hg; refine bD5 BK347 ?_; intros) | ((with_reducible refine gC 85 ?_); refine gL 16 func85 #[.agg #[.string ((ax l0 x10_1).f0), .int .i64 ((ax l0 x10_1).f1), .int .i64 ((ax l0 x10_1).f2), .slice A346_3 ((ax l0 x10_1).f3).length c346_3, .slice D ((ax l0 x10_1).f4).length I]] ?_; (with_reducible refine (cg.calls k1 ((ax l0 x10_1).f0) ((ax l0 x10_1).f1) ((ax l0 x10_1).f2) _ _ ((ax l0 x10_1).f3) _ _ ((ax l0 x10_1).f4) true _ ?Y1 ?Y2 ?Y3 ?Y4 A6.out).mono ?_); (case Y1 => exact Kd.C_below aD.out (Z28)); (case Y2 => exact aE.out); (case Y3 => exact Kd.C_below aF.out (Z28)); (case Y4 => exact aG.out); rintro e bA ⟨rfl, hb⟩; refine ⟨_, rfl, ?_⟩; replace BK347 := aM (ai (g := aH) (o := .cells #[.string ((ax l0 x10_1).f0), .int .i64 ((ax l0 x10_1).f1), .int .i64 ((ax l0 x10_1).f2), .slice A346_3 ((ax l0 x10_1).f3).length c346_3, .slice D ((ax l0 x10_1).f4).length I] 82 (0, 0)) (Z10) hb); replace HB := aM (ae (Z28) hb); (try clear hb); refine bD5 BK347 ?_; intros) | (go_at_call 86; (with_reducible refine (gp.calls _ _ l0 ((ax l0 x10_1).f0) aL _ ?Y1 ?Y2 A9.out).mono ?_); (case Y1 => have h_ := Kd.C_below hr0.out HB.out; exact tC); (case Y2 => exact aJ.out); rintro e bB ⟨rfl, hb⟩; replace BK347 := aM (kB BK347 zB hb); replace HB := aM (ae (Z28) hb); (try clear hb)))
      go_ret
      exact ⟨Z1, Z28⟩
     rw [if_neg c8] at H
     have aW := bb c8
     have aX := bg c8
     obtain rfl := oI H
     have s : 0 <= (x10_1 : Int) := dT (Z4)
     have y : x10_1 < (l0.length : Int) := dT (Z4)
     obtain ⟨aN, A346_3, c346_3, D, I, aC, J, M, O, U, X, Y, Z, aA, aB⟩ := em hr0.out x10_1 s y
     cases aC
     replace J := cB HB.out J
     replace M := cB HB.out M
     replace O := cB HB.out O
     replace U := cB HB.out U
     replace X := cB HB.out X
     have aD := aM Z
     have aE := aM Y
     clear Z Y
     have aF := aM aB
     have aG := aM aA
     clear aB aA
     replace s := bh s
     replace y := bh y
     go_wp2_with (first | ((with_reducible refine gD 4 ?_); refine bxF w 4 #[.string (⟨#[]⟩ : ByteArray), .int .i64 0, .int .i64 0, .slice none 0 0, .slice none 0 0] 82 (Z0) ?_; intro aH hg bC BK347 aO GE347 HB hb; clear hb hg; refine bD5 BK347 ?_; intros) | ((with_reducible refine gC 85 ?_); refine gL 16 func85 #[.agg #[.string ((ax l0 x10_1).f0), .int .i64 ((ax l0 x10_1).f1), .int .i64 ((ax l0 x10_1).f2), .slice A346_3 ((ax l0 x10_1).f3).length c346_3, .slice D ((ax l0 x10_1).f4).length I]] ?_; (with_reducible refine (cg.calls k1 ((ax l0 x10_1).f0) ((ax l0 x10_1).f1) ((ax l0 x10_1).f2) _ _ ((ax l0 x10_1).f3) _ _ ((ax l0 x10_1).f4) true _ ?Y1 ?Y2 ?Y3 ?Y4 A6.out).mono ?_); (case Y1 => exact Kd.C_below aD.out (Z28)); (case Y2 => exact aE.out); (case Y3 => exact Kd.C_below aF.out (Z28)); (case Y4 => exact aG.out); rintro e bD ⟨rfl, hb⟩; refine ⟨_, rfl, ?_⟩; replace BK347 := aM (ai (g := aH) (o := .cells #[.string ((ax l0 x10_1).f0), .int .i64 ((ax l0 x10_1).f1), .int .i64 ((ax l0 x10_1).f2), .slice A346_3 ((ax l0 x10_1).f3).length c346_3, .slice D ((ax l0 x10_1).f4).length I] 82 (0, 0)) (Z10) hb); replace HB := aM (ae (Z28) hb); (try clear hb); refine bD5 BK347 ?_; intros))
     go_ret
     exact ⟨Z1, Z28⟩
    replace c7 := be c7
    subst c7
    replace H := ifF H
    obtain rfl := oI H
    have s : 0 <= (x10_1 : Int) := dT (Z4)
    have y : x10_1 < (l0.length : Int) := dT (Z4)
    obtain ⟨aN, A346_3, c346_3, D, I, aC, J, M, O, U, X, Y, Z, aA, aB⟩ := em hr0.out x10_1 s y
    cases aC
    replace J := cB HB.out J
    replace M := cB HB.out M
    replace O := cB HB.out O
    replace U := cB HB.out U
    replace X := cB HB.out X
    have aD := aM Z
    have aE := aM Y
    clear Z Y
    have aF := aM aB
    have aG := aM aA
    clear aB aA
    replace s := bh s
    replace y := bh y
    go_wp2_with (first | ((with_reducible refine gD 4 ?_); refine bxF w 4 #[.string (⟨#[]⟩ : ByteArray), .int .i64 0, .int .i64 0, .slice none 0 0, .slice none 0 0] 82 (Z0) ?_; intro aH hg bE BK347 aO GE347 HB hb; clear hb hg; refine bD5 BK347 ?_; intros) | ((with_reducible refine gC 85 ?_); refine gL 16 func85 #[.agg #[.string ((ax l0 x10_1).f0), .int .i64 ((ax l0 x10_1).f1), .int .i64 ((ax l0 x10_1).f2), .slice A346_3 ((ax l0 x10_1).f3).length c346_3, .slice D ((ax l0 x10_1).f4).length I]] ?_; (with_reducible refine (cg.calls k1 ((ax l0 x10_1).f0) ((ax l0 x10_1).f1) ((ax l0 x10_1).f2) _ _ ((ax l0 x10_1).f3) _ _ ((ax l0 x10_1).f4) false _ ?Y1 ?Y2 ?Y3 ?Y4 A6.out).mono ?_); (case Y1 => exact Kd.C_below aD.out (Z28)); (case Y2 => exact aE.out); (case Y3 => exact Kd.C_below aF.out (Z28)); (case Y4 => exact aG.out); rintro e bF ⟨rfl, hb⟩; refine ⟨_, rfl, ?_⟩; replace BK347 := aM (ai (g := aH) (o := .cells #[.string ((ax l0 x10_1).f0), .int .i64 ((ax l0 x10_1).f1), .int .i64 ((ax l0 x10_1).f2), .slice A346_3 ((ax l0 x10_1).f3).length c346_3, .slice D ((ax l0 x10_1).f4).length I] 82 (0, 0)) (Z10) hb); replace HB := aM (ae (Z28) hb); (try clear hb)))
    go_ret
    exact ⟨Z1, Z28⟩
   rw [if_neg c3] at H
   have aU := ba c3
   clear c3
   obtain rfl := oI H
   go_wp2
   go_ret
   exact ⟨Z1, Z0⟩
def eo.f (y : Int) (s : ByteArray) (D : Int) : Option (List ByteArray × Int × Int) := if s.size <= 65000 then some ((recs s.data.toList).1.map bs, ((recs s.data.toList).2.1 : Int), (recs s.data.toList).2.2) else none
theorem eo.calls (y : Int) (s : ByteArray) (D : Int) (I : List ByteArray) (J : Int) (M : Int) (w : World) (h : eo.f y s D = some (I, J, M)) :
  Calls prog 47 #[.agg #[.int .i64 y, .string s, .int .i64 D]] w fun e w' => ∃ v0_ : Value, e = .returned (.tuple #[v0_, .int .i64 J, .int .i64 M]) /\ Kd.R Kd.string 9 w' w.heap.size (fun _ => True) v0_ I /\ Below w.heap.size w w' := by
 unfold eo.f at h
 split at h
 ·rename_i hs
  simp only [Option.some.injEq, Prod.mk.injEq] at h
  obtain ⟨rfl, rfl, rfl⟩ := h
  have hi := i_recordsO y D s.data.toList w (by rw [← ee, bs_of]; exact hs)
  rw [bs_of] at hi
  refine hi.mono fun e w' ⟨v, he, ho, hb⟩ => ⟨v, he, ⟨fun _ _ => trivial, ((recs s.data.toList).1.map bs).map Value.string, ?_, ?_, fun j p hj => ?_⟩, hb⟩
  ·rw [List.length_map]; exact ho
  ·show _ = _ * 1; simp
  have hj2 : j < ((recs s.data.toList).1.map bs).length := (List.getElem?_eq_some_iff.1 hj).1
  have hp := (List.getElem?_eq_some_iff.1 hj).2
  show ((((recs s.data.toList).1.map bs).map Value.string).drop (j * 1)).take 1 = [.string p]
  rw [Nat.mul_one, List.drop_eq_getElem_cons (by simpa using hj2), List.take_succ_cons, List.take_zero, List.getElem_map, hp]
 cases h
def ez.l0 : Nat -> ByteArray -> Int -> Int -> Int -> Option (Int)
 | 0, _, _, _, _ => none
 | k + 1, x0, x3, x6, x7 => if x7 < x6 then (if 0 <= x7 then (if x7 < (x0.size : Int) then (ez.l0 k x0 (Go.bits .or .i64 (wrap64 (x3 * 256)) (wrap64 (bt x0 x7))) x6 (wrap64 (x7 + 1))) else (none)) else (none)) else (some x3)
def ez.f (k : Nat) (a0 : ByteArray) : Option (Int) := ez.l0 k a0 0 (a0.size : Int) 0
theorem ez.calls (k : Nat) (a0 : ByteArray) (r : Int) (w : World) (h : ez.f k a0 = some r) :
  Calls prog 87 #[.string a0] w fun e w' => e = .returned (.int .i64 r) /\ ew w w' := by
 have H := h
 clear h
 unfold ez.f at H
 have H' := aM H
 clear H
 go_enter func87, ntmps87
 go_wp2
 go_loopg [3, 7] k (fun kq I J w' => ∃ (y : Int) (s : Int), I = .int .i64 y /\ J = .int .i64 s /\ ap (ez.l0 kq a0 y (a0.size : Int) s = some r) /\ ap (kq <= k) /\ ew w w')
 case atStart => exact ⟨(0), (0), (Z3), (Z3), H', ⟨bj _⟩, Z12⟩
 case round =>
  clear H'
  obtain ⟨y, s, rfl, rfl, HA, HK1, ⟨m1, rfl⟩⟩ := hrel
  cases gk with
  | zero => exact absurd HA.out (by simp [ez.l0])
  | succ M =>
   have H := HA.out
   clear HA
   simp only [ez.l0] at H
   by_cases c2 : s < (a0.size : Int)
   ·rw [if_pos c2] at H
    have O := az c2
    clear c2
    obtain ⟨c3, H⟩ := ifS H
    have U := az c3
    clear c3
    obtain ⟨c4, H⟩ := ifS H
    have X := az c4
    clear c4
    have H' := aM H
    clear H
    have p5 : 0 <= (s : Int) := dT (Z4)
    have D : s < (a0.size : Int) := dT (Z4)
    have Y := bt_at a0 s
    replace p5 := bh p5
    replace D := bh D
    go_wp2
    go_roundg M
    case measure => have := HK1.out; omega
    case rel => exact ⟨(Go.bits .or .i64 (wrap64 (y * 256)) (wrap64 (bt a0 s))), (wrap64 (s + 1)), (Z3), (Z3), H', ⟨Z85⟩, Z12⟩
   rw [if_neg c2] at H
   have O := ba c2
   clear c2
   obtain rfl := oI H
   go_wp2
   go_ret
   exact ⟨Z3, Z12⟩
def bu (w0 W : World) (g : Nat) (f0 : ByteArray) (f1 : Bool) : Prop := W.heap[g]? = some (.cells #[.string f0, .bool f1] 143 (0, 0)) /\ w0.heap.size <= g
theorem bu.grown {w0 W : World} {g : Nat} {f0 : ByteArray} {f1 : Bool} {W1 : World} {row : Option Nat} (h : bu w0 W g f0 f1) (hw : W.grownBy W1 row) (hne : some g ≠ row) : bu w0 W1 g f0 f1 := by
 obtain ⟨hb, hg⟩ := h
 exact ⟨fm hb hw hne, hg⟩
theorem bu.kept {w0 W : World} {g : Nat} {f0 : ByteArray} {f1 : Bool} {W1 : World} {S : Nat -> Prop} (h : bu w0 W g f0 f1) (hk : Kept W W1 S) (hne : ¬ S g) : bu w0 W1 g f0 f1 := by
 obtain ⟨hb, hg⟩ := h
 exact ⟨blk_kept hb hk hne, hg⟩
theorem bu.below {w0 W : World} {g : Nat} {f0 : ByteArray} {f1 : Bool} {W1 : World} (h : bu w0 W g f0 f1) (hw : Below W.heap.size W W1) : bu w0 W1 g f0 f1 := h.grown (grown_of_below hw none) (fg)
theorem bu.alloc {w0 W : World} {g : Nat} {f0 : ByteArray} {f1 : Bool} (h : bu w0 W g f0 f1) (o : Obj) : bu w0 (W.alloc o) g f0 f1 := h.below (ab (bi _ _) o)
theorem bu.drewN {w0 W : World} {g : Nat} {f0 : ByteArray} {f1 : Bool} (h : bu w0 W g f0 f1) (m : Nat) : bu w0 (W.drewN m) g f0 f1 := h
theorem bu.drew {w0 W : World} {g : Nat} {f0 : ByteArray} {f1 : Bool} (h : bu w0 W g f0 f1) : bu w0 W.drew g f0 f1 := h
theorem bu.at_ {w0 W : World} {g : Nat} {f0 : ByteArray} {f1 : Bool} {w' : World} {m : Nat} (hq : W.drewN m = w') (h : bu w0 W g f0 f1) : bu w0 w' g f0 f1 := by subst hq; exact bu.drewN h m
theorem bu.apart {w0 W : World} {g : Nat} {f0 : ByteArray} {f1 : Bool} {α : Type} {d : Kd α} {e : Nat} {base : Nat} {ok : Nat -> Prop} {v : Value} {xs : List α} (h : bu w0 W g f0 f1) (ho : d.R e W base ok v xs) (ht : ∀ q, q ∈ e :: d.E -> q ≠ 143) : d.R e W base (fun k => ok k /\ k ≠ g) v xs := by
 obtain ⟨hb, hg⟩ := h
 exact Kd.R_types ho hb ht
theorem bu.own_ne {w0 W : World} {g : Nat} {f0 : ByteArray} {f1 : Bool} {α : Type} {d : Kd α} {e : Nat} {base : Nat} {ok : Nat -> Prop} {v : Value} {xs : List α} (h : bu w0 W g f0 f1) (ho : d.R e W base ok v xs) (ht : e ≠ 143) : some g ≠ v.ownBlock := by
 obtain ⟨hb, hg⟩ := h
 exact Kd.R_ne ho hb ht
theorem bu.lt {w0 W : World} {g : Nat} {f0 : ByteArray} {f1 : Bool} (h : bu w0 W g f0 f1) : g < W.heap.size := by
 obtain ⟨hb, hg⟩ := h
 exact en hb
theorem bu.ge {w0 W : World} {g : Nat} {f0 : ByteArray} {f1 : Bool} (h : bu w0 W g f0 f1) : w0.heap.size <= g := by
 obtain ⟨hb, hg⟩ := h
 exact hg
theorem bu.far {w0 W : World} {g : Nat} {f0 : ByteArray} {f1 : Bool} {p : Addr} (h : bu w0 W g f0 f1) (hne : g ≠ p.block) (u : Value) : bu w0 (W.setCell p u) g f0 f1 := by
 obtain ⟨hb, hg⟩ := h
 exact ⟨blk_far hb hne u, hg⟩
theorem cellS143_0 {W : World} {g : Nat} {f0 : ByteArray} {f1 : Bool} (h : W.heap[g]? = some (.cells #[.string f0, .bool f1] 143 (0, 0))) : W.cell? ⟨g, 0, none⟩ = some (.string f0) := (al h 0).trans rfl
theorem bu.set_0 {w0 W : World} {g : Nat} {f0 : ByteArray} {f1 : Bool} (h : bu w0 W g f0 f1) (x : ByteArray) : bu w0 (W.setCell ⟨g, 0, none⟩ (.string x)) g x f1 := by
 obtain ⟨hb, hg⟩ := h
 exact ⟨by simpa using blk_set hb 0 (.string x), hg⟩
theorem cellS143_1 {W : World} {g : Nat} {f0 : ByteArray} {f1 : Bool} (h : W.heap[g]? = some (.cells #[.string f0, .bool f1] 143 (0, 0))) : W.cell? ⟨g, 1, none⟩ = some (.bool f1) := (al h 1).trans rfl
theorem bu.set_1 {w0 W : World} {g : Nat} {f0 : ByteArray} {f1 : Bool} (h : bu w0 W g f0 f1) (x : Bool) : bu w0 (W.setCell ⟨g, 1, none⟩ (.bool x)) g f0 x := by
 obtain ⟨hb, hg⟩ := h
 exact ⟨by simpa using blk_set hb 1 (.bool x), hg⟩
theorem bu.new (w0 W : World) (f0 : ByteArray) (f1 : Bool) (hB : Below w0.heap.size w0 W) : bu w0 (W.alloc (.cells #[.string f0, .bool f1] 143)) W.heap.size f0 f1 := ⟨by simpa using heap_alloc_new W _, hB.size⟩
def fb.f (s : ByteArray) (y : Bool) (a1 : Int) : Option (ByteArray × ByteArray × Bool) := if a1 > (s.size : Int) then (some ((⟨#[]⟩ : ByteArray), s, true)) else (if 0 <= a1 then (if a1 <= (s.size : Int) then (some (s.extract 0 (a1 : Int).toNat, s.extract (a1 : Int).toNat s.size, y)) else (none)) else (none))
theorem fb.calls (g : Nat) (s : ByteArray) (I : Bool) (a1 : Int) (J : ByteArray) (M : ByteArray) (O : Bool) (w0 w : World) (hI : bu w0 w g s I) (hB : Below w0.heap.size w0 w) (h : fb.f s I a1 = some (J, M, O)) :
  Calls prog 122 #[.pointer (some ⟨g, 0, none⟩), .int .i64 a1] w fun e w' => e = .returned (.string J) /\ bu w0 w' g M O /\ Below w0.heap.size w0 w' /\ dd w w' g none := by
 have HI0 := aM hI
 have HK := aM (dd.refl w g none)
 have HL := aM hB.size
 clear hI
 have Z := aM hB.size
 have HB := aM hB
 clear hB
 have H := h
 clear h
 unfold fb.f at H
 by_cases c3 : a1 > (s.size : Int)
 ·rw [if_pos c3] at H
  have U : decide ((s.size : Int) < a1) = true := az c3
  clear c3
  simp only [Option.some.injEq, Prod.mk.injEq] at H
  obtain ⟨rfl, rfl, rfl⟩ := H
  obtain ⟨y, X⟩ := HI0.out
  have aA := cellS143_0 y
  have aB := cellS143_1 y
  have aC := am y 0
  have aD := am y 1
  clear y X
  go_enter func122, ntmps122
  go_wp2
  go_ret
  exact ⟨Z1, Z136, Z137, Z125⟩
 rw [if_neg c3] at H
 have U : decide ((s.size : Int) < a1) = false := ba c3
 clear c3
 obtain ⟨c5, H⟩ := ifS H
 have aE := bh c5
 have aF : decide (0 <= a1) = true := az c5
 clear c5
 obtain ⟨c6, H⟩ := ifS H
 have aG := bh c6
 have aH : decide (a1 <= (s.size : Int)) = true := az c6
 clear c6
 have aI := bh (dT (Z4) : 0 <= a1)
 have aJ := bh (dT (Z4) : a1 <= (s.size : Int))
 simp only [Option.some.injEq, Prod.mk.injEq] at H
 obtain ⟨rfl, rfl, rfl⟩ := H
 obtain ⟨D, Y⟩ := HI0.out
 have aK := cellS143_0 D
 have aL := cellS143_1 D
 have aN := am D 0
 have aO := am D 1
 clear D Y
 go_enter func122, ntmps122
 go_wp2
 go_ret
 exact ⟨Z1, Z136, Z137, Z125⟩
def db.f (k : Nat) (y : ByteArray) (D : Bool) (a1 : Int) : Option (Int × ByteArray × Bool) := (fb.f y D a1).bind fun s => ((ez.f k s.1).bind fun I => (some (I, s.2.1, s.2.2)))
theorem db.calls (k : Nat) (g : Nat) (s : ByteArray) (y : Bool) (a1 : Int) (I : Int) (J : ByteArray) (M : Bool) (w0 w : World) (hI : bu w0 w g s y) (hB : Below w0.heap.size w0 w) (h : db.f k s y a1 = some (I, J, M)) :
  Calls prog 121 #[.pointer (some ⟨g, 0, none⟩), .int .i64 a1] w fun e w' => e = .returned (.int .i64 I) /\ bu w0 w' g J M /\ Below w0.heap.size w0 w' /\ dd w w' g none := by
 have HI0 := aM hI
 have HK := aM (dd.refl w g none)
 have HL := aM hB.size
 clear hI
 have aA := aM hB.size
 have HB := aM hB
 clear hB
 have H := h
 clear h
 unfold db.f at H
 obtain ⟨⟨D, O, U⟩, X, H⟩ := cz H
 try dsimp only at H
 obtain ⟨Y, Z, H⟩ := cz H
 try dsimp only at H
 simp only [Option.some.injEq, Prod.mk.injEq] at H
 obtain ⟨rfl, rfl, rfl⟩ := H
 go_enter func121, ntmps121
 go_wp2_with (first | ((with_reducible refine gC 122 ?_); refine gL 7 func122 #[.pointer (some ⟨g, 0, none⟩), .int .i64 a1] ?_; (with_reducible refine (fb.calls g s y a1 D O U w0 _ ?Y1 ?Y2 X.out).mono ?_); (case Y1 => repeat (first | (with_reducible first | exact HI0.out | apply bu.alloc | apply bu.drewN | apply bu.drew | apply bu.set_0 | apply bu.set_1) | exact HI0.out)); (case Y2 => repeat (first | (with_reducible first | exact HB.out | apply ab | apply af | apply ac | refine aa ?_ (bu.ge HI0.out)) | exact HB.out)); rintro e w5 ⟨rfl, hi, hb, hk⟩; refine ⟨_, rfl, ?_⟩; replace HK := aM (dd.trans (Z125) hk (.inl rfl)); replace HB := aM (hb); replace HI0 := aM (hi); (try clear hb); (try clear hk); (try clear hi)) | ((with_reducible refine gC 87 ?_); refine gL 8 func87 #[.string D] ?_; (with_reducible refine (ez.calls k D Y _ Z.out).mono ?_); rintro e w' ⟨rfl, ⟨nd, rfl⟩⟩; refine ⟨_, rfl, ?_⟩))
 go_ret
 exact ⟨Z1, Z136, Z137, Z125⟩
mutual
def br.l0 : Nat -> Int -> Int -> ByteArray -> Bool -> Int -> Int -> Int -> Int -> ByteArray -> List (S84) -> Option (Int × Int × Int × Int × ByteArray × (List (S84)) × Bool)
 | 0, _, _, _, _, _, _, _, _, _, _ => none
 | k + 1, x6, x8, y, s, D, I, J, M, O, U => if x8 < x6 then (br.j1 k x6 x8 (!s) y s D I J M O U) else (br.j1 k x6 x8 false y s D I J M O U)
def br.j1 : Nat -> Int -> Int -> Bool -> ByteArray -> Bool -> Int -> Int -> Int -> Int -> ByteArray -> List (S84) -> Option (Int × Int × Int × Int × ByteArray × (List (S84)) × Bool)
 | 0, _, _, _, _, _, _, _, _, _, _, _ => none
 | k + 1, x6, x8, aB, Z, aA, y, D, I, J, M, s => if aB = true then ((db.f k Z aA 2).bind fun O => ((db.f k O.2.1 O.2.2 2).bind fun U => ((fb.f U.2.1 U.2.2 O.1).bind fun X => ((fb.f X.2.1 X.2.2 U.1).bind fun Y => (if s.length < 4398046511104 then (br.l0 k x6 (wrap64 (x8 + 1)) Y.2.1 Y.2.2 y D I J M (s ++ [(⟨X.1, Y.1⟩ : S84)])) else (none)))))) else (if aA = true then (some (y, D, I, J, M, s, false)) else (if Z.toList = ([] : List UInt8) then ((gj.f k y D I J M s).bind fun aC => (some (y, D, I, J, M, s, aC))) else (some (y, D, I, J, M, s, false))))
end
def br.f (k : Nat) (a0 : ByteArray) : Option (Int × Int × Int × Int × ByteArray × (List (S84)) × Bool) := if (a0.size : Int) > 20000 then (some (0, 0, 0, 0, (⟨#[]⟩ : ByteArray), ([] : List (S84)), false)) else ((db.f k a0 false 1).bind fun s => ((db.f k s.2.1 s.2.2 1).bind fun y => ((db.f k y.2.1 y.2.2 1).bind fun D => ((db.f k D.2.1 D.2.2 1).bind fun I => ((db.f k I.2.1 I.2.2 1).bind fun J => ((db.f k J.2.1 J.2.2 2).bind fun M => ((fb.f M.2.1 M.2.2 J.1).bind fun O => (br.l0 k I.1 0 O.2.1 O.2.2 s.1 M.1 y.1 D.1 O.1 ([] : List (S84))))))))))
def br.T12 : Bool × List (List Nat × List Nat) := (true, [([], []), ([0], [0]), ([], []), ([2], [2]), ([], []), ([4, 3], [4]), ([3, 5], [3, 5]), ([6], [6]), ([1, 7, 5], [1, 7]), ([0, 1, 2, 3, 4, 5, 6, 7, 8], []), ([9, 8, 8, 0, 1, 2, 3, 4, 5, 6, 7, 8], [8, 9])])
def br.B12 : List Nat := [0, 1, 0, 4, 0, 28, 60, 124, 255, 511, 1023]
theorem br.tab12 : rtab .any (opsOf Tryz.f90 12) = br.T12 := by kernel_rfl
theorem br.bits12 : waitsOk br.T12.2 br.B12 = true := by kernel_rfl
def br.T13 : Bool × List (List Nat × List Nat) := (true, [([], []), ([], []), ([1], [1]), ([2], [2]), ([3], [3]), ([4], [4]), ([5, 4], [4, 5]), ([6, 4], [4, 6]), ([4, 7], [4, 7]), ([8, 4], [8]), ([9], [9]), ([10, 9, 9], [9, 10]), ([9, 11], [9, 11]), ([0, 11, 0], [0]), ([12, 13, 0, 1, 2, 3, 4, 5, 6, 7, 8, 9, 10, 11, 12, 13], [12])])
def br.B13 : List Nat := [0, 0, 2, 6, 14, 30, 62, 126, 254, 510, 1022, 2046, 4094, 4095, 16383]
theorem br.tab13 : rtab .any (opsOf Tryz.f90 13) = br.T13 := by kernel_rfl
theorem br.bits13 : waitsOk br.T13.2 br.B13 = true := by kernel_rfl
theorem br.calls (k : Nat) (a0 : ByteArray) (r1 : Int) (r2 : Int) (r3 : Int) (r4 : Int) (r5 : ByteArray) (r6 : List (S84)) (r7 : Bool) (w : World) (h : br.f k a0 = some (r1, r2, r3, r4, r5, r6, r7)) :
  Calls prog 90 #[.string a0] w fun e w' => ∃ v5_ : Value, e = .returned (.tuple #[.agg #[.int .i64 r1, .int .i64 r2, .int .i64 r3, .int .i64 r4, .string r5, v5_], .bool r7]) /\ Kd.R k84 84 w' w.heap.size (fun _ => True) v5_ r6 /\ Below w.heap.size w w' := by
 have dK := underlying41
 have dL := underlying143
 have dM := underlying84
 have HB := aM (bi w.heap.size w)
 have H := h
 clear h
 unfold br.f at H
 by_cases c2 : (a0.size : Int) > 20000
 ·rw [if_pos c2] at H
  have a8 : decide (20000 < (a0.size : Int)) = true := az c2
  have a9 : decide (20000 < a0.size) = true := az (Z31)
  clear c2
  simp only [Option.some.injEq, Prod.mk.injEq] at H
  obtain ⟨rfl, rfl, rfl, rfl, rfl, rfl, rfl⟩ := H
  go_enter func90, ntmps90
  go_wp2_with (first | ((with_reducible refine gD 2 ?_); refine bxF w 2 #[.int .i64 0, .int .i64 0, .int .i64 0, .int .i64 0, .string (⟨#[]⟩ : ByteArray), .slice none 0 0] 41 (Z0) ?_; intro y hg w3 BK354 cH GE354 HB hb; clear hb hg; refine bD6 BK354 ?_; intros))
  refine bodyPost_ret (fk rfl _ _ y 41 #[.int .i64 0, .int .i64 0, .int .i64 0, .int .i64 0, .string (⟨#[]⟩ : ByteArray), .slice none 0 0] (0, 0) _ rfl zB underlying41 rfl (Z16)) rfl ?_
  exact ⟨_, Z1, Z105, Z88⟩
 rw [if_neg c2] at H
 have a8 : decide (20000 < (a0.size : Int)) = false := ba c2
 have a9 : decide (20000 < a0.size) = false := ba (Z31)
 clear c2
 obtain ⟨⟨t356, bP, bQ⟩, A5, H⟩ := cz H
 try dsimp only at H
 obtain ⟨⟨t359, bR, bS⟩, A6, H⟩ := cz H
 try dsimp only at H
 obtain ⟨⟨t362, a2, a3⟩, A7, H⟩ := cz H
 try dsimp only at H
 obtain ⟨⟨aR, bT, bU⟩, A8, H⟩ := cz H
 try dsimp only at H
 obtain ⟨⟨bA, bV, bW⟩, A9, H⟩ := cz H
 try dsimp only at H
 obtain ⟨⟨t372, bX, bY⟩, cN, H⟩ := cz H
 try dsimp only at H
 obtain ⟨⟨t375, M, O⟩, cO, H⟩ := cz H
 try dsimp only at H
 have H' := aM H
 clear H
 go_enter func90, ntmps90
 go_wp2_with (first | ((with_reducible refine gD 2 ?_); refine bxF w 2 #[.int .i64 0, .int .i64 0, .int .i64 0, .int .i64 0, .string (⟨#[]⟩ : ByteArray), .slice none 0 0] 41 (Z0) ?_; intro y hg dN BK354 cH GE354 HB hb; clear hb hg) | ((with_reducible refine gD 4 ?_); refine bxE 4 #[.string (⟨#[]⟩ : ByteArray), .bool false] 143 ?_; intro D hg dO hbox hb; have HI355 := aM ((show bu w _ D (⟨#[]⟩ : ByteArray) false from ⟨hbox, (szE w hg (Z88))⟩)); have dP := aM ((szE w hg (Z88))); have dQ := aM ((szE w hg (Z88))); replace HB := aM (ae (Z88) hb); have U := aM ((nL BK354 hg (Z38))); have NB355_354 := aM ((nG BK354 hg (Z38))); replace BK354 := aM (kB BK354 (Z38) hb); clear hb hbox hg; obtain ⟨aT, cP⟩ := HI355.out; have dR := cellS143_0 aT; have dS := cellS143_1 aT; have zq := am aT 0; have dU := am aT 1; clear aT cP) | ((with_reducible refine gC 121 ?_); refine gL 17 func121 #[.pointer (some ⟨D, 0, none⟩), .int .i64 1] ?_; (with_reducible refine (db.calls k D a0 false 1 t356 bP bQ w _ ?Y1 ?Y2 A5.out).mono ?_); (case Y1 => repeat (first | (with_reducible first | exact HI355.out | apply bu.alloc | apply bu.drewN | apply bu.drew | apply bu.set_0 | apply bu.set_1 | refine bu.far ?_ NB355_354.out _) | exact HI355.out)); (case Y2 => repeat (first | (with_reducible first | exact HB.out | apply ab | apply af | apply ac | refine aa ?_ (bu.ge HI355.out) | refine aa ?_ GE354.out) | exact HB.out)); rintro e dV ⟨rfl, hi, hb, hk⟩; refine ⟨_, rfl, ?_⟩; replace BK354 := aM (dd.blk hk (g' := y) (o := .cells #[.int .i64 0, .int .i64 0, .int .i64 0, .int .i64 0, .string (⟨#[]⟩ : ByteArray), .slice none 0 0] 41 (0, 0)) zB U.out (fg)); replace HB := aM (hb); replace HI355 := aM (hi); (try clear hb); (try clear hk); (try clear hi)) | ((with_reducible refine gC 121 ?_); refine gL 18 func121 #[.pointer (some ⟨D, 0, none⟩), .int .i64 1] ?_; (with_reducible refine (db.calls k D bP bQ 1 t359 bR bS w _ ?Y1 ?Y2 A6.out).mono ?_); (case Y1 => repeat (first | (with_reducible first | exact HI355.out | apply bu.alloc | apply bu.drewN | apply bu.drew | apply bu.set_0 | apply bu.set_1 | refine bu.far ?_ NB355_354.out _) | exact HI355.out)); (case Y2 => repeat (first | (with_reducible first | exact HB.out | apply ab | apply af | apply ac | refine aa ?_ (bu.ge HI355.out) | refine aa ?_ GE354.out) | exact HB.out)); rintro e dW ⟨rfl, hi, hb, hk⟩; refine ⟨_, rfl, ?_⟩; replace BK354 := aM (dd.blk hk (g' := y) (o := .cells #[.int .i64 0, .int .i64 0, .int .i64 0, .int .i64 0, .string (⟨#[]⟩ : ByteArray), .slice none 0 0] 41 (0, 0)) (Z38) U.out (fg)); replace HB := aM (hb); replace HI355 := aM (hi); (try clear hb); (try clear hk); (try clear hi)) | ((with_reducible refine gC 121 ?_); refine gL 19 func121 #[.pointer (some ⟨D, 0, none⟩), .int .i64 1] ?_; (with_reducible refine (db.calls k D bR bS 1 t362 a2 a3 w _ ?Y1 ?Y2 A7.out).mono ?_); (case Y1 => repeat (first | (with_reducible first | exact HI355.out | apply bu.alloc | apply bu.drewN | apply bu.drew | apply bu.set_0 | apply bu.set_1 | refine bu.far ?_ NB355_354.out _) | exact HI355.out)); (case Y2 => repeat (first | (with_reducible first | exact HB.out | apply ab | apply af | apply ac | refine aa ?_ (bu.ge HI355.out) | refine aa ?_ GE354.out) | exact HB.out)); rintro e dX ⟨rfl, hi, hb, hk⟩; refine ⟨_, rfl, ?_⟩; replace BK354 := aM (dd.blk hk (g' := y) (o := .cells #[.int .i64 0, .int .i64 0, .int .i64 0, .int .i64 0, .string (⟨#[]⟩ : ByteArray), .slice none 0 0] 41 (0, 0)) (Z38) U.out (fg)); replace HB := aM (hb); replace HI355 := aM (hi); (try clear hb); (try clear hk); (try clear hi)) | ((with_reducible refine gD 5 ?_); refine bxF w 5 #[.int .i64 0, .int .i64 0, .int .i64 0, .int .i64 0, .string (⟨#[]⟩ : ByteArray), .slice none 0 0] 41 (Z111) ?_; intro I hg dY BK365 dZ GE365 HB hb; have NB354_365 := aM ((nL BK354 hg (Z38))); have s := aM ((nG BK354 hg (Z38))); replace BK354 := aM (kB BK354 (Z38) hb); have NB355_365 := aM ((by rw [hg]; exact Nat.ne_of_lt (bu.lt (show bu w _ D a2 a3 from by repeat (first | (with_reducible first | exact HI355.out | apply bu.alloc | apply bu.drewN | apply bu.drew | apply bu.set_0 | apply bu.set_1 | refine bu.far ?_ NB355_354.out _) | exact HI355.out))) : D ≠ I)); have X := aM ((by rw [hg]; exact Nat.ne_of_gt (bu.lt (show bu w _ D a2 a3 from by repeat (first | (with_reducible first | exact HI355.out | apply bu.alloc | apply bu.drewN | apply bu.drew | apply bu.set_0 | apply bu.set_1 | refine bu.far ?_ NB355_354.out _) | exact HI355.out))) : I ≠ D)); replace HI355 := aM (bu.below (by repeat (first | (with_reducible first | exact HI355.out | apply bu.alloc | apply bu.drewN | apply bu.drew | apply bu.set_0 | apply bu.set_1 | refine bu.far ?_ NB355_354.out _) | exact HI355.out)) hb); clear hb hg; have d0 := s.out; have d1 := NB354_365.out; have d2 := X.out; have d3 := NB355_365.out; refine bD6 BK365 ?_; intros) | ((with_reducible refine gC 121 ?_); refine gL 21 func121 #[.pointer (some ⟨D, 0, none⟩), .int .i64 1] ?_; (with_reducible refine (db.calls k D a2 a3 1 aR bT bU w _ ?Y1 ?Y2 A8.out).mono ?_); (case Y1 => repeat (first | (with_reducible first | exact HI355.out | apply bu.alloc | apply bu.drewN | apply bu.drew | apply bu.set_0 | apply bu.set_1 | refine bu.far ?_ NB355_354.out _ | refine bu.far ?_ NB355_365.out _) | exact HI355.out)); (case Y2 => repeat (first | (with_reducible first | exact HB.out | apply ab | apply af | apply ac | refine aa ?_ (bu.ge HI355.out) | refine aa ?_ GE354.out | refine aa ?_ GE365.out) | exact HB.out)); rintro e d4 ⟨rfl, hi, hb, hk⟩; refine ⟨_, rfl, ?_⟩; replace BK354 := aM (dd.blk hk (g' := y) (o := .cells #[.int .i64 0, .int .i64 0, .int .i64 0, .int .i64 0, .string (⟨#[]⟩ : ByteArray), .slice none 0 0] 41 (0, 0)) zB U.out (fg)); replace BK365 := aM (dd.blk hk (g' := I) (o := .cells #[.int .i64 t356, .int .i64 0, .int .i64 t359, .int .i64 t362, .string (⟨#[]⟩ : ByteArray), .slice none 0 0] 41 (0, 0)) zB X.out (fg)); replace HB := aM (hb); replace HI355 := aM (hi); (try clear hb); (try clear hk); (try clear hi)) | ((with_reducible refine gC 121 ?_); refine gL 22 func121 #[.pointer (some ⟨D, 0, none⟩), .int .i64 1] ?_; (with_reducible refine (db.calls k D bT bU 1 bA bV bW w _ ?Y1 ?Y2 A9.out).mono ?_); (case Y1 => repeat (first | (with_reducible first | exact HI355.out | apply bu.alloc | apply bu.drewN | apply bu.drew | apply bu.set_0 | apply bu.set_1 | refine bu.far ?_ NB355_354.out _ | refine bu.far ?_ NB355_365.out _) | exact HI355.out)); (case Y2 => repeat (first | (with_reducible first | exact HB.out | apply ab | apply af | apply ac | refine aa ?_ (bu.ge HI355.out) | refine aa ?_ GE354.out | refine aa ?_ GE365.out) | exact HB.out)); rintro e d5 ⟨rfl, hi, hb, hk⟩; refine ⟨_, rfl, ?_⟩; replace BK354 := aM (dd.blk hk (g' := y) (o := .cells #[.int .i64 0, .int .i64 0, .int .i64 0, .int .i64 0, .string (⟨#[]⟩ : ByteArray), .slice none 0 0] 41 (0, 0)) (Z38) U.out (fg)); replace BK365 := aM (dd.blk hk (g' := I) (o := .cells #[.int .i64 t356, .int .i64 0, .int .i64 t359, .int .i64 t362, .string (⟨#[]⟩ : ByteArray), .slice none 0 0] 41 (0, 0)) (Z70) X.out (fg)); replace HB := aM (hb); replace HI355 := aM (hi); (try clear hb); (try clear hk); (try clear hi)) | ((with_reducible refine gC 121 ?_); refine gL 23 func121 #[.pointer (some ⟨D, 0, none⟩), .int .i64 2] ?_; (with_reducible refine (db.calls k D bV bW 2 t372 bX bY w _ ?Y1 ?Y2 cN.out).mono ?_); (case Y1 => repeat (first | (with_reducible first | exact HI355.out | apply bu.alloc | apply bu.drewN | apply bu.drew | apply bu.set_0 | apply bu.set_1 | refine bu.far ?_ NB355_354.out _ | refine bu.far ?_ NB355_365.out _) | exact HI355.out)); (case Y2 => repeat (first | (with_reducible first | exact HB.out | apply ab | apply af | apply ac | refine aa ?_ (bu.ge HI355.out) | refine aa ?_ GE354.out | refine aa ?_ GE365.out) | exact HB.out)); rintro e d6 ⟨rfl, hi, hb, hk⟩; refine ⟨_, rfl, ?_⟩; replace BK354 := aM (dd.blk hk (g' := y) (o := .cells #[.int .i64 0, .int .i64 0, .int .i64 0, .int .i64 0, .string (⟨#[]⟩ : ByteArray), .slice none 0 0] 41 (0, 0)) (Z38) U.out (fg)); replace BK365 := aM (dd.blk hk (g' := I) (o := .cells #[.int .i64 t356, .int .i64 0, .int .i64 t359, .int .i64 t362, .string (⟨#[]⟩ : ByteArray), .slice none 0 0] 41 (0, 0)) (Z70) X.out (fg)); replace HB := aM (hb); replace HI355 := aM (hi); (try clear hb); (try clear hk); (try clear hi); refine bD6 BK365 ?_; intros) | ((with_reducible refine gC 122 ?_); refine gL 26 func122 #[.pointer (some ⟨D, 0, none⟩), .int .i64 bA] ?_; (with_reducible refine (fb.calls D bX bY bA t375 M O w _ ?Y1 ?Y2 cO.out).mono ?_); (case Y1 => repeat (first | (with_reducible first | exact HI355.out | apply bu.alloc | apply bu.drewN | apply bu.drew | apply bu.set_0 | apply bu.set_1 | refine bu.far ?_ NB355_354.out _ | refine bu.far ?_ NB355_365.out _) | exact HI355.out)); (case Y2 => repeat (first | (with_reducible first | exact HB.out | apply ab | apply af | apply ac | refine aa ?_ (bu.ge HI355.out) | refine aa ?_ GE354.out | refine aa ?_ GE365.out) | exact HB.out)); rintro e eA ⟨rfl, hi, hb, hk⟩; refine ⟨_, rfl, ?_⟩; replace BK354 := aM (dd.blk hk (g' := y) (o := .cells #[.int .i64 0, .int .i64 0, .int .i64 0, .int .i64 0, .string (⟨#[]⟩ : ByteArray), .slice none 0 0] 41 (0, 0)) (Z93) U.out (fg)); replace BK365 := aM (dd.blk hk (g' := I) (o := .cells #[.int .i64 t356, .int .i64 t372, .int .i64 t359, .int .i64 t362, .string (⟨#[]⟩ : ByteArray), .slice none 0 0] 41 (0, 0)) zB X.out (fg)); replace HB := aM (hb); replace HI355 := aM (hi); (try clear hb); (try clear hk); (try clear hi); refine bD6 BK365 ?_; intros))
 go_loopg [8] k (fun kq v8 w' => ∃ (Y : Int) (J : List (S84)) (u366005 : Value) (M : ByteArray) (O : Bool), v8 = .int .i64 Y /\ ap (br.l0 kq aR Y M O t356 t372 t359 t362 t375 J = some (r1, r2, r3, r4, r5, r6, r7)) /\ ap (kq <= k) /\ ap (Kd.R k84 84 w' w.heap.size (fun _ => True) u366005 J) /\ ap (w'.heap[y]? = some (.cells #[.int .i64 0, .int .i64 0, .int .i64 0, .int .i64 0, .string (⟨#[]⟩ : ByteArray), (.slice none 0 0)] 41 (0, 0))) /\ ap (w'.heap[I]? = some (.cells #[.int .i64 t356, .int .i64 t372, .int .i64 t359, .int .i64 t362, .string t375, u366005] 41 (0, 0))) /\ ap (bu w w' D M O) /\ ap (Below w.heap.size w w'))
 case atStart => exact ⟨(0), (([] : List (S84))), (.slice none 0 0), (M), (O), (Z3), H', ⟨bj _⟩, ⟨Z105⟩, ⟨Z93⟩, ⟨zB⟩, ⟨Z59⟩, ⟨Z37⟩⟩
 case round =>
  clear H'
  (try clear c2); (try clear a8); (try clear a9)
  obtain ⟨Y, J, u366005, M, O, rfl, HA, HK1, HO_366005, BK354, BK365, HI355, HB⟩ := hrel
  cases gk with
  | zero => exact absurd HA.out (by simp [br.l0])
  | succ k1 =>
   have H := HA.out
   clear HA
   simp only [br.l0] at H
   have bB := aM H
   clear H
   go_upto_region 9 with (fail)
   go_cut [35] (fun cS wc => ∃ (kq : Nat) (a5 : Bool), cS = .bool a5 /\ ap (br.j1 kq aR Y a5 M O t356 t372 t359 t362 t375 J = some (r1, r2, r3, r4, r5, r6, r7)) /\ ap (kq <= k1) /\ ap (Kd.R k84 84 wc w.heap.size (fun _ => True) u366005 J) /\ ap (wc.heap[y]? = some (.cells #[.int .i64 0, .int .i64 0, .int .i64 0, .int .i64 0, .string (⟨#[]⟩ : ByteArray), (.slice none 0 0)] 41 (0, 0))) /\ ap (wc.heap[I]? = some (.cells #[.int .i64 t356, .int .i64 t372, .int .i64 t359, .int .i64 t362, .string t375, u366005] 41 (0, 0))) /\ ap (bu w wc D M O) /\ ap (Below w.heap.size w wc))
   case first =>
    have H := bB.out
    clear bB
    by_cases aA : Y < aR
    ·rw [if_pos aA] at H
     have aU := az aA
     clear aA
     (first | rw [aU] | rw [cT] | (simp only [i64_w, i32_w]; rw [aU]) | skip)
     have H' := aM H
     clear H
     obtain ⟨aV, cU⟩ := HI355.out
     have eB := cellS143_0 aV
     have eC := cellS143_1 aV
     have eD := am aV 0
     have eE := am aV 1
     clear aV cU
     go_wp2
     go_meet
     case rel => exact ⟨_, (!O), (Z3), H', ⟨Z170⟩, ⟨Z83⟩, ⟨Z38⟩, ⟨Z70⟩, ⟨Z59⟩, ⟨Z37⟩⟩
    rw [if_neg aA] at H
    have aU := ba aA
    clear aA
    (first | rw [aU] | rw [cT] | (simp only [i64_w, i32_w]; rw [aU]) | skip)
    have H' := aM H
    clear H
    go_wp2
    go_meet
    case rel => exact ⟨_, (false), (Z3), H', ⟨Z170⟩, ⟨Z83⟩, ⟨Z38⟩, ⟨Z70⟩, ⟨Z59⟩, ⟨Z37⟩⟩
   case rest =>
    clear bB
    (try clear c2); (try clear a8); (try clear a9)
    obtain ⟨kq, a5, rfl, HA, bZ, HO_366005, BK354, BK365, HI355, HB⟩ := hcut
    cases kq with
    | zero => exact absurd HA.out (by simp [br.j1])
    | succ aW =>
     have H := HA.out
     clear HA
     simp only [br.j1] at H
     by_cases a6 : a5 = true
     ·subst a6
      replace H := ifT H
      obtain ⟨⟨bC, bD, bE⟩, cV, H⟩ := cz H
      try dsimp only at H
      obtain ⟨⟨bF, bG, bH⟩, cX, H⟩ := cz H
      try dsimp only at H
      obtain ⟨⟨aX, bI, bJ⟩, cY, H⟩ := cz H
      try dsimp only at H
      obtain ⟨⟨aY, bK, bL⟩, cZ, H⟩ := cz H
      try dsimp only at H
      obtain ⟨b0, H⟩ := ifS H
      have dA := aM b0
      clear b0
      obtain ⟨bM, aZ⟩ : ∃ y_ : List (S84), y_ = (J ++ [(⟨aX, aY⟩ : S84)]) := ⟨_, rfl⟩
      replace H : (br.l0 aW aR (wrap64 (Y + 1)) bK bL t356 t372 t359 t362 t375 bM) = some (r1, r2, r3, r4, r5, r6, r7) := by first | (rw [aZ]; with_reducible exact H) | (have H2_ := (Option.bind_some _ _).symm.trans H; rw [aZ]; with_reducible exact H2_) | (have H2_ := (Option.bind_some _ _).symm.trans H; with_reducible exact H2_) | with_reducible exact H | (rw [aZ]; exact H) | exact H
      have dB := aM aZ
      clear aZ
      have H' := aM H
      clear H
      try go_wp2_with (first | ((with_reducible refine gC 121 ?_); refine gL 38 func121 #[.pointer (some ⟨D, 0, none⟩), .int .i64 2] ?_; (with_reducible refine (db.calls aW D M O 2 bC bD bE w _ ?Y1 ?Y2 cV.out).mono ?_); (case Y1 => repeat (first | (with_reducible first | exact HI355.out | apply bu.alloc | apply bu.drewN | apply bu.drew | apply bu.set_0 | apply bu.set_1 | refine bu.far ?_ NB355_354.out _ | refine bu.far ?_ NB355_365.out _) | exact HI355.out)); (case Y2 => repeat (first | (with_reducible first | exact HB.out | apply ab | apply af | apply ac | refine aa ?_ (bu.ge HI355.out) | refine aa ?_ GE354.out | refine aa ?_ GE365.out) | exact HB.out)); rintro e eF ⟨rfl, hi, hb, hk⟩; refine ⟨_, rfl, ?_⟩; replace HO_366005 := aM (Kd.R_mono (Kd.R_keep (bu.apart (show bu w _ D M O from by repeat (first | (with_reducible first | exact HI355.out | apply bu.alloc | apply bu.drewN | apply bu.drew | apply bu.set_0 | apply bu.set_1 | refine bu.far ?_ NB355_354.out _ | refine bu.far ?_ NB355_365.out _) | exact HI355.out)) (Z83) (Z68)) hk (fun _ h => h.2)) (fun _ h => h.1)); replace BK354 := aM (dd.blk hk (g' := y) (o := .cells #[.int .i64 0, .int .i64 0, .int .i64 0, .int .i64 0, .string (⟨#[]⟩ : ByteArray), .slice none 0 0] 41 (0, 0)) (Z38) U.out (fg)); replace BK365 := aM (dd.blk hk (g' := I) (o := .cells #[.int .i64 t356, .int .i64 t372, .int .i64 t359, .int .i64 t362, .string t375, u366005] 41 (0, 0)) (Z70) X.out (fg)); replace HB := aM (hb); replace HI355 := aM (hi); (try clear hb); (try clear hk); (try clear hi)) | ((with_reducible refine gC 121 ?_); refine gL 39 func121 #[.pointer (some ⟨D, 0, none⟩), .int .i64 2] ?_; (with_reducible refine (db.calls aW D bD bE 2 bF bG bH w _ ?Y1 ?Y2 cX.out).mono ?_); (case Y1 => repeat (first | (with_reducible first | exact HI355.out | apply bu.alloc | apply bu.drewN | apply bu.drew | apply bu.set_0 | apply bu.set_1 | refine bu.far ?_ NB355_354.out _ | refine bu.far ?_ NB355_365.out _) | exact HI355.out)); (case Y2 => repeat (first | (with_reducible first | exact HB.out | apply ab | apply af | apply ac | refine aa ?_ (bu.ge HI355.out) | refine aa ?_ GE354.out | refine aa ?_ GE365.out) | exact HB.out)); rintro e dC ⟨rfl, hi, hb, hk⟩; refine ⟨_, rfl, ?_⟩; replace HO_366005 := aM (Kd.R_mono (Kd.R_keep (bu.apart (show bu w _ D bD bE from by repeat (first | (with_reducible first | exact HI355.out | apply bu.alloc | apply bu.drewN | apply bu.drew | apply bu.set_0 | apply bu.set_1 | refine bu.far ?_ NB355_354.out _ | refine bu.far ?_ NB355_365.out _) | exact HI355.out)) (Z83) (Z68)) hk (fun _ h => h.2)) (fun _ h => h.1)); replace BK354 := aM (dd.blk hk (g' := y) (o := .cells #[.int .i64 0, .int .i64 0, .int .i64 0, .int .i64 0, .string (⟨#[]⟩ : ByteArray), .slice none 0 0] 41 (0, 0)) (Z38) U.out (fg)); replace BK365 := aM (dd.blk hk (g' := I) (o := .cells #[.int .i64 t356, .int .i64 t372, .int .i64 t359, .int .i64 t362, .string t375, u366005] 41 (0, 0)) (Z70) X.out (fg)); replace HB := aM (hb); replace HI355 := aM (hi); (try clear hb); (try clear hk); (try clear hi)))
      replace HO_366005 := aM (Kd.R_drew HO_366005.out)
      replace BK354 := aM (ag BK354.out)
      replace BK365 := aM (ag BK365.out)
      replace HI355 := aM (bu.drew HI355.out)
      replace HB := aM (ac HB.out)
      refine fe (n := 11) (S := fun w' => qc6 I (.int .i64 t356) (.int .i64 t372) (.int .i64 t359) (.int .i64 t362) (.string t375) (u366005) w') (ds := [10]) #[false, false, false, false, false, false, false, false, false, false, false] (Z16) rfl rfl (bc6 BK365.out) (fun hHeld => ?_); refine df br.tab12 br.bits12 (fun HT_ HW_ => ?_)
      generalize dC.drew = eG at HO_366005 BK354 BK365 HI355 HB hHeld ⊢
      refine pA 0 40 ?_
      refine pA 2 42 ?_
      refine pA 4 44 ?_
      refine tA 1 41 ?_
      refine oA 3 43 (fun K hK => ?_)
      refine fl func122 (Z16) rfl #[.pointer (some ⟨D, 0, none⟩), .int .i64 bC] (Z96) rfl rfl (Z2) ?_
      with_reducible refine (fb.calls D bG bH bC aX bI bJ w _ ?Y1 ?Y2 cY.out).mono ?_
      (case Y1 => repeat (first | (with_reducible first | exact HI355.out | apply bu.alloc | apply bu.drewN | apply bu.drew | apply bu.set_0 | apply bu.set_1 | refine bu.far ?_ NB355_354.out _ | refine bu.far ?_ NB355_365.out _) | exact HI355.out))
      (case Y2 => repeat (first | (with_reducible first | exact HB.out | apply ab | apply af | apply ac | refine aa ?_ (bu.ge HI355.out) | refine aa ?_ GE354.out | refine aa ?_ GE365.out) | exact HB.out))
      rintro e eH ⟨rfl, hi, hb, hk⟩
      refine ⟨_, rfl, ?_⟩
      replace HO_366005 := aM (Kd.R_mono (Kd.R_keep (bu.apart (show bu w _ D bG bH from by repeat (first | (with_reducible first | exact HI355.out | apply bu.alloc | apply bu.drewN | apply bu.drew | apply bu.set_0 | apply bu.set_1 | refine bu.far ?_ NB355_354.out _ | refine bu.far ?_ NB355_365.out _) | exact HI355.out)) (Z83) (Z68)) hk (fun _ h => h.2)) (fun _ h => h.1))
      replace BK354 := aM (dd.blk hk (g' := y) (o := .cells #[.int .i64 0, .int .i64 0, .int .i64 0, .int .i64 0, .string (⟨#[]⟩ : ByteArray), .slice none 0 0] 41 (0, 0)) (Z38) U.out (fg))
      replace BK365 := aM (dd.blk hk (g' := I) (o := .cells #[.int .i64 t356, .int .i64 t372, .int .i64 t359, .int .i64 t362, .string t375, u366005] 41 (0, 0)) (Z70) X.out (fg))
      replace HB := aM (hb)
      replace HI355 := aM (hi)
      (try clear hb); (try clear b1); (try clear hk); (try clear hi)
      refine hK.out _ _ (bc6 BK365.out) (fun hHeld => ?_)
      clear hK K
      refine nB 43 ?_
      refine oA 5 45 (fun K hK => ?_)
      refine fl func122 (Z16) rfl #[.pointer (some ⟨D, 0, none⟩), .int .i64 bF] (Z96) rfl rfl (Z2) ?_
      with_reducible refine (fb.calls D bI bJ bF aY bK bL w _ ?Y1 ?Y2 cZ.out).mono ?_
      (case Y1 => repeat (first | (with_reducible first | exact HI355.out | apply bu.alloc | apply bu.drewN | apply bu.drew | apply bu.set_0 | apply bu.set_1 | refine bu.far ?_ NB355_354.out _ | refine bu.far ?_ NB355_365.out _) | exact HI355.out))
      (case Y2 => repeat (first | (with_reducible first | exact HB.out | apply ab | apply af | apply ac | refine aa ?_ (bu.ge HI355.out) | refine aa ?_ GE354.out | refine aa ?_ GE365.out) | exact HB.out))
      rintro e eI ⟨rfl, hi, hb, hk⟩
      refine ⟨_, rfl, ?_⟩
      replace HO_366005 := aM (Kd.R_mono (Kd.R_keep (bu.apart (show bu w _ D bI bJ from by repeat (first | (with_reducible first | exact HI355.out | apply bu.alloc | apply bu.drewN | apply bu.drew | apply bu.set_0 | apply bu.set_1 | refine bu.far ?_ NB355_354.out _ | refine bu.far ?_ NB355_365.out _) | exact HI355.out)) (Z83) (Z68)) hk (fun _ h => h.2)) (fun _ h => h.1))
      replace BK354 := aM (dd.blk hk (g' := y) (o := .cells #[.int .i64 0, .int .i64 0, .int .i64 0, .int .i64 0, .string (⟨#[]⟩ : ByteArray), .slice none 0 0] 41 (0, 0)) (Z38) U.out (fg))
      replace BK365 := aM (dd.blk hk (g' := I) (o := .cells #[.int .i64 t356, .int .i64 t372, .int .i64 t359, .int .i64 t362, .string t375, u366005] 41 (0, 0)) (Z70) X.out (fg))
      replace HB := aM (hb)
      replace HI355 := aM (hi)
      (try clear hb); (try clear b1); (try clear hk); (try clear hi)
      refine hK.out _ _ (bc6 BK365.out) (fun hHeld => ?_)
      clear hK K
      refine nB 45 ?_
      refine pA 6 46 ?_
      refine oA 7 47 (fun K hK => ?_)
      refine value_ (w1 := ?_) (v := ?_) (Z96) rfl ?_ ?_
      rotate_left 2
      ·go_simp
       constructor
       ·rfl
       rfl
      refine hK.out _ _ (bc6 (ah BK365.out _)) (fun hHeld => ?_)
      clear hK K
      refine nB 47 ?_
      refine oA 8 48 (fun K hK => ?_)
      refine Kd.R_append_step k84 (w0 := w) w.heap.size (Z96) (.tmp 41) (.tmp 47) 39 84 (.agg #[(.string ⟨#[]⟩), (.string ⟨#[]⟩)]) 32 rfl underlying39 info84 rfl (Z68) (Z31) u366005 J (⟨aX, aY⟩ : S84) [.string aX, .string aY] (fun _ => True) (fun _ => False) rfl rfl ?aP (fun _ hk => hk.elim) ?aF ?aO ?aB ?aS ?aL ?_
      (case aP => exact k84_mkM _ _ _ (⟨aX, aY⟩ : S84))
      (case aB => exact (Z37))
      (case aF => exact (fun _ _ => trivial))
      (case aO => exact (Z83))
      (case aS => exact (ct (Z37)))
      (case aL => have := dA.out; omega)
      intro eJ dD ho hb hg hat
      rw [← dB.out] at ho
      have n0_ := aM (fm (g := y) (o := .cells #[.int .i64 0, .int .i64 0, .int .i64 0, .int .i64 0, .string (⟨#[]⟩ : ByteArray), .slice none 0 0] 41 (0, 0)) (Z38) hg (Kd.R_ne HO_366005.out BK354.out (Z68)))
      have n1_ := aM (fm (g := I) (o := .cells #[.int .i64 t356, .int .i64 t372, .int .i64 t359, .int .i64 t362, .string t375, u366005] 41 (0, 0)) (Z70) hg (Kd.R_ne HO_366005.out BK365.out (Z68)))
      have n2_ := aM (bu.grown (Z59) hg (bu.own_ne HI355.out HO_366005.out (Z68)))
      have n3_ := aM (hb)
      have n4_ := aM (ho)
      clear BK354
      clear BK365
      clear HI355
      clear HB
      clear HO_366005
      have BK354 := n0_
      have BK365 := n1_
      have HI355 := n2_
      have HB := n3_
      have b2 := n4_
      clear n0_ n1_ n2_ n3_ n4_
      clear ho hb hg hat
      obtain ⟨dE, dF, b6⟩ := Kd.R_slice b2.out
      (first | subst b6 | (injection b6 with f1_ f2_ f3_; have f4_ := f1_.symm; have f5_ := f3_.symm; clear f1_ f2_ f3_; subst f4_; subst f5_))
      refine hK.out _ _ (bc6 BK365.out) (fun hHeld => ?_)
      clear hK K
      refine nB 48 ?_
      refine pA 9 49 ?_
      refine last_ (i := 10) (N := none) #[true, true, true, true, true, true, true, true, true, true, true] rfl rfl (one_of HT_.out (Z16)) (Z68) (fun K hK => ?_)
      obtain ⟨-, -, -, -, -, eK⟩ := cl6 BK365.out
      have eL := am BK365.out 5
      have eM := NB354_365.out
      have eN := s.out
      refine skip_ (w1 := ?_) (Z96) rfl ?_ ?_
      rotate_left
      ·go_simp
       rfl
      refine hK.out _ _ ?_
      clear hK K
      refine gh (ei HT_.out (Z16)) ?_
      try go_wp2
      go_roundg aW
      case measure => have := HK1.out; have := bZ.out; omega
      case rel => exact ⟨(wrap64 (Y + 1)), (bM), (.slice dE bM.length dF), (bK), (bL), (Z3), H', ⟨by have := HK1.out; have := bZ.out; omega⟩, ⟨by (with_reducible repeat (first | apply Kd.R_alloc | apply Kd.R_drewN | apply Kd.R_drew)); exact Kd.R_mono (rF 5 (Kd.R_types b2.out BK365.out (Z68))) (fun _ hk => trivial)⟩, ⟨Z93⟩, ⟨zB⟩, ⟨Z59⟩, ⟨Z37⟩⟩
     replace a6 := be a6
     subst a6
     replace H := ifF H
     by_cases a7 : O = true
     ·subst a7
      replace H := ifT H
      simp only [Option.some.injEq, Prod.mk.injEq] at H
      obtain ⟨rfl, rfl, rfl, rfl, rfl, rfl, rfl⟩ := H
      try go_wp2
      replace HO_366005 := aM (Kd.R_drew HO_366005.out)
      replace BK354 := aM (ag BK354.out)
      replace BK365 := aM (ag BK365.out)
      replace HI355 := aM (bu.drew HI355.out)
      replace HB := aM (ac HB.out)
      obtain ⟨b7, b8, b9⟩ := Kd.R_slice HO_366005.out
      (first | subst b9 | (injection b9 with f1_ f2_ f3_; have f4_ := f1_.symm; have f5_ := f3_.symm; clear f1_ f2_ f3_; subst f4_; subst f5_))
      refine fe (n := 15) (S := fun w' => Qc6 I (.int .i64 t356) (.int .i64 t372) (.int .i64 t359) (.int .i64 t362) (.string t375) (.slice b7 J.length b8) (qc2 D (.string M) (.bool true) w') w') (ds := []) #[false, false, false, false, false, false, false, false, false, false, false, false, false, false, false] (Z16) rfl rfl (bk6 BK365.out (bc2 (aM HI355.out.1).out)) (fun hHeld => ?_); refine df br.tab13 br.bits13 (fun HT_ HW_ => ?_)
      generalize wc.drew = aC at HO_366005 BK354 BK365 HI355 HB hHeld ⊢
      refine pA 1 51 ?_
      refine tA 0 50 ?_
      refine tA 2 52 ?_
      refine pA 3 53 ?_
      refine pA 4 54 ?_
      refine pU 5 55 ?_
      refine pU 6 56 ?_
      refine pU 7 57 ?_
      refine pA 8 58 ?_
      refine pA 9 59 ?_
      refine pU 10 60 ?_
      refine pU 11 61 ?_
      refine pA 12 62 ?_
      refine one_ (i := 13) (N := none) #[true, true, true, true, true, true, true, true, true, true, true, true, true, true, false] rfl rfl (one_of HT_.out (Z16)) (Z68) (fun K hK => ?_)
      have eO := cl1 BK354.out
      have eP := am BK354.out 0
      have eQ := s.out
      have eR := NB354_365.out
      obtain ⟨-, eS⟩ := cl2 BK354.out
      have eT := am BK354.out 1
      have eU := s.out
      have eV := NB354_365.out
      obtain ⟨-, -, eW⟩ := cl3 BK354.out
      have eX := am BK354.out 2
      have eY := s.out
      have eZ := NB354_365.out
      obtain ⟨-, -, -, e0⟩ := cl4 BK354.out
      have e1 := am BK354.out 3
      have e2 := s.out
      have e3 := NB354_365.out
      obtain ⟨-, -, -, -, e4⟩ := cl5 BK354.out
      have e5 := am BK354.out 4
      have e6 := s.out
      have e7 := NB354_365.out
      obtain ⟨-, -, -, -, -, e8⟩ := cl6 BK354.out
      have e9 := am BK354.out 5
      have fA := s.out
      have fB := NB354_365.out
      refine skip_ (w1 := ?_) (Z96) rfl ?_ ?_
      rotate_left
      ·go_simp
       rfl
      refine hK.out _ _ ⟨(cF s ((cF s ((cF s ((cF s ((cF s ((cF s (hHeld.1)))))))))))), ⟨(cF s ((cF s ((cF s ((cF s ((cF s ((cF s (hHeld.2.1)))))))))))), ⟨(cF s ((cF s ((cF s ((cF s ((cF s ((cF s (hHeld.2.2.1)))))))))))), ⟨(cF s ((cF s ((cF s ((cF s ((cF s ((cF s (hHeld.2.2.2.1)))))))))))), ⟨(cF s ((cF s ((cF s ((cF s ((cF s ((cF s (hHeld.2.2.2.2.1)))))))))))), ⟨(cF s ((cF s ((cF s ((cF s ((cF s ((cF s (hHeld.2.2.2.2.2.1)))))))))))), ⟨(cF NB355_354 ((cF NB355_354 ((cF NB355_354 ((cF NB355_354 ((cF NB355_354 ((cF NB355_354 (hHeld.2.2.2.2.2.2.1)))))))))))), (cF NB355_354 ((cF NB355_354 ((cF NB355_354 ((cF NB355_354 ((cF NB355_354 ((cF NB355_354 (hHeld.2.2.2.2.2.2.2))))))))))))⟩⟩⟩⟩⟩⟩⟩ (fun hHeld => ?_)
      clear hK K
      refine pA 14 3 ?_
      refine gh (ei HT_.out (Z16)) ?_
      try go_wp2
      refine bodyPost_ret (fk rfl _ _ y 41 #[.int .i64 t356, .int .i64 t372, .int .i64 t359, .int .i64 t362, .string t375, .slice b7 J.length b8] (0, 0) _ rfl (Z14) underlying41 rfl (Z16)) rfl ?_
      exact ⟨_, Z1, by (with_reducible repeat (first | apply Kd.R_alloc | apply Kd.R_drewN | apply Kd.R_drew)); exact Kd.R_mono (rF 5 (rF 4 (rF 3 (rF 2 (rF 1 (rF 0 (Kd.R_types HO_366005.out BK354.out (Z68)))))))) (fun _ hk => trivial), Z37⟩
     replace a7 := be a7
     subst a7
     replace H := ifF H
     by_cases Z : M.toList = ([] : List UInt8)
     ·rw [if_pos Z] at H
      have dG := bf Z
      have dH := bc Z
      clear Z
      obtain ⟨dI, dJ, H⟩ := cz H
      try dsimp only at H
      simp only [Option.some.injEq, Prod.mk.injEq] at H
      obtain ⟨rfl, rfl, rfl, rfl, rfl, rfl, rfl⟩ := H
      try go_wp2
      replace HO_366005 := aM (Kd.R_drew HO_366005.out)
      replace BK354 := aM (ag BK354.out)
      replace BK365 := aM (ag BK365.out)
      replace HI355 := aM (bu.drew HI355.out)
      replace HB := aM (ac HB.out)
      obtain ⟨bN, bO, cA⟩ := Kd.R_slice HO_366005.out
      (first | subst cA | (injection cA with f1_ f2_ f3_; have f4_ := f1_.symm; have f5_ := f3_.symm; clear f1_ f2_ f3_; subst f4_; subst f5_))
      refine fe (n := 15) (S := fun w' => Qc6 I (.int .i64 t356) (.int .i64 t372) (.int .i64 t359) (.int .i64 t362) (.string t375) (.slice bN J.length bO) (qc2 D (.string M) (.bool false) w') w') (ds := []) #[false, false, false, false, false, false, false, false, false, false, false, false, false, false, false] (Z16) rfl rfl (bk6 BK365.out (bc2 (aM HI355.out.1).out)) (fun hHeld => ?_); refine df br.tab13 br.bits13 (fun HT_ HW_ => ?_)
      generalize wc.drew = fC at HO_366005 BK354 BK365 HI355 HB hHeld ⊢
      refine pA 1 51 ?_
      refine tA 0 50 ?_
      refine tA 2 52 ?_
      refine pA 3 53 ?_
      refine pA 4 54 ?_
      refine pA 5 55 ?_
      refine tA 6 56 ?_
      refine pA 7 57 ?_
      refine pA 8 58 ?_
      refine pA 9 59 ?_
      refine tA 10 60 ?_
      refine oA 11 61 (fun K hK => ?_)
      refine fl func25 (Z16) rfl #[.agg #[.int .i64 t356, .int .i64 t372, .int .i64 t359, .int .i64 t362, .string t375, .slice bN J.length bO]] (Z96) rfl rfl (Z2) ?_
      with_reducible refine (gj.calls aW t356 t372 t359 t362 t375 _ _ J dI _ ?Y1 ?Y2 dJ.out).mono ?_
      (case Y1 => have h_ := (Kd.R_reads' HO_366005.out).2.2; exact tC)
      (case Y2 => exact (Kd.R_reads' HO_366005.out).2.1)
      rintro e aD ⟨rfl, hb⟩
      refine ⟨_, rfl, ?_⟩
      replace HO_366005 := aM (Kd.R_below (Z83) hb)
      replace BK354 := aM (kB BK354 (Z38) hb)
      replace BK365 := aM (kB BK365 (Z70) hb)
      replace HB := aM (ae (Z37) hb)
      replace HI355 := aM (bu.below (Z59) hb)
      (try clear hb); (try clear b1); (try clear hk); (try clear hi)
      refine hK.out _ _ (bk6 BK365.out (bc2 (aM HI355.out.1).out)) (fun hHeld => ?_)
      clear hK K
      refine nB 61 ?_
      refine pA 12 62 ?_
      refine one_ (i := 13) (N := none) #[true, true, true, true, true, true, true, true, true, true, true, true, true, true, false] rfl rfl (one_of HT_.out (Z16)) (Z68) (fun K hK => ?_)
      have fD := cl1 BK354.out
      have fE := am BK354.out 0
      have fF := s.out
      have fG := NB354_365.out
      obtain ⟨-, fH⟩ := cl2 BK354.out
      have fJ := am BK354.out 1
      have fK := s.out
      have fL := NB354_365.out
      obtain ⟨-, -, fM⟩ := cl3 BK354.out
      have fN := am BK354.out 2
      have fO := s.out
      have fP := NB354_365.out
      obtain ⟨-, -, -, fQ⟩ := cl4 BK354.out
      have fR := am BK354.out 3
      have fS := s.out
      have fU := NB354_365.out
      obtain ⟨-, -, -, -, fV⟩ := cl5 BK354.out
      have fW := am BK354.out 4
      have fX := s.out
      have fY := NB354_365.out
      obtain ⟨-, -, -, -, -, fZ⟩ := cl6 BK354.out
      have f4 := am BK354.out 5
      have f5 := s.out
      have f6 := NB354_365.out
      refine skip_ (w1 := ?_) (Z96) rfl ?_ ?_
      rotate_left
      ·go_simp
       rfl
      refine hK.out _ _ ⟨(cF s ((cF s ((cF s ((cF s ((cF s ((cF s (hHeld.1)))))))))))), ⟨(cF s ((cF s ((cF s ((cF s ((cF s ((cF s (hHeld.2.1)))))))))))), ⟨(cF s ((cF s ((cF s ((cF s ((cF s ((cF s (hHeld.2.2.1)))))))))))), ⟨(cF s ((cF s ((cF s ((cF s ((cF s ((cF s (hHeld.2.2.2.1)))))))))))), ⟨(cF s ((cF s ((cF s ((cF s ((cF s ((cF s (hHeld.2.2.2.2.1)))))))))))), ⟨(cF s ((cF s ((cF s ((cF s ((cF s ((cF s (hHeld.2.2.2.2.2.1)))))))))))), ⟨(cF NB355_354 ((cF NB355_354 ((cF NB355_354 ((cF NB355_354 ((cF NB355_354 ((cF NB355_354 (hHeld.2.2.2.2.2.2.1)))))))))))), (cF NB355_354 ((cF NB355_354 ((cF NB355_354 ((cF NB355_354 ((cF NB355_354 ((cF NB355_354 (hHeld.2.2.2.2.2.2.2))))))))))))⟩⟩⟩⟩⟩⟩⟩ (fun hHeld => ?_)
      clear hK K
      refine pA 14 3 ?_
      refine gh (ei HT_.out (Z16)) ?_
      try go_wp2
      refine bodyPost_ret (fk rfl _ _ y 41 #[.int .i64 t356, .int .i64 t372, .int .i64 t359, .int .i64 t362, .string t375, .slice bN J.length bO] (0, 0) _ rfl (Z14) underlying41 rfl (Z16)) rfl ?_
      exact ⟨_, Z1, by (with_reducible repeat (first | apply Kd.R_alloc | apply Kd.R_drewN | apply Kd.R_drew)); exact Kd.R_mono (rF 5 (rF 4 (rF 3 (rF 2 (rF 1 (rF 0 (Kd.R_types HO_366005.out BK354.out (Z68)))))))) (fun _ hk => trivial), Z37⟩
     rw [if_neg Z] at H
     have dG := bb Z
     have dH := bg Z
     simp only [Option.some.injEq, Prod.mk.injEq] at H
     obtain ⟨rfl, rfl, rfl, rfl, rfl, rfl, rfl⟩ := H
     try go_wp2
     replace HO_366005 := aM (Kd.R_drew HO_366005.out)
     replace BK354 := aM (ag BK354.out)
     replace BK365 := aM (ag BK365.out)
     replace HI355 := aM (bu.drew HI355.out)
     replace HB := aM (ac HB.out)
     obtain ⟨cC, cD, cG⟩ := Kd.R_slice HO_366005.out
     (first | subst cG | (injection cG with f1_ f2_ f3_; have f4_ := f1_.symm; have f5_ := f3_.symm; clear f1_ f2_ f3_; subst f4_; subst f5_))
     refine fe (n := 15) (S := fun w' => Qc6 I (.int .i64 t356) (.int .i64 t372) (.int .i64 t359) (.int .i64 t362) (.string t375) (.slice cC J.length cD) (qc2 D (.string M) (.bool false) w') w') (ds := []) #[false, false, false, false, false, false, false, false, false, false, false, false, false, false, false] (Z16) rfl rfl (bk6 BK365.out (bc2 (aM HI355.out.1).out)) (fun hHeld => ?_); refine df br.tab13 br.bits13 (fun HT_ HW_ => ?_)
     generalize wc.drew = aE at HO_366005 BK354 BK365 HI355 HB hHeld ⊢
     refine pA 1 51 ?_
     refine tA 0 50 ?_
     refine tA 2 52 ?_
     refine pA 3 53 ?_
     refine pA 4 54 ?_
     refine pA 5 55 ?_
     refine tA 6 56 ?_
     refine pA 7 57 ?_
     refine pA 8 58 ?_
     refine pA 9 59 ?_
     refine pU 10 60 ?_
     refine pU 11 61 ?_
     refine pA 12 62 ?_
     refine one_ (i := 13) (N := none) #[true, true, true, true, true, true, true, true, true, true, true, true, true, true, false] rfl rfl (one_of HT_.out (Z16)) (Z68) (fun K hK => ?_)
     have f7 := cl1 BK354.out
     have f8 := am BK354.out 0
     have f9 := s.out
     have gA := NB354_365.out
     obtain ⟨-, gB⟩ := cl2 BK354.out
     have gG := am BK354.out 1
     have gI := s.out
     have gJ := NB354_365.out
     obtain ⟨-, -, gK⟩ := cl3 BK354.out
     have gP := am BK354.out 2
     have gQ := s.out
     have gR := NB354_365.out
     obtain ⟨-, -, -, gU⟩ := cl4 BK354.out
     have gV := am BK354.out 3
     have gW := s.out
     have gX := NB354_365.out
     obtain ⟨-, -, -, -, gY⟩ := cl5 BK354.out
     have gZ := am BK354.out 4
     have g0 := s.out
     have g1 := NB354_365.out
     obtain ⟨-, -, -, -, -, g3⟩ := cl6 BK354.out
     have g4 := am BK354.out 5
     have g5 := s.out
     have g6 := NB354_365.out
     refine skip_ (w1 := ?_) (Z96) rfl ?_ ?_
     rotate_left
     ·go_simp
      rfl
     refine hK.out _ _ ⟨(cF s ((cF s ((cF s ((cF s ((cF s ((cF s (hHeld.1)))))))))))), ⟨(cF s ((cF s ((cF s ((cF s ((cF s ((cF s (hHeld.2.1)))))))))))), ⟨(cF s ((cF s ((cF s ((cF s ((cF s ((cF s (hHeld.2.2.1)))))))))))), ⟨(cF s ((cF s ((cF s ((cF s ((cF s ((cF s (hHeld.2.2.2.1)))))))))))), ⟨(cF s ((cF s ((cF s ((cF s ((cF s ((cF s (hHeld.2.2.2.2.1)))))))))))), ⟨(cF s ((cF s ((cF s ((cF s ((cF s ((cF s (hHeld.2.2.2.2.2.1)))))))))))), ⟨(cF NB355_354 ((cF NB355_354 ((cF NB355_354 ((cF NB355_354 ((cF NB355_354 ((cF NB355_354 (hHeld.2.2.2.2.2.2.1)))))))))))), (cF NB355_354 ((cF NB355_354 ((cF NB355_354 ((cF NB355_354 ((cF NB355_354 ((cF NB355_354 (hHeld.2.2.2.2.2.2.2))))))))))))⟩⟩⟩⟩⟩⟩⟩ (fun hHeld => ?_)
     clear hK K
     refine pA 14 3 ?_
     refine gh (ei HT_.out (Z16)) ?_
     try go_wp2
     refine bodyPost_ret (fk rfl _ _ y 41 #[.int .i64 t356, .int .i64 t372, .int .i64 t359, .int .i64 t362, .string t375, .slice cC J.length cD] (0, 0) _ rfl (Z14) underlying41 rfl (Z16)) rfl ?_
     exact ⟨_, Z1, by (with_reducible repeat (first | apply Kd.R_alloc | apply Kd.R_drewN | apply Kd.R_drew)); exact Kd.R_mono (rF 5 (rF 4 (rF 3 (rF 2 (rF 1 (rF 0 (Kd.R_types HO_366005.out BK354.out (Z68)))))))) (fun _ hk => trivial), Z37⟩
end Go.Proofs.YtifkmkiljpeaaadGreat.PFnExactCommit
