/- Contracts of functions that a statement reaches (wip/x/xprint.py, short.py, compact.py). -/
import Derived.Test.YtbikfhccfenkdaaPFnExactEngineOKx0
import Derived.Test.YtbikfhccfenkdaaPFnExactEngineOKx7
import Derived.Test.YtbikfhccfenkdaaPFnExactEngineOKx9
import Derived.Test.YtbikfhccfenkdaaPFnExactEngineOKx12
import Derived.Test.YtbikfhccfenkdaaPFnExactEngineOKx13
namespace Go.Proofs.Ytbikfhccfenkdaa.PFnExactEngineOK
open Go.RowKit Go.Proofs.YtbikfhccfenkdaaW.PrintWords Go.Proofs.YtbikfhccfenkdaaW.PrintLast Go.Proofs.YtbikfhccfenkdaaW.PrintMore Go.Proofs.Ytbikfhccfenkdaa.Mac
attribute [local go_sem] max2_int min2_int max_two min_two max_three min_three max_four min_four
set_option linter.unusedVariables false
set_option linter.unusedSimpArgs false

-- EXTERNAL: function 14 (spec_l10Replay)
abbrev SmallB (xs : List S59) : Prop := xs.length ≤ 1048576 ∧ ∀ b ∈ xs, b.f3.length ≤ 1048576 ∧ b.f4.length ≤ 1048576
/-- The mutations of records, done to boxes one by one; 'none' within where one cannot be. -/
def replF (rd : ByteArray → Option (Int × Int × Int × Int × ByteArray × (List S86) × Bool)) : List ByteArray → List S59 → Option (Option (List S59))
 | [], xs => some (some xs)
 | r :: rs, xs => (rd r).bind fun m => if m.2.2.2.2.2.2 = true then
   (if SmallB xs ∧ m.2.2.2.2.2.1.length ≤ 1048576 then
    (if (mutL xs m.1 m.2.1 m.2.2.1 m.2.2.2.1 m.2.2.2.2.1 m.2.2.2.2.2.1).2 = 0 then replF rd rs (mutL xs m.1 m.2.1 m.2.2.1 m.2.2.2.1 m.2.2.2.2.1 m.2.2.2.2.2.1).1 else some none) else none) else some none
theorem replF_mono {rd rd' : ByteArray → Option (Int × Int × Int × Int × ByteArray × (List S86) × Bool)} (hr : ∀ r, LeO (rd r) (rd' r)) : ∀ rs xs, LeO (replF rd rs xs) (replF rd' rs xs)
 | [], _ => fun _ h => h
 | r :: rs, xs => fun o h => by
  unfold replF at h ⊢
  obtain ⟨m, hm, h⟩ := Option.bind_eq_some_iff.mp h
  rw [hr r m hm]
  refine (Option.bind_some _ _).trans ?_
  revert h
  split
  ·split
   ·split
    ·intro h; exact replF_mono hr rs _ o h
    ·exact fun h => h
   ·exact fun h => h
  ·exact fun h => h
theorem replF_cons {rd : ByteArray → Option (Int × Int × Int × Int × ByteArray × (List S86) × Bool)} {rs : List ByteArray} {xs : List S59} {o : Option (List S59)} {k : Nat} (h : replF rd (rs.drop k) xs = some o) (hk : k < rs.length) :
  ∃ m1 m2 m3 m4 m5 m6 m7, rd (rdOf ByteArray.empty rs (k : Int)) = some (m1, m2, m3, m4, m5, m6, m7) ∧
   (m7 = false ∧ o = none ∨ m7 = true ∧ SmallB xs ∧ m6.length ≤ 1048576 ∧ ((mutL xs m1 m2 m3 m4 m5 m6).2 ≠ 0 ∧ o = none ∨ (mutL xs m1 m2 m3 m4 m5 m6).2 = 0 ∧ replF rd (rs.drop (k + 1)) (mutL xs m1 m2 m3 m4 m5 m6).1 = some o)) := by
 rw [List.drop_eq_getElem_cons hk] at h
 unfold replF at h
 obtain ⟨⟨m1, m2, m3, m4, m5, m6, m7⟩, hm, h⟩ := Option.bind_eq_some_iff.mp h
 refine ⟨m1, m2, m3, m4, m5, m6, m7, by rw [rdOf_nat _ rs k hk]; exact hm, ?_⟩
 dsimp only at h
 by_cases h7 : m7 = true
 ·rw [if_pos h7] at h
  by_cases hs : SmallB xs ∧ m6.length ≤ 1048576
  ·rw [if_pos hs] at h
   by_cases h0 : (mutL xs m1 m2 m3 m4 m5 m6).2 = 0
   ·rw [if_pos h0] at h; exact .inr ⟨h7, hs.1, hs.2, .inr ⟨h0, h⟩⟩
   ·rw [if_neg h0] at h; injection h with h; exact .inr ⟨h7, hs.1, hs.2, .inl ⟨h0, h.symm⟩⟩
  ·rw [if_neg hs] at h; cases h
 ·rw [if_neg h7] at h; injection h with h; exact .inl ⟨by simpa using h7, h.symm⟩
theorem replF_nil {rd : ByteArray → Option (Int × Int × Int × Int × ByteArray × (List S86) × Bool)} {xs : List S59} {o : Option (List S59)} (h : replF rd [] xs = some o) : o = some xs := by
 unfold replF at h; injection h with h; exact h.symm
theorem S_empty_at {α : Type} (d : Kd α) {W : World} {base e g : Nat} {ok : Nat → Prop} (hb : W.heap[g]? = some (.cells #[] e (0, 0))) (hbase : base ≤ g) (hok : ok g) : Kd.S d e W base ok (.slice (some ⟨g, 0, none⟩) 0 0) [] :=
 ⟨fun _ => 0, R_empty_at _ hb hbase hok⟩
/-- What a replay leaves: boxes in memory of their own, how many records, a code. -/
def ReplRet (w : World) (r1 : List S59) (r2 r3 : Int) (e : Ending) (w' : World) : Prop :=
 ∃ v0_ : Value, e = .returned (.tuple #[v0_, .int .i64 r2, .int .i64 r3]) ∧ Kd.S k59 59 w' w.heap.size (fun _ => True) v0_ r1 ∧ Below w.heap.size w w'
def spec_l10Replay.f (k : Nat) (a0 : ByteArray) : Option ((List S59) × Int × Int) :=
 (spec_l08Records.f k a0).bind fun q => if q.1.length ≤ 1048576 then (replF (spec_l09Read.f k) q.1 []).bind fun o => (match o with
  | none => some ([], 0, 3)
  | some xs => if q.2.2 = 8 then some ([], 0, 8) else some (xs, (q.1.length : Int), 0)) else none
theorem spec_l10Replay.mono : ∀ a0 k, LeO (spec_l10Replay.f k a0) (spec_l10Replay.f (k + 1) a0) := by
 intro a0 k r h
 unfold spec_l10Replay.f at h ⊢
 obtain ⟨q, hq, h⟩ := Option.bind_eq_some_iff.mp h
 rw [spec_l08Records.mono a0 k q hq]
 refine (Option.bind_some _ _).trans ?_
 revert h
 split
 ·intro h
  obtain ⟨o, ho, h⟩ := Option.bind_eq_some_iff.mp h
  rw [replF_mono (fun r => spec_l09Read.mono r k) _ _ o ho]
  exact (Option.bind_some _ _).trans h
 ·exact fun h => h
set_option maxHeartbeats 16000000 in
set_option maxRecDepth 100000 in
theorem s_replay (k : Nat) (a0 : ByteArray) (r1 : List S59) (r2 r3 : Int) (w : World) (h : spec_l10Replay.f k a0 = some (r1, r2, r3)) :
  Calls Try.prog 14 #[.string a0] w (ReplRet w r1 r2 r3) := by
 unfold spec_l10Replay.f at h
 obtain ⟨⟨rs, q2, q3⟩, hq, h⟩ := Option.bind_eq_some_iff.mp h
 dsimp only at h
 have hrl : rs.length ≤ 1048576 := by
  by_cases c : rs.length ≤ 1048576
  ·exact c
  ·rw [if_neg c] at h; cases h
 rw [if_pos hrl] at h
 obtain ⟨o, ho, h⟩ := Option.bind_eq_some_iff.mp h
 have HQ := Aside0.mk hq
 have HO := Aside0.mk ho
 have HH := Aside0.mk h
 clear h hq ho
 go_enter Try.func14, Try.ntmps14
 go_wp2_with fail
 refine (spec_l08Records.calls k a0 rs q2 q3 _ HQ.out).mono ?_
 rintro e w1 ⟨v, rfl, hR, hb⟩
 obtain ⟨A, c, rfl, hc, hC⟩ := Kd.R_reads hR
 have HC := Aside0.mk hC
 have HB := Aside0.mk hb
 clear hC hb hR
 go_wp2_with fail
 go_loopg [8, 9] rs.length (fun gg s8 s9 wr => ∃ (kk : Nat) (xs : List S59), kk ≤ rs.length ∧ rs.length - kk ≤ gg ∧ s9 = .int .i64 kk ∧ Aside0 (Kd.S k59 59 wr w1.heap.size (fun _ => True) s8 xs) ∧ Aside0 (Below w1.heap.size w1 wr) ∧ Aside0 (replF (spec_l09Read.f k) (rs.drop kk) xs = some o))
 case atStart => exact ⟨0, [], Nat.zero_le _, Z43, rfl, ⟨S_empty_at _ (blk_made rfl) (Nat.le_refl _) trivial⟩, ⟨below_alloc (Below.refl _ _) _⟩, HO⟩
 case round =>
  obtain ⟨kk, xs, hkk, hgg, rfl, HS, HBW, HR⟩ := hrel
  by_cases hlt : kk < rs.length
  ·have hltz : (kk : Int) < (rs.length : Int) := by omega
   have h0k : 0 ≤ (kk : Int) := by omega
   obtain ⟨m1, m2, m3, m4, m5, m6, m7, hm, hor⟩ := replF_cons HR.out hlt
   have HM := Aside0.mk hm
   obtain ⟨ad, e, hx0⟩ := Kd.at_string (Kd.C_below HC.out HBW.out) (kk : Int) h0k hltz
   cases e
   simp only [Int.toNat_natCast] at hx0
   clear hm HR
   generalize (rdOf ByteArray.empty rs (kk : Int)) = q0 at *
   have HOR := Aside0.mk hor
   clear hor
   go_wp2_with fail
   refine (spec_l09Read.calls k q0 m1 m2 m3 m4 m5 m6 m7 _ HM.out).mono ?_
   rintro e w3 ⟨v5, rfl, hR6, hb3⟩
   obtain ⟨A6, c6, rfl, hc6, hC6⟩ := Kd.R_reads hR6
   have HS3 := Aside0.mk (Kd.S_below HS.out hb3)
   have HBW3 := Aside0.mk (Below.trans HBW.out (hb3.mono HBW.out.size))
   have HC6 := Aside0.mk hC6
   clear hR6 hC6 hb3 HS HBW hx0
   rcases HOR.out with ⟨rfl, rfl⟩ | ⟨rfl, hs, hl6, hcase⟩
   ·have hh := HH.out
    dsimp only at hh
    simp only [Option.some.injEq, Prod.mk.injEq] at hh
    obtain ⟨rfl, rfl, rfl⟩ := hh
    go_wp2
    go_ret3
    exact ⟨_, rfl, S_empty_at _ (blk_made (Z124)) (by have := HB.out.size; have := HBW3.out.size; omega) trivial, below_alloc (below_alloc (Below.trans HB.out (HBW3.out.mono HB.out.size)) _) _⟩
   ·obtain ⟨AS, cS, rfl⟩ := Kd.S_slice HS3.out
    have HSM := Aside0.mk hs
    have HCA := Aside0.mk hcase
    clear hs hcase HOR
    have HS4 := Aside0.mk (Kd.S_alloc HS3.out (.cells #[.int .i64 m1, .int .i64 m2, .int .i64 m3, .int .i64 m4, .string m5, .slice A6 m6.length c6] 65))
    have HC4 := Aside0.mk (Kd.C_alloc HC6.out (.cells #[.int .i64 m1, .int .i64 m2, .int .i64 m3, .int .i64 m4, .string m5, .slice A6 m6.length c6] 65))
    have HBW4 := Aside0.mk (below_alloc HBW3.out (.cells #[.int .i64 m1, .int .i64 m2, .int .i64 m3, .int .i64 m4, .string m5, .slice A6 m6.length c6] 65))
    clear HS3 HC6 HBW3
    go_wp2_with fail
    generalize w3.alloc (.cells #[.int .i64 m1, .int .i64 m2, .int .i64 m3, .int .i64 m4, .string m5, .slice A6 m6.length c6] 65) = w4 at *
    refine (s_apply AS cS xs m1 m2 m3 m4 m5 A6 c6 m6 w4 (Kd.S_reads' HS4.out).2.2 (Kd.S_reads' HS4.out).2.1 HC4.out HSM.out.1 HSM.out.2 hl6).mono ?_
    rintro e w5 ⟨v7, rfl, hS7, hb7⟩
    have HBW5 := Aside0.mk (Below.trans HBW4.out (hb7.mono HBW4.out.size))
    rcases HCA.out with ⟨hne, rfl⟩ | ⟨h0, hr⟩
    ·have hh := HH.out
     dsimp only at hh
     simp only [Option.some.injEq, Prod.mk.injEq] at hh
     obtain ⟨rfl, rfl, rfl⟩ := hh
     have tne : ((mutL xs m1 m2 m3 m4 m5 m6).2 != 0) = true := bne_iff_ne.mpr hne
     clear hne hb7 hS7 HCA
     generalize (mutL xs m1 m2 m3 m4 m5 m6).2 = cd at *
     go_wp2
     go_ret3
     exact ⟨_, rfl, S_empty_at _ (blk_made rfl) (Nat.le_trans HB.out.size HBW5.out.size) trivial, below_alloc (Below.trans HB.out (HBW5.out.mono HB.out.size)) _⟩
    ·have HS7 := Aside0.mk (hS7 h0)
     have HR7 := Aside0.mk hr
     clear hS7 hr HCA hb7
     generalize (mutL xs m1 m2 m3 m4 m5 m6).1 = xs' at *
     rw [h0]
     clear h0
     have hz4 := Aside0.mk (HBW4.out.size)
     go_wp2
     go_roundg (rs.length - (kk + 1))
     case measure => omega
     case rel => exact ⟨kk + 1, xs', Z43, Z43, by go_num, ⟨Kd.S_lower HS7.out hz4.out⟩, HBW5, HR7⟩
  ·have hltz : ¬ (kk : Int) < (rs.length : Int) := by omega
   obtain rfl : kk = rs.length := by omega
   have hr := HR.out
   rw [List.drop_of_length_le (Nat.le_refl _)] at hr
   have hoe := replF_nil hr
   subst hoe
   have hh := HH.out
   dsimp only at hh
   clear hr
   obtain ⟨AS, cS, rfl⟩ := Kd.S_slice HS.out
   by_cases h8 : q3 = 8
   ·rw [if_pos h8] at hh
    simp only [Option.some.injEq, Prod.mk.injEq] at hh
    obtain ⟨rfl, rfl, rfl⟩ := hh
    subst h8
    go_wp2
    go_ret3
    exact ⟨_, rfl, S_empty_at _ (blk_made rfl) (Nat.le_trans HB.out.size HBW.out.size) trivial, below_alloc (Below.trans HB.out (HBW.out.mono HB.out.size)) _⟩
   ·rw [if_neg h8] at hh
    simp only [Option.some.injEq, Prod.mk.injEq] at hh
    obtain ⟨rfl, rfl, rfl⟩ := hh
    have t8 : (q3 == 8) = false := beq_eq_false_iff_ne.mpr h8
    clear h8
    go_wp2
    go_ret3
    exact ⟨_, rfl, Kd.S_lower HS.out HB.out.size, Below.trans HB.out (HBW.out.mono HB.out.size)⟩
theorem spec_l10Replay.calls (k : Nat) (a0 : ByteArray) (r1 : List S59) (r2 r3 : Int) (w : World) (h : spec_l10Replay.f k a0 = some (r1, r2, r3)) :
  Calls Try.prog 14 #[.string a0] w fun e w' => ∃ v0_ : Value, e = .returned (.tuple #[v0_, .int .i64 r2, .int .i64 r3]) ∧ Kd.S k59 59 w' w.heap.size (fun _ => True) v0_ r1 ∧ Below w.heap.size w w' := s_replay k a0 r1 r2 r3 w h

end Go.Proofs.Ytbikfhccfenkdaa.PFnExactEngineOK
