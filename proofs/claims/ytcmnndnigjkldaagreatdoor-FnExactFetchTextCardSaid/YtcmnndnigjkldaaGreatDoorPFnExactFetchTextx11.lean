/- Contracts of functions that a statement reaches (wip/x/xprint.py, short.py, compact.py). -/
import Derived.Test.YtcmnndnigjkldaaGreatDoorPFnExactFetchTextxA
import Derived.Test.YtcmnndnigjkldaaGreatDoorPFnExactFetchTextx8
import Derived.Test.YtcmnndnigjkldaaGreatDoorPFnExactFetchTextx10
namespace Go.Proofs.YtcmnndnigjkldaaGreatDoor.PFnExactFetchText
open Go.RowKit Go.Proofs.YtcmnndnigjkldaaGreatDoorW.PrintWords Go.Proofs.YtcmnndnigjkldaaGreatDoorW.PrintLast Go.Proofs.YtcmnndnigjkldaaGreatDoorW.PrintMore Go.Proofs.YtcmnndnigjkldaaGreatDoor.Mac
attribute [local go_sem] max2_int min2_int max_two min_two max_three min_three max_four min_four
set_option linter.unusedVariables false
set_option linter.unusedSimpArgs false

/-! ### impl_MailPart: function 37 -/
mutual
def impl_MailPart.j1 : Nat → ByteArray → ByteArray → Option (ByteArray × Int)
 | 0, _, _ => none
 | k + 1, x0, x1 => (impl_parseMail.f k x0).bind fun bt302 => (if bt302.2.2 = true then ((impl_mailPart.f x0 x1).bind fun t308 => (some (t308, 0))) else (some ((⟨#[]⟩ : ByteArray), 3)))
def impl_MailPart.j0 : Nat → ByteArray → ByteArray → Bool → Option (ByteArray × Int)
 | 0, _, _, _ => none
 | k + 1, x0, x1, x8 => if x8 = true then (some ((⟨#[]⟩ : ByteArray), 2)) else (if x1.toList = ([] : List UInt8) then (impl_MailPart.j1 k x0 x1) else (if x1.toList = ([72, 69, 65, 68, 69, 82] : List UInt8) then (impl_MailPart.j1 k x0 x1) else (if x1.toList = ([84, 69, 88, 84] : List UInt8) then (impl_MailPart.j1 k x0 x1) else (some ((⟨#[]⟩ : ByteArray), 1)))))
end
def impl_MailPart.f (k : Nat) (a0 : ByteArray) (a1 : ByteArray) : Option (ByteArray × Int) := if (a0.size : Int) > 65536 then (impl_MailPart.j0 k a0 a1 true) else (impl_MailPart.j0 k a0 a1 (decide ((a1.size : Int) > 65536)))
theorem impl_MailPart.mono_l : ∀ k, (∀ y0 y1, LeO (impl_MailPart.j1 k y0 y1) (impl_MailPart.j1 (k + 1) y0 y1)) ∧ (∀ y0 y1 y2, LeO (impl_MailPart.j0 k y0 y1 y2) (impl_MailPart.j0 (k + 1) y0 y1 y2))
 | 0 => ⟨fun _ _ r h => by simp [impl_MailPart.j1] at h, fun _ _ _ r h => by simp [impl_MailPart.j0] at h⟩
 | k + 1 => by
  obtain ⟨ih0, ih1⟩ := impl_MailPart.mono_l k
  refine ⟨?_, ?_⟩
  ·intro y0 y1
   unfold impl_MailPart.j1
   have m0 := @impl_parseMail.mono
   exact tM
  ·intro y0 y1 y2
   unfold impl_MailPart.j0
   have m0 := @impl_parseMail.mono
   exact tM
theorem impl_MailPart.mono : ∀ a0 a1 k, LeO (impl_MailPart.f k a0 a1) (impl_MailPart.f (k + 1) a0 a1) := by
 intro a0 a1 k
 obtain ⟨ih0, ih1⟩ := impl_MailPart.mono_l k
 unfold impl_MailPart.f
 have m0 := @impl_parseMail.mono
 exact tM
set_option maxHeartbeats 40000000 in
set_option maxRecDepth 100000 in
theorem impl_MailPart.calls (k : Nat) (a0 : ByteArray) (a1 : ByteArray) (r1 : ByteArray) (r2 : Int) (w : World) (HG : Aside0 (Glob w)) (h : impl_MailPart.f k a0 a1 = some (r1, r2)) :
  Calls Tryz.prog 37 #[.string a0, .string a1] w fun e w' => e = .returned (.tuple #[.string r1, .int .i64 r2]) ∧ Below w.heap.size w w' := by
 have hu60 := Tryz.underlying60
 have HB := Aside0.mk (Below.refl w.heap.size w)
 have H : (if (a0.size : Int) > 65536 then (impl_MailPart.j0 k a0 a1 true) else (impl_MailPart.j0 k a0 a1 (decide ((a1.size : Int) > 65536)))) = some (r1, r2) := h
 clear h
 have HC3 := Aside0.mk H
 clear H
 go_enter Tryz.func37, Tryz.ntmps37
 go_upto_block 0 with (fail)
 go_cut [] (fun wc => ∃ (kq : Nat), Aside0 (impl_MailPart.j1 kq a0 a1 = some (r1, r2)) ∧ Aside0 (kq ≤ k) ∧ Aside0 (Below w.heap.size w wc))
 case first =>
  have H := HC3.out
  clear HC3
  have HC4 := Aside0.mk H
  clear H
  go_upto_region 1 with (fail)
  go_cut [8] (fun v8 wc => ∃ (kq : Nat) (x8_3 : Bool), v8 = .bool x8_3 ∧ Aside0 (impl_MailPart.j0 kq a0 a1 x8_3 = some (r1, r2)) ∧ Aside0 (kq ≤ k) ∧ Aside0 (Below w.heap.size w wc))
  case first =>
   have H := HC4.out
   clear HC4
   by_cases c5 : (a0.size : Int) > 65536
   ·rw [if_pos c5] at H
    have c5b0 : decide (65536 < (a0.size : Int)) = true := decide_eq_true c5
    have c5b1 : decide (65536 < a0.size) = true := decide_eq_true (Z46)
    clear c5
    (first | rw [c5b0] | rw [c5b1] | (simp only [i64_w, i32_w]; rw [c5b0]) | skip)
    have H' := Aside0.mk H
    clear H
    go_wp2
    go_meet
    case rel => exact ⟨_, (true), (Z2), H', ⟨Z40⟩, ⟨Z0⟩⟩
   ·rw [if_neg c5] at H
    have c5b0 : decide (65536 < (a0.size : Int)) = false := decide_eq_false c5
    have c5b1 : decide (65536 < a0.size) = false := decide_eq_false (Z46)
    clear c5
    (first | rw [c5b0] | rw [c5b1] | (simp only [i64_w, i32_w]; rw [c5b0]) | skip)
    have H' := Aside0.mk H
    clear H
    go_wp2
    go_meet
    case rel => exact ⟨_, (decide ((a1.size : Int) > 65536)), (Z2), H', ⟨Z40⟩, ⟨Z0⟩⟩
  case rest =>
   clear HC4
   obtain ⟨kq, x8_3, rfl, HA, HJ3, HB⟩ := hcut
   cases kq with
   | zero => exact absurd HA.out (by simp [impl_MailPart.j0])
   | succ kj3 =>
    have H := HA.out
    clear HA
    simp only [impl_MailPart.j0] at H
    by_cases c6 : x8_3 = true
    ·subst c6
     replace H := ifT H
     simp only [Option.some.injEq, Prod.mk.injEq] at H
     obtain ⟨rfl, rfl⟩ := H
     go_wp2
     go_ret2
     exact ⟨Z3, Z0⟩
    ·replace c6 := Bool.eq_false_iff.mpr c6
     subst c6
     replace H := ifF H
     by_cases c7 : a1.toList = ([] : List UInt8)
     ·rw [if_pos c7] at H
      have c7b0 := beq_iff_eq.mpr c7
      have c7b1 := bne_eq_false_iff_eq.mpr c7
      clear c7
      have H' := Aside0.mk H
      clear H
      go_wp2
      go_meet
      case rel => exact ⟨_, H', ⟨by have := HJ3.out; first | omega | exact Nat.le_refl _⟩, ⟨Z0⟩⟩
     ·rw [if_neg c7] at H
      have c7b0 := beq_eq_false_iff_ne.mpr c7
      have c7b1 := bne_iff_ne.mpr c7
      by_cases c8 : a1.toList = ([72, 69, 65, 68, 69, 82] : List UInt8)
      ·rw [if_pos c8] at H
       have c8b0 := beq_iff_eq.mpr c8
       have c8b1 := bne_eq_false_iff_eq.mpr c8
       clear c8
       have H' := Aside0.mk H
       clear H
       go_wp2
       go_meet
       case rel => exact ⟨_, H', ⟨by have := HJ3.out; first | omega | exact Nat.le_refl _⟩, ⟨Z0⟩⟩
      ·rw [if_neg c8] at H
       have c8b0 := beq_eq_false_iff_ne.mpr c8
       have c8b1 := bne_iff_ne.mpr c8
       by_cases c9 : a1.toList = ([84, 69, 88, 84] : List UInt8)
       ·rw [if_pos c9] at H
        have c9b0 := beq_iff_eq.mpr c9
        have c9b1 := bne_eq_false_iff_eq.mpr c9
        clear c9
        have H' := Aside0.mk H
        clear H
        go_wp2
        go_meet
        case rel => exact ⟨_, H', ⟨by have := HJ3.out; first | omega | exact Nat.le_refl _⟩, ⟨Z0⟩⟩
       ·rw [if_neg c9] at H
        have c9b0 := beq_eq_false_iff_ne.mpr c9
        have c9b1 := bne_iff_ne.mpr c9
        simp only [Option.some.injEq, Prod.mk.injEq] at H
        obtain ⟨rfl, rfl⟩ := H
        go_wp2
        go_ret2
        exact ⟨Z3, Z0⟩
 case rest =>
  clear HC3
  obtain ⟨kq, HA, HJ2, HB⟩ := hcut
  cases kq with
  | zero => exact absurd HA.out (by simp [impl_MailPart.j1])
  | succ kj2 =>
   have H := HA.out
   clear HA
   simp only [impl_MailPart.j1] at H
   obtain ⟨⟨t302, t305, t306⟩, A10, H⟩ := bindA H
   try dsimp only at H
   by_cases c11 : t306 = true
   ·subst c11
    replace H := ifT H
    obtain ⟨t308, A12, H⟩ := bindA H
    try dsimp only at H
    simp only [Option.some.injEq, Prod.mk.injEq] at H
    obtain ⟨rfl, rfl⟩ := H
    go_wp2_with (first | ((with_reducible refine gate_callee (f := 47) rfl ?_); refine goesL_ (some 30) rfl rfl Tryz.func47 (Z20) rfl #[.string a0] rfl (Z1) ?_; (with_reducible refine (impl_parseMail.calls kj2 a0 t302 t305 true _ ?side1 A10.out).mono ?_); (case side1 => first | exact HG | exact ⟨HG.out.of rfl⟩ | (refine ⟨HG.out.on ?_⟩; (repeat (first | (with_reducible first | exact HB.out | apply below_alloc | apply pw_below_drewN | apply below_drew1) | exact HB.out)); done) | exact ⟨HG.out.on HBW.out⟩); rintro e w13 ⟨v303, rfl, ho0, hb⟩; refine ⟨_, rfl, ?_⟩; have HO304 := Aside0.mk (Kd.R_lower ho0 (below_size (Z0))); replace HB := Aside0.mk (below_step (Z0) hb); (try clear hb); (try clear ho0)) | ((with_reducible refine gate_dst (N := 6) rfl ?_); (try (refine gate_guard (by rfl) ?_; dsimp only)); refine bxE 6 #[.slice none 0 0, .string (⟨#[]⟩ : ByteArray)] 60 ?_; intro gb307 hg w14 hbox hb; replace HO304 := Aside0.mk (Kd.R_below (by (with_reducible repeat (first | apply Kd.R_alloc | apply Kd.R_drewN | apply Kd.R_drew)); exact HO304.out) hb); have BK307 := Aside0.mk (hbox); have GW307 := Aside0.mk ((szE w hg (Z0))); have GE307 := Aside0.mk ((szE w hg (Z0))); replace HB := Aside0.mk (below_step (Z0) hb); clear hb hbox hg; obtain ⟨Ao15, co15, eo15⟩ := Kd.R_slice HO304.out; subst eo15; obtain ⟨hcz16_0, hcz16_1⟩ := bc2 BK307.out; obtain ⟨hfz16_0, hfz16_1⟩ := bf2 BK307.out) | ((with_reducible refine gate_callee (f := 48) rfl ?_); refine goesL_ (some 37) rfl rfl Tryz.func48 (Z20) rfl #[.string a0, .string a1] rfl (Z1) ?_; (with_reducible refine (impl_mailPart.calls a0 a1 t308 _ ?side1 A12.out).mono ?_); (case side1 => first | exact HG | exact ⟨HG.out.of rfl⟩ | (refine ⟨HG.out.on ?_⟩; (repeat (first | (with_reducible first | exact HB.out | apply below_alloc | apply pw_below_drewN | apply below_drew1 | refine below_set ?_ GE307.out) | exact HB.out)); done) | exact ⟨HG.out.on HBW.out⟩); rintro e w' ⟨rfl, ⟨nd, rfl⟩⟩; refine ⟨_, rfl, ?_⟩))
    go_ret2
    exact ⟨Z3, Z67⟩
   ·replace c11 := Bool.eq_false_iff.mpr c11
    subst c11
    replace H := ifF H
    simp only [Option.some.injEq, Prod.mk.injEq] at H
    obtain ⟨rfl, rfl⟩ := H
    go_wp2_with (first | ((with_reducible refine gate_callee (f := 47) rfl ?_); refine goesL_ (some 30) rfl rfl Tryz.func47 (Z20) rfl #[.string a0] rfl (Z1) ?_; (with_reducible refine (impl_parseMail.calls kj2 a0 t302 t305 false _ ?side1 A10.out).mono ?_); (case side1 => first | exact HG | exact ⟨HG.out.of rfl⟩ | (refine ⟨HG.out.on ?_⟩; (repeat (first | (with_reducible first | exact HB.out | apply below_alloc | apply pw_below_drewN | apply below_drew1) | exact HB.out)); done) | exact ⟨HG.out.on HBW.out⟩); rintro e w17 ⟨v303, rfl, ho0, hb⟩; refine ⟨_, rfl, ?_⟩; have HO304 := Aside0.mk (Kd.R_lower ho0 (below_size (Z0))); replace HB := Aside0.mk (below_step (Z0) hb); (try clear hb); (try clear ho0)) | ((with_reducible refine gate_dst (N := 6) rfl ?_); (try (refine gate_guard (by rfl) ?_; dsimp only)); refine bxE 6 #[.slice none 0 0, .string (⟨#[]⟩ : ByteArray)] 60 ?_; intro gb307 hg w18 hbox hb; replace HO304 := Aside0.mk (Kd.R_below (by (with_reducible repeat (first | apply Kd.R_alloc | apply Kd.R_drewN | apply Kd.R_drew)); exact HO304.out) hb); have BK307 := Aside0.mk (hbox); have GW307 := Aside0.mk ((szE w hg (Z0))); have GE307 := Aside0.mk ((szE w hg (Z0))); replace HB := Aside0.mk (below_step (Z0) hb); clear hb hbox hg; obtain ⟨Ao19, co19, eo19⟩ := Kd.R_slice HO304.out; subst eo19; obtain ⟨hcz20_0, hcz20_1⟩ := bc2 BK307.out; obtain ⟨hfz20_0, hfz20_1⟩ := bf2 BK307.out))
    go_ret2
    exact ⟨Z3, Z67⟩

-- EXTERNAL: function 15 (impl_fetchText)
/-! Items of a fetch: whether one of them is of a kind. -/
def seesB (x : S48) : Bool := x.f2 && !x.f3
def uidB (x : S48) : Bool := x.f0.toList == ([85, 73, 68] : List UInt8)
def idxSees (l : List S48) (i : Int) : Int := match l with | [] => -1 | m :: r => if seesB m = true then i else idxSees r (i + 1)
theorem idxSees_drop (l : List S48) (k : Nat) (h : k < l.length) : idxSees (l.drop k) k = if seesB (rd_T48 l (k : Int)) = true then (k : Int) else idxSees (l.drop (k + 1)) ((k + 1 : Nat) : Int) := by
 rw [List.drop_eq_getElem_cons h, idxSees]
 have e : rd_T48 l (k : Int) = l[k] := by unfold rd_T48; simp [List.getD, List.getElem?_eq_getElem h]
 rw [e]; rfl
theorem idxSees_any (l : List S48) : ∀ (i : Int), 0 ≤ i → decide (0 ≤ idxSees l i) = l.any seesB := by
 induction l with
 | nil => intro i h; rfl
 | cons m r ih =>
  intro i h
  unfold idxSees
  rw [List.any_cons]
  by_cases hm : seesB m = true
  ·rw [if_pos hm, hm, decide_eq_true h]; rfl
  ·rw [if_neg hm, ih (i + 1) (Z46), Bool.eq_false_iff.mpr hm]; rfl
set_option maxHeartbeats 8000000 in
set_option maxRecDepth 100000 in
theorem oneSees (x : S48) (w : World) : Calls Tryz.prog 29 #[.agg #[.string x.f0, .string x.f1, .bool x.f2, .bool x.f3]] w fun e w' => e = .returned (.bool (seesB x)) ∧ Below w.heap.size w w' := by
 obtain ⟨n, p, b, q⟩ := x
 go_enter Tryz.func29, Tryz.ntmps29
 cases b with
 | false => go_wp2; go_ret; exact ⟨by first | rfl | (simp [seesB]; done), Z22⟩
 | true => cases q with
  | false => go_wp2; go_ret; exact ⟨by first | rfl | (simp [seesB]; done), Z22⟩
  | true => go_wp2; go_ret; exact ⟨by first | rfl | (simp [seesB]; done), Z22⟩
set_option maxHeartbeats 8000000 in
set_option maxRecDepth 100000 in
theorem indexSees (A : Option Addr) (c : Nat) (l : List S48) (w : World) (hC : Kd.C k48 w A l.length l) (hl : l.length ≤ 1099511627776) :
  Calls Tryz.prog 35 #[.slice A l.length c, .func (.func 29) #[] #[]] w fun e w' => e = .returned (.int .i64 (idxSees l 0)) ∧ Below w.heap.size w w' := by
 have eg := enters_of Tryz.func29 (Z20) rfl
 have HC := Aside0.mk hC
 clear hC
 go_enter Tryz.func35, Tryz.ntmps35
 go_wp2
 go_loopg [5, 8] l.length (fun gg _ s8 wr => ∃ kk : Nat, kk ≤ l.length ∧ l.length - kk ≤ gg ∧ s8 = .int .i64 kk ∧ Aside0 (Below w.heap.size w wr) ∧ Aside0 (idxSees l 0 = idxSees (l.drop kk) kk))
 case atStart => exact ⟨0, Nat.zero_le _, Z46, rfl, ⟨Below.refl _ w⟩, ⟨rfl⟩⟩
 case round =>
  obtain ⟨kk, hkk, hg, rfl, BW, AI⟩ := hrel
  by_cases hlt : kk < l.length
  ·have hltz : (kk : Int) < (l.length : Int) := by omega
   have h0 : 0 ≤ (kk : Int) := by omega
   obtain ⟨ad, e, hx0, hx1, hx2, hx3⟩ := at_T48 HC.out kk h0 hltz
   cases e
   simp only [Int.toNat_natCast] at hx0 hx1 hx2 hx3
   replace hx0 := (BW.out.cell (World.block_lt_of_cell? w _ hx0)).trans hx0
   replace hx1 := (BW.out.cell (World.block_lt_of_cell? w _ hx1)).trans hx1
   replace hx2 := (BW.out.cell (World.block_lt_of_cell? w _ hx2)).trans hx2
   replace hx3 := (BW.out.cell (World.block_lt_of_cell? w _ hx3)).trans hx3
   have hstep := idxSees_drop l kk hlt
   have hcall := oneSees (rd_T48 l (kk : Int)) wr
   by_cases hq : seesB (rd_T48 l (kk : Int)) = true
   ·rw [if_pos hq] at hstep
    rw [hq] at hcall
    have HS := Aside0.mk hstep
    clear hstep hq
    go_wp2_with (go_at_call 29; refine hcall.mono ?_; rintro e w' ⟨rfl, hb'⟩)
    go_ret
    exact ⟨by rw [AI.out, HS.out]; rfl, Below.trans BW.out (hb'.mono BW.out.size)⟩
   ·rw [if_neg hq] at hstep
    rw [Bool.eq_false_iff.mpr hq] at hcall
    have HS := Aside0.mk hstep
    clear hstep hq
    go_wp2_with (go_at_call 29; refine hcall.mono ?_; rintro e w' ⟨rfl, hb'⟩)
    go_roundg (l.length - (kk + 1))
    case measure => omega
    case rel => exact ⟨kk + 1, Z46, Z46, by go_num, ⟨Below.trans BW.out (hb'.mono BW.out.size)⟩, ⟨AI.out.trans HS.out⟩⟩
  ·have hltz : ¬ (kk : Int) < (l.length : Int) := by omega
   obtain rfl : kk = l.length := by omega
   go_wp2
   go_ret
   exact ⟨by rw [AI.out, List.drop_of_length_le (Nat.le_refl _)]; rfl, BW.out⟩
set_option maxHeartbeats 8000000 in
theorem hasSees (A : Option Addr) (c : Nat) (l : List S48) (w : World) (hC : Kd.C k48 w A l.length l) (hl : l.length ≤ 1099511627776) :
  Calls Tryz.prog 23 #[.slice A l.length c, .func (.func 29) #[] #[]] w fun e w' => e = .returned (.bool (l.any seesB)) ∧ Below w.heap.size w w' := by
 have hI := idxSees_any l 0 (Z46)
 have HC := Aside0.mk hC
 clear hC
 go_enter Tryz.func23, Tryz.ntmps23
 go_wp2_with (go_at_call 35; refine (indexSees A c l w HC.out hl).mono ?_; rintro e w' ⟨rfl, hb'⟩)
 go_ret
 exact ⟨by first | rfl | (rw [hI]; rfl) | (simp only [hI]; rfl), hb'⟩
def idxUid (l : List S48) (i : Int) : Int := match l with | [] => -1 | m :: r => if uidB m = true then i else idxUid r (i + 1)
theorem idxUid_drop (l : List S48) (k : Nat) (h : k < l.length) : idxUid (l.drop k) k = if uidB (rd_T48 l (k : Int)) = true then (k : Int) else idxUid (l.drop (k + 1)) ((k + 1 : Nat) : Int) := by
 rw [List.drop_eq_getElem_cons h, idxUid]
 have e : rd_T48 l (k : Int) = l[k] := by unfold rd_T48; simp [List.getD, List.getElem?_eq_getElem h]
 rw [e]; rfl
theorem idxUid_any (l : List S48) : ∀ (i : Int), 0 ≤ i → decide (0 ≤ idxUid l i) = l.any uidB := by
 induction l with
 | nil => intro i h; rfl
 | cons m r ih =>
  intro i h
  unfold idxUid
  rw [List.any_cons]
  by_cases hm : uidB m = true
  ·rw [if_pos hm, hm, decide_eq_true h]; rfl
  ·rw [if_neg hm, ih (i + 1) (Z46), Bool.eq_false_iff.mpr hm]; rfl
set_option maxHeartbeats 8000000 in
set_option maxRecDepth 100000 in
theorem oneUid (x : S48) (w : World) : Calls Tryz.prog 24 #[.agg #[.string x.f0, .string x.f1, .bool x.f2, .bool x.f3]] w fun e w' => e = .returned (.bool (uidB x)) ∧ Below w.heap.size w w' := by
 obtain ⟨n, p, b, q⟩ := x
 go_enter Tryz.func24, Tryz.ntmps24
 go_wp2
 go_ret
 exact ⟨by first | rfl | (simp [uidB]; done), Z22⟩
set_option maxHeartbeats 8000000 in
set_option maxRecDepth 100000 in
theorem indexUid (A : Option Addr) (c : Nat) (l : List S48) (w : World) (hC : Kd.C k48 w A l.length l) (hl : l.length ≤ 1099511627776) :
  Calls Tryz.prog 35 #[.slice A l.length c, .func (.func 24) #[] #[]] w fun e w' => e = .returned (.int .i64 (idxUid l 0)) ∧ Below w.heap.size w w' := by
 have eg := enters_of Tryz.func24 (Z20) rfl
 have HC := Aside0.mk hC
 clear hC
 go_enter Tryz.func35, Tryz.ntmps35
 go_wp2
 go_loopg [5, 8] l.length (fun gg _ s8 wr => ∃ kk : Nat, kk ≤ l.length ∧ l.length - kk ≤ gg ∧ s8 = .int .i64 kk ∧ Aside0 (Below w.heap.size w wr) ∧ Aside0 (idxUid l 0 = idxUid (l.drop kk) kk))
 case atStart => exact ⟨0, Nat.zero_le _, Z46, rfl, ⟨Below.refl _ w⟩, ⟨rfl⟩⟩
 case round =>
  obtain ⟨kk, hkk, hg, rfl, BW, AI⟩ := hrel
  by_cases hlt : kk < l.length
  ·have hltz : (kk : Int) < (l.length : Int) := by omega
   have h0 : 0 ≤ (kk : Int) := by omega
   obtain ⟨ad, e, hx0, hx1, hx2, hx3⟩ := at_T48 HC.out kk h0 hltz
   cases e
   simp only [Int.toNat_natCast] at hx0 hx1 hx2 hx3
   replace hx0 := (BW.out.cell (World.block_lt_of_cell? w _ hx0)).trans hx0
   replace hx1 := (BW.out.cell (World.block_lt_of_cell? w _ hx1)).trans hx1
   replace hx2 := (BW.out.cell (World.block_lt_of_cell? w _ hx2)).trans hx2
   replace hx3 := (BW.out.cell (World.block_lt_of_cell? w _ hx3)).trans hx3
   have hstep := idxUid_drop l kk hlt
   have hcall := oneUid (rd_T48 l (kk : Int)) wr
   by_cases hq : uidB (rd_T48 l (kk : Int)) = true
   ·rw [if_pos hq] at hstep
    rw [hq] at hcall
    have HS := Aside0.mk hstep
    clear hstep hq
    go_wp2_with (go_at_call 24; refine hcall.mono ?_; rintro e w' ⟨rfl, hb'⟩)
    go_ret
    exact ⟨by rw [AI.out, HS.out]; rfl, Below.trans BW.out (hb'.mono BW.out.size)⟩
   ·rw [if_neg hq] at hstep
    rw [Bool.eq_false_iff.mpr hq] at hcall
    have HS := Aside0.mk hstep
    clear hstep hq
    go_wp2_with (go_at_call 24; refine hcall.mono ?_; rintro e w' ⟨rfl, hb'⟩)
    go_roundg (l.length - (kk + 1))
    case measure => omega
    case rel => exact ⟨kk + 1, Z46, Z46, by go_num, ⟨Below.trans BW.out (hb'.mono BW.out.size)⟩, ⟨AI.out.trans HS.out⟩⟩
  ·have hltz : ¬ (kk : Int) < (l.length : Int) := by omega
   obtain rfl : kk = l.length := by omega
   go_wp2
   go_ret
   exact ⟨by rw [AI.out, List.drop_of_length_le (Nat.le_refl _)]; rfl, BW.out⟩
set_option maxHeartbeats 8000000 in
theorem hasUid (A : Option Addr) (c : Nat) (l : List S48) (w : World) (hC : Kd.C k48 w A l.length l) (hl : l.length ≤ 1099511627776) :
  Calls Tryz.prog 23 #[.slice A l.length c, .func (.func 24) #[] #[]] w fun e w' => e = .returned (.bool (l.any uidB)) ∧ Below w.heap.size w w' := by
 have hI := idxUid_any l 0 (Z46)
 have HC := Aside0.mk hC
 clear hC
 go_enter Tryz.func23, Tryz.ntmps23
 go_wp2_with (go_at_call 35; refine (indexUid A c l w HC.out hl).mono ?_; rintro e w' ⟨rfl, hb'⟩)
 go_ret
 exact ⟨by first | rfl | (rw [hI]; rfl) | (simp only [hI]; rfl), hb'⟩
/-! What an item tells of a mail. -/
def itemTextF (k : Nat) (nm pt : ByteArray) (bd : Bool) (uid fl : Int) (t : ByteArray) : Option (ByteArray × Bool) :=
 if nm.size ≤ 1000 then
  (if nm.toList = ([70, 76, 65, 71, 83] : List UInt8) then ((impl_flagsText.f k fl).bind fun x => if x.size ≤ 1099511627776 then some ((nm ++ (⟨#[32]⟩ : ByteArray)) ++ x, true) else none)
  else if nm.toList = ([85, 73, 68] : List UInt8) then ((strconv_Itoa.f uid).bind fun x => if x.size ≤ 1099511627776 then some ((nm ++ (⟨#[32]⟩ : ByteArray)) ++ x, true) else none)
  else if bd = true then ((impl_MailPart.f k t pt).bind fun q => if q.1.size ≤ 1099511627776 then ((strconv_Itoa.f (q.1.size : Int)).bind fun x => if x.size ≤ 1099511627776 then some (((((nm ++ (⟨#[32, 123]⟩ : ByteArray)) ++ x) ++ (⟨#[125]⟩ : ByteArray)) ++ (⟨#[13, 10]⟩ : ByteArray)) ++ q.1, (q.2 == 0)) else none) else none)
  else ((strconv_Itoa.f (t.size : Int)).bind fun x => if x.size ≤ 1099511627776 then some ((nm ++ (⟨#[32]⟩ : ByteArray)) ++ x, true) else none))
 else none
set_option maxHeartbeats 8000000 in
set_option maxRecDepth 100000 in
theorem itemText (k : Nat) (nm pt : ByteArray) (bd : Bool) (uid fl : Int) (t : ByteArray) (p : Addr) (r1 : ByteArray) (r2 : Bool) (w : World) (z0 : w.cell? p = some (.string nm)) (z1 : w.cell? ⟨p.block, p.off + 1, none⟩ = some (.string pt)) (z2 : w.cell? ⟨p.block, p.off + 2, none⟩ = some (.bool bd)) (HG : Aside0 (Glob w)) (h : itemTextF k nm pt bd uid fl t = some (r1, r2)) :
  Calls Tryz.prog 25 #[.pointer (some p), .agg #[.int .i64 uid, .int .i64 fl, .string t]] w fun e w' => e = .returned (.tuple #[.string r1, .bool r2]) ∧ Below w.heap.size w w' := by
 unfold itemTextF at h
 split at h
 case isFalse => cases h
 rename_i hnm
 have hpl := World.block_lt_of_cell? w _ z0
 have HB0 := Aside0.mk (below_alloc (Below.refl w.heap.size w) (.cells #[.int .i64 uid, .int .i64 fl, .string t] 29))
 have XB0 := Aside0.mk (show (w.alloc (.cells #[.int .i64 uid, .int .i64 fl, .string t] 29)).heap[w.heap.size]? = some (.cells #[.int .i64 uid, .int .i64 fl, .string t] 29 (0, 0)) from by simpa using heap_alloc_new w _)
 have y0 : (w.alloc (.cells #[.int .i64 uid, .int .i64 fl, .string t] 29)).cell? p = some (.string nm) := (HB0.out.cell (p := p) hpl).trans z0
 have y1 : (w.alloc (.cells #[.int .i64 uid, .int .i64 fl, .string t] 29)).cell? ⟨p.block, p.off + 1, none⟩ = some (.string pt) := (HB0.out.cell (p := ⟨p.block, p.off + 1, none⟩) hpl).trans z1
 have y2 : (w.alloc (.cells #[.int .i64 uid, .int .i64 fl, .string t] 29)).cell? ⟨p.block, p.off + 2, none⟩ = some (.bool bd) := (HB0.out.cell (p := ⟨p.block, p.off + 2, none⟩) hpl).trans z2
 have HZ := Aside0.mk (And.intro y0 y1)
 have HL := Aside0.mk hpl
 have hs1 : (9223372036854775807 < nm.size + 1) = False := eq_false (Z46)
 have hs2 : (9223372036854775807 < nm.size + 2) = False := eq_false (Z46)
 have HG0 := Aside0.mk (Glob.on HG.out HB0.out)
 clear z0 z1 z2
 split at h
 ·-- FLAGS
  rename_i hn
  cases hx : impl_flagsText.f k fl with
  | none => rw [hx] at h; cases h
  | some x =>
   rw [hx] at h
   dsimp only [Option.bind_some] at h
   split at h
   case isFalse => cases h
   rename_i hxs
   simp only [Option.some.injEq, Prod.mk.injEq] at h
   obtain ⟨rfl, rfl⟩ := h
   have hn0 : (nm.toList == ([70, 76, 65, 71, 83] : List UInt8)) = true := beq_iff_eq.mpr hn
   have hs3 : (9223372036854775807 < nm.size + 1 + x.size) = False := eq_false (Z46)
   have HX := Aside0.mk hx
   clear hn hx hxs hnm
   go_enter Tryz.func25, Tryz.ntmps25
   go_upto_region 2 with (fail)
   clear y0 y1 y2
   generalize w.alloc (.cells #[.int .i64 uid, .int .i64 fl, .string t] 29) = W2 at HB0 XB0 HZ HG0 ⊢
   generalize hg : w.heap.size = g at XB0 ⊢
   go_region_held3 (fun W => W.cell? p = some (.string nm) ∧ W.cell? ⟨g, 1, none⟩ = some (.int .i64 fl))
    (first | exact ⟨(HK1.out.cell (p := p) (by have := HB0.out.size; have := HL.out; omega)).trans HZ.out.1, (blk_cell XB1.out 1).trans rfl⟩ | exact ⟨HZ.out.1, (blk_cell (Z50) 1).trans rfl⟩ | go_keep)
    (first
     | (go_at_call 36; refine (impl_flagsText.calls k fl x _ HX.out).mono ?_; rintro e w6 ⟨rfl, hb⟩; have XB1 := Aside0.mk (blk_below (Z50) hb); have HK1 := Aside0.mk (show Below W2.heap.size W2 w6 from below_step (Z64) hb); have HB1 := Aside0.mk (below_step (by repeat (first | exact HB0.out | apply below_drew1)) hb); clear hb))
   all_goals (go_wp2; go_ret2; exact ⟨Z44, by first | exact HB1.out | (subst hg; exact HB1.out)⟩)
 ·rename_i hn1
  have hn0 : (nm.toList == ([70, 76, 65, 71, 83] : List UInt8)) = false := beq_eq_false_iff_ne.mpr hn1
  clear hn1
  split at h
  ·-- UID
   rename_i hn2
   have hq0 : (nm.toList == ([85, 73, 68] : List UInt8)) = true := beq_iff_eq.mpr hn2
   clear hn2
   cases hx : strconv_Itoa.f uid with
   | none => rw [hx] at h; cases h
   | some x =>
    rw [hx] at h
    dsimp only [Option.bind_some] at h
    split at h
    case isFalse => cases h
    rename_i hxs
    simp only [Option.some.injEq, Prod.mk.injEq] at h
    obtain ⟨rfl, rfl⟩ := h
    have hs3 : (9223372036854775807 < nm.size + 1 + x.size) = False := eq_false (Z46)
    have HX := Aside0.mk hx
    clear hx hxs hnm
    go_enter Tryz.func25, Tryz.ntmps25
    go_upto_region 4 with (fail)
    clear y0 y1 y2
    generalize w.alloc (.cells #[.int .i64 uid, .int .i64 fl, .string t] 29) = W2 at HB0 XB0 HZ HG0 ⊢
    generalize hg : w.heap.size = g at XB0 ⊢
    go_region_held3 (fun W => W.cell? p = some (.string nm) ∧ W.cell? ⟨g, 0, none⟩ = some (.int .i64 uid))
     (first | exact ⟨(HK1.out.cell (p := p) (by have := HB0.out.size; have := HL.out; omega)).trans HZ.out.1, (blk_cell XB1.out 0).trans rfl⟩ | exact ⟨HZ.out.1, (blk_cell (Z50) 0).trans rfl⟩ | go_keep)
     (first
      | (go_at_call 27; refine (strconv_Itoa.calls uid x _ (by first | exact HG0 | exact ⟨HG0.out.of rfl⟩) HX.out).mono ?_; rintro e w6 ⟨rfl, hb⟩; have XB1 := Aside0.mk (blk_below (Z50) hb); have HK1 := Aside0.mk (show Below W2.heap.size W2 w6 from below_step (Z64) hb); have HB1 := Aside0.mk (below_step (by repeat (first | exact HB0.out | apply below_drew1)) hb); clear hb))
    all_goals (go_wp2; go_ret2; exact ⟨Z44, by first | exact HB1.out | (subst hg; exact HB1.out)⟩)
  ·rename_i hn2
   have hq0 : (nm.toList == ([85, 73, 68] : List UInt8)) = false := beq_eq_false_iff_ne.mpr hn2
   clear hn2
   cases bd with
   | false =>
    rw [if_neg (by simp)] at h
    cases hx : strconv_Itoa.f (t.size : Int) with
    | none => rw [hx] at h; cases h
    | some x =>
     rw [hx] at h
     dsimp only [Option.bind_some] at h
     split at h
     case isFalse => cases h
     rename_i hxs
     simp only [Option.some.injEq, Prod.mk.injEq] at h
     obtain ⟨rfl, rfl⟩ := h
     have hs3 : (9223372036854775807 < nm.size + 1 + x.size) = False := eq_false (Z46)
     have HX := Aside0.mk hx
     clear hx hxs hnm
     go_enter Tryz.func25, Tryz.ntmps25
     go_upto_region 6 with (fail)
     clear y0 y1 y2
     generalize w.alloc (.cells #[.int .i64 uid, .int .i64 fl, .string t] 29) = W2 at HB0 XB0 HZ HG0 ⊢
     generalize hg : w.heap.size = g at XB0 ⊢
     go_region_held3 (fun W => W.cell? p = some (.string nm) ∧ W.cell? ⟨g, 2, none⟩ = some (.string t))
      (first | exact ⟨(HK1.out.cell (p := p) (by have := HB0.out.size; have := HL.out; omega)).trans HZ.out.1, (blk_cell XB1.out 2).trans rfl⟩ | exact ⟨HZ.out.1, (blk_cell (Z50) 2).trans rfl⟩ | go_keep)
      (first
       | (go_at_call 27; refine (strconv_Itoa.calls (t.size : Int) x _ (by first | exact HG0 | exact ⟨HG0.out.of rfl⟩) HX.out).mono ?_; rintro e w6 ⟨rfl, hb⟩; have XB1 := Aside0.mk (blk_below (Z50) hb); have HK1 := Aside0.mk (show Below W2.heap.size W2 w6 from below_step (Z64) hb); have HB1 := Aside0.mk (below_step (by repeat (first | exact HB0.out | apply below_drew1)) hb); clear hb))
     all_goals (go_wp2; go_ret2; exact ⟨Z44, by first | exact HB1.out | (subst hg; exact HB1.out)⟩)
   | true =>
    rw [if_pos rfl] at h
    cases hq : impl_MailPart.f k t pt with
    | none => rw [hq] at h; cases h
    | some q =>
     obtain ⟨q1, q2⟩ := q
     rw [hq] at h
     dsimp only [Option.bind_some] at h
     split at h
     case isFalse => cases h
     rename_i hqs
     cases hx : strconv_Itoa.f (q1.size : Int) with
     | none => rw [hx] at h; cases h
     | some x =>
      rw [hx] at h
      dsimp only [Option.bind_some] at h
      split at h
      case isFalse => cases h
      rename_i hxs
      simp only [Option.some.injEq, Prod.mk.injEq] at h
      obtain ⟨rfl, rfl⟩ := h
      have hs3 : (9223372036854775807 < nm.size + 2 + x.size) = False := eq_false (Z46)
      have hs4 : (9223372036854775807 < nm.size + 2 + x.size + 1) = False := eq_false (Z46)
      have hs5 : (9223372036854775807 < nm.size + 2 + x.size + 1 + 2) = False := eq_false (Z46)
      have hs6 : (9223372036854775807 < nm.size + 2 + x.size + 1 + 2 + q1.size) = False := eq_false (Z46)
      have HQ := Aside0.mk hq
      have HX := Aside0.mk hx
      clear hq hqs hx hxs hnm
      go_enter Tryz.func25, Tryz.ntmps25
      go_upto_region 7 with (fail)
      clear y0 y1 y2
      generalize w.alloc (.cells #[.int .i64 uid, .int .i64 fl, .string t] 29) = W2 at HB0 XB0 HZ HG0 ⊢
      generalize hg : w.heap.size = g at XB0 ⊢
      go_cut [6, 7] (fun v6 v7 wc => v6 = .string q1 ∧ v7 = .int .i64 q2 ∧ Aside0 (Below W2.heap.size W2 wc))
      case first =>
       go_region_held3 (fun W => W.cell? ⟨g, 2, none⟩ = some (.string t) ∧ W.cell? ⟨p.block, p.off + 1, none⟩ = some (.string pt))
        (first | exact ⟨(blk_cell XB1.out 2).trans rfl, (HK1.out.cell (p := ⟨p.block, p.off + 1, none⟩) (show p.block < W2.heap.size by have := HB0.out.size; have := HL.out; omega)).trans HZ.out.2⟩ | exact ⟨(blk_cell (Z50) 2).trans rfl, HZ.out.2⟩ | go_keep)
        (first
         | (go_at_call 37; refine (impl_MailPart.calls k t pt q1 q2 _ (by first | exact HG0 | exact ⟨HG0.out.of rfl⟩) HQ.out).mono ?_; rintro e w6 ⟨rfl, hb⟩; have XB1 := Aside0.mk (blk_below (Z50) hb); have HK1 := Aside0.mk (show Below W2.heap.size W2 w6 from below_step (Z64) hb); clear hb))
       all_goals (go_wp2; go_meet; exact ⟨rfl, rfl, HK1⟩)
      case rest =>
       obtain ⟨rfl, rfl, HK2⟩ := hcut
       have HZ2 := Aside0.mk ((HK2.out.cell (p := p) (by have := HB0.out.size; have := HL.out; omega)).trans HZ.out.1)
       have HG2 := Aside0.mk (Glob.on HG0.out HK2.out)
       have HB2 := Aside0.mk (Below.trans HB0.out (HK2.out.mono HB0.out.size))
       have HL2 := Aside0.mk (World.block_lt_of_cell? _ _ HZ2.out)
       go_upto_region 8 with (fail)
       go_region_held3 (fun W => W.cell? p = some (.string nm))
        (first | exact (HK3.out.cell (p := p) HL2.out).trans HZ2.out | exact HZ2.out | go_keep)
        (first
         | (go_at_call 27; refine (strconv_Itoa.calls (q1.size : Int) x _ (by first | exact HG2 | exact ⟨HG2.out.of rfl⟩) HX.out).mono ?_; rintro e w7 ⟨rfl, hb⟩; have HK3 := Aside0.mk (show Below wc.heap.size wc w7 from below_step (Z64) hb); have HB3 := Aside0.mk (Below.trans HB2.out (HK3.out.mono (by first | exact HB2.out.size | (subst hg; exact HB2.out.size)))); clear hb))
       all_goals (go_wp2; go_ret2; exact ⟨Z44, by first | exact HB3.out | (subst hg; exact HB3.out)⟩)
/-! What a fetch tells of a mail. -/
def fetchFin (seq : Int) (P : List ByteArray) : Option (ByteArray × Bool) :=
 (strconv_Itoa.f seq).bind fun a => (strings_Join.f P (⟨#[32]⟩ : ByteArray)).bind fun j => if j.size ≤ 2199023255552 then ((impl_line.f [(⟨#[42]⟩ : ByteArray), a, (⟨#[70, 69, 84, 67, 72]⟩ : ByteArray), ((⟨#[40]⟩ : ByteArray) ++ j) ++ (⟨#[41]⟩ : ByteArray)]).bind fun r => some (r, true)) else none
def impl_fetchText.l0 : Nat → Int → Int → ByteArray → Int → List S48 → List ByteArray → Int → Option (ByteArray × Bool)
 | 0, _, _, _, _, _, _, _ => none
 | k + 1, uid, fl, t, seq, L, P, i => if i < (L.length : Int) then (if 0 ≤ i then ((itemTextF k (rd_T48 L i).f0 (rd_T48 L i).f1 (rd_T48 L i).f2 uid fl t).bind fun q => (if q.2 = true then (if i < (P.length : Int) then (impl_fetchText.l0 k uid fl t seq L (P.set i.toNat q.1) (wrap64 (i + 1))) else none) else (some ((⟨#[]⟩ : ByteArray), false)))) else none) else (fetchFin seq P)
def itemsL (l : List S48) (wu : Bool) : List S48 := if wu = true ∧ l.any uidB = false then (⟨(⟨#[85, 73, 68]⟩ : ByteArray), (⟨#[]⟩ : ByteArray), false, false⟩ : S48) :: l else l
def impl_fetchText.f (k : Nat) (uid fl : Int) (t : ByteArray) (seq : Int) (l : List S48) (wu : Bool) : Option (ByteArray × Bool) :=
 if l.length ≤ 1000000 then impl_fetchText.l0 k uid fl t seq (itemsL l wu) (List.replicate (itemsL l wu).length (⟨#[]⟩ : ByteArray)) 0 else none
theorem itemTextF.mono (nm pt : ByteArray) (bd : Bool) (uid fl : Int) (t : ByteArray) (k : Nat) : LeO (itemTextF k nm pt bd uid fl t) (itemTextF (k + 1) nm pt bd uid fl t) := by
 unfold itemTextF
 have m0 := @impl_flagsText.mono
 have m1 := @impl_MailPart.mono
 exact tM
theorem impl_fetchText.mono_l : ∀ k, (∀ y0 y1 y2 y3 y4 y5 y6, LeO (impl_fetchText.l0 k y0 y1 y2 y3 y4 y5 y6) (impl_fetchText.l0 (k + 1) y0 y1 y2 y3 y4 y5 y6))
 | 0 => fun _ _ _ _ _ _ _ r h => by simp [impl_fetchText.l0] at h
 | k + 1 => by
  have ih0 := impl_fetchText.mono_l k
  intro y0 y1 y2 y3 y4 y5 y6
  unfold impl_fetchText.l0
  have m0 := @itemTextF.mono
  exact tM
theorem impl_fetchText.mono : ∀ a0 a1 a2 a3 a4 a5 k, LeO (impl_fetchText.f k a0 a1 a2 a3 a4 a5) (impl_fetchText.f (k + 1) a0 a1 a2 a3 a4 a5) := by
 intro a0 a1 a2 a3 a4 a5 k
 unfold impl_fetchText.f
 split
 ·exact impl_fetchText.mono_l k _ _ _ _ _ _ _
 ·exact LeO.none _
set_option maxHeartbeats 40000000 in
set_option maxRecDepth 100000 in
theorem impl_fetchText.calls (k : Nat) (a0_0 a0_1 : Int) (a0_2 : ByteArray) (a1 : Int) (A2 : Option Addr) (c2 : Nat) (l2 : List S48) (a3 : Bool) (r1 : ByteArray) (r2 : Bool) (w : World) (hr2 : Kd.C k48 w A2 l2.length l2) (hc2 : l2.length ≤ c2) (HG : Aside0 (Glob w)) (h : impl_fetchText.f k a0_0 a0_1 a0_2 a1 l2 a3 = some (r1, r2)) :
  Calls Tryz.prog 15 #[.agg #[.int .i64 a0_0, .int .i64 a0_1, .string a0_2], .int .i64 a1, .slice A2 l2.length c2, .bool a3] w fun e w' => e = .returned (.tuple #[.string r1, .bool r2]) ∧ Below w.heap.size w w' := by
 unfold impl_fetchText.f at h
 split at h
 case isFalse => cases h
 rename_i hl
 obtain ⟨L, hL⟩ : ∃ L, L = itemsL l2 a3 := ⟨_, rfl⟩
 rw [← hL] at h
 have hlen : L.length ≤ 1000001 := by rw [hL]; unfold itemsL; split <;> first | (simp; omega) | omega
 have HH := Aside0.mk h
 have HR := Aside0.mk hr2
 have HC2 := Aside0.mk hc2
 have HL := Aside0.mk hL
 have HM := Aside0.mk hlen
 have HN := Aside0.mk hl
 have HB0 := Aside0.mk (below_alloc (Below.refl w.heap.size w) (.cells #[.int .i64 a0_0, .int .i64 a0_1, .string a0_2] 29))
 have XB0 := Aside0.mk (show (w.alloc (.cells #[.int .i64 a0_0, .int .i64 a0_1, .string a0_2] 29)).heap[w.heap.size]? = some (.cells #[.int .i64 a0_0, .int .i64 a0_1, .string a0_2] 29 (0, 0)) from by simpa using heap_alloc_new w _)
 have HS0 := Aside0.mk (show w.heap.size < (w.alloc (.cells #[.int .i64 a0_0, .int .i64 a0_1, .string a0_2] 29)).heap.size by simp)
 clear h hr2 hc2 hL hl hlen
 go_enter Tryz.func15, Tryz.ntmps15
 go_upto_region 1 with (fail)
 generalize w.alloc (.cells #[.int .i64 a0_0, .int .i64 a0_1, .string a0_2] 29) = W2 at HB0 XB0 HS0 ⊢
 go_cut [19] from 14 to 18 (fun v19 wc => v19 = .bool (a3 && !(l2.any uidB)) ∧ Aside0 (Below W2.heap.size W2 wc))
 case first =>
  have HRc := Aside0.mk (Kd.C_below HR.out HB0.out)
  cases a3 with
  | false => go_wp2; go_meet; exact ⟨rfl, ⟨Below.refl _ _⟩⟩
  | true =>
   go_wp2_with (go_at_call 23; refine (hasUid A2 c2 l2 _ HRc.out (by have := HN.out; omega)).mono ?_; rintro e w3 ⟨rfl, hb⟩; have HB3 := Aside0.mk hb; clear hb)
   go_meet
   exact ⟨by first | rfl | (simp; done), HB3⟩
 case rest =>
  obtain ⟨rfl, HK1⟩ := hcut
  have HB1 := Aside0.mk (Below.trans HB0.out (HK1.out.mono HB0.out.size))
  have HR1 := Aside0.mk (Kd.C_below HR.out HB1.out)
  have hcnd : (a3 = true ∧ l2.any uidB = false) ↔ (a3 && !(l2.any uidB)) = true := by simp
  have HCN := Aside0.mk hcnd
  generalize hbb : (a3 && !(l2.any uidB)) = bb at hcnd ⊢
  have HBB := Aside0.mk hbb
  clear hcnd hbb
  go_upto_if 19 with (fail)
  go_cut [2] from 20 to 23 (fun v2 wd => ∃ (A : Option Addr) (c : Nat), v2 = .slice A L.length c ∧ L.length ≤ c ∧ Aside0 (Kd.C k48 wd A L.length L) ∧ Aside0 (Below W2.heap.size W2 wd))
  case first =>
   cases bb with
   | false =>
    have hLl : L = l2 := by rw [HL.out]; unfold itemsL; rw [if_neg (fun x => by have := HCN.out.mp x; rw [HBB.out] at this; cases this)]
    clear HL
    subst hLl
    go_wp2
    go_meet
    exact ⟨A2, c2, rfl, HC2.out, HR1, HK1⟩
   | true =>
    have hLl : L = (⟨(⟨#[85, 73, 68]⟩ : ByteArray), (⟨#[]⟩ : ByteArray), false, false⟩ : S48) :: l2 := by rw [HL.out]; unfold itemsL; rw [if_pos (HCN.out.mpr HBB.out)]
    clear HL
    have HLl := Aside0.mk hLl
    clear hLl
    go_wp2_with (first
     | ((with_reducible refine gate_dst (N := 21) rfl ?_); refine Kd.R_lit k48 _ 48 ?hg (N := 21) ?hd (xs := ([⟨(⟨#[85, 73, 68]⟩ : ByteArray), (⟨#[]⟩ : ByteArray), false, false⟩] : List S48)) (inner := [.string (⟨#[85, 73, 68]⟩ : ByteArray), .string (⟨#[]⟩ : ByteArray), .bool false, .bool false]) (ok := fun _ => True) (okp := fun _ => True) ?hr ?hp (fun _ hk => hk) trivial (Below.refl _ _) (Nat.le_refl _) (by simp) ?_; (case hd => rfl); (case hg => rfl); (case hr => first | (go_simp; done) | (go_simp; rfl)); (case hp => exact (Reps.snoc (ps := []) (cs := []) (Reps.none _ _) (show Kd.M k48 _ _ _ (⟨(⟨#[85, 73, 68]⟩ : ByteArray), (⟨#[]⟩ : ByteArray), false, false⟩ : S48) [.string (⟨#[85, 73, 68]⟩ : ByteArray), .string (⟨#[]⟩ : ByteArray), .bool false, .bool false] from k48_mkM _ _ _ _) rfl)); intro v1 w4 ho hb hg_ hnew_; have HO := Aside0.mk ho; have HB4 := Aside0.mk hb; clear hg_ hnew_ ho hb)
     | ((with_reducible refine gate_builtin (b := .append) (xs := #[.tmp 21, .tmp 22]) rfl ?_); at_builtin; refine Kd.R_append_rows k48 (w0 := wc) wc.heap.size rfl (.tmp 21) (.tmp 22) 37 48 (.agg #[(.string ⟨#[]⟩), (.string ⟨#[]⟩), (.bool false), (.bool false)]) 40 rfl Tryz.underlying37 info48 rfl (Z63) (Z46) v1 ([⟨(⟨#[85, 73, 68]⟩ : ByteArray), (⟨#[]⟩ : ByteArray), false, false⟩] : List S48) l2 _ _ _ (fun _ => True) (fun _ => False) rfl rfl ?aO ?aR (fun _ _ h => h) (fun _ h => h.elim) ?aF ?aB ?aS ?aL ?_; (case aR => exact Kd.C_below HR1.out (Below.trans HB1.out (HB4.out.mono HB1.out.size) |> fun _ => HB4.out.mono (Nat.le_refl _))); (case aB => exact HB4.out); (case aF => exact (fun _ _ => trivial)); (case aO => exact HO.out); (case aS => exact HB4.out.size); (case aL => have := HN.out; simp; omega); intro v2 w5 ho hb hg hat; have HO2 := Aside0.mk ho; have HB5 := Aside0.mk hb; clear ho hb hg hat; obtain ⟨Ao2, co2, eo2⟩ := Kd.R_slice HO2.out; subst eo2))
    go_meet
    obtain ⟨e1, e2, e3⟩ := Kd.R_reads' HO2.out
    rw [HLl.out]
    refine ⟨Ao2, co2, ?_, ?_, ⟨e3⟩, ⟨?_⟩⟩
    ·first | rfl | (simp; done)
    ·simpa using e2
    ·exact Below.trans HK1.out (HB5.out.mono HK1.out.size)
  case rest =>
   obtain ⟨A, c, rfl, hcL, HRL, HK2⟩ := hcut
   have HBd := Aside0.mk (Below.trans HB0.out (HK2.out.mono HB0.out.size))
   have XBd := Aside0.mk ((HK2.out.block _ HS0.out).trans XB0.out)
   have HGd := Aside0.mk (Glob.on HG.out HBd.out)
   have HCL := Aside0.mk hcL
   have HSd := Aside0.mk (show w.heap.size < wc.heap.size from Nat.lt_of_lt_of_le HS0.out HK2.out.size)
   clear HB1 HR1 HK1 HCN HBB XB0 HB0 HS0 hcL HK2
   go_wp2_with (first
    | ((with_reducible refine gate_dst (N := 26) rfl ?_); refine Kd.R_make Kd.string _ 9 rfl (N := 26) rfl 24 _ _ rfl (L.length : Int) rfl rfl Tryz.underlying24 (.string ⟨#[]⟩) 16 info9 rfl (Z63) (Z46) (⟨#[]⟩ : ByteArray) (ok := fun _ => True) (okp := fun _ => True) rfl (fun _ hk => hk) trivial (Z46) (by have := HM.out; simp; omega) (Below.refl _ _) (Nat.le_refl _) ?_; intro v26 w6 ho hb hg_ hnew_; rw [Int.toNat_natCast] at ho; have HO6 := Aside0.mk ho; have HB6 := Aside0.mk hb; clear hg_ hnew_ ho hb))
   go_loopg [11, 12, 13, 29] k (fun kq _ _ _ s29 wr => ∃ (P : List ByteArray) (i : Int), s29 = .int .i64 i ∧ Aside0 (impl_fetchText.l0 kq a0_0 a0_1 a0_2 a1 L P i = some (r1, r2)) ∧ Aside0 (kq ≤ k) ∧ Aside0 (Kd.R Kd.string 9 wr wc.heap.size (fun _ => True) v26 P) ∧ Aside0 (Below wc.heap.size wc wr))
   case atStart => exact ⟨_, 0, rfl, HH, ⟨Nat.le_refl _⟩, HO6, HB6⟩
   case round =>
    clear HH HO6 HB6
    obtain ⟨P, i, rfl, HA, HK1, HO, HB⟩ := hrel
    have HBw := Aside0.mk (Below.trans HBd.out (HB.out.mono HBd.out.size))
    have HGr := Aside0.mk (Glob.on HGd.out HB.out)
    cases gk with
    | zero => exact absurd HA.out (by simp [impl_fetchText.l0])
    | succ k1 =>
     have H := HA.out
     clear HA
     simp only [impl_fetchText.l0] at H
     by_cases c6 : i < (L.length : Int)
     ·rw [if_pos c6] at H
      by_cases c7 : 0 ≤ i
      ·rw [if_pos c7] at H
       have c6b0 := decide_eq_true c6
       have c7b0 := decide_eq_true c7
       obtain ⟨ad, e, hx0, hx1, hx2, -⟩ := at_T48 HRL.out i c7 c6
       cases e
       have Z0 := Aside0.mk ((HB.out.cell (World.block_lt_of_cell? _ _ hx0)).trans hx0)
       have Z1 := Aside0.mk ((HB.out.cell (World.block_lt_of_cell? _ _ hx1)).trans hx1)
       have Z2 := Aside0.mk ((HB.out.cell (World.block_lt_of_cell? _ _ hx2)).trans hx2)
       have XBr := Aside0.mk ((HB.out.block _ HSd.out).trans XBd.out)
       clear hx0 hx1 hx2
       cases hq : itemTextF k1 (rd_T48 L i).f0 (rd_T48 L i).f1 (rd_T48 L i).f2 a0_0 a0_1 a0_2 with
       | none => rw [hq] at H; cases H
       | some q =>
        obtain ⟨q1, q2⟩ := q
        rw [hq] at H
        dsimp only [Option.bind_some] at H
        have HQ := Aside0.mk hq
        have HH := Aside0.mk H
        have p6 := eq_true c6
        have p7 := eq_true c7
        clear hq H c6 c7
        go_upto_region 7 with (fail)
        go_cut [12, 13] from 33 to 39 (fun v12 v13 wx => v12 = .string q1 ∧ v13 = .bool q2 ∧ Aside0 (Below wr.heap.size wr wx))
        case first =>
         go_region_held3 (fun W => W.cell? ⟨w.heap.size, 0, none⟩ = some (.int .i64 a0_0) ∧ W.cell? ⟨w.heap.size, 1, none⟩ = some (.int .i64 a0_1) ∧ W.cell? ⟨w.heap.size, 2, none⟩ = some (.string a0_2))
          (first | exact ⟨(blk_cell XB7.out 0).trans rfl, (blk_cell XB7.out 1).trans rfl, (blk_cell XB7.out 2).trans rfl⟩ | exact ⟨(blk_cell (Z71) 0).trans rfl, (blk_cell (Z71) 1).trans rfl, (blk_cell (Z71) 2).trans rfl⟩ | go_keep)
          (first
           | (go_at_call 25; refine (itemText k1 _ _ _ a0_0 a0_1 a0_2 _ q1 q2 wr.drew Z0.out Z1.out Z2.out ⟨HGr.out.of rfl⟩ HQ.out).mono ?_; rintro e w7 ⟨rfl, hb⟩; have XB7 := Aside0.mk (blk_below (Z71) hb); have HB7 := Aside0.mk (show Below wr.heap.size wr w7 from below_step (Z64) hb); clear hb))
         all_goals (go_wp2; go_meet; exact ⟨rfl, rfl, HB7⟩)
        case rest =>
         obtain ⟨rfl, rfl, HB7⟩ := hcut
         have HO7 := Aside0.mk (Kd.R_below HO.out HB7.out)
         have HB8 := Aside0.mk (Below.trans HB.out (HB7.out.mono HB.out.size))
         clear Z0 Z1 Z2 XBr HGr HBw HO HB HB7
         have H := HH.out
         clear HH
         cases q2 with
         | false =>
          rw [if_neg (by simp)] at H
          simp only [Option.some.injEq, Prod.mk.injEq] at H
          obtain ⟨rfl, rfl⟩ := H
          go_wp2
          go_ret2
          exact ⟨by first | rfl | (simp; done), Below.trans HBd.out (HB8.out.mono HBd.out.size)⟩
         | true =>
          rw [if_pos rfl] at H
          by_cases c8 : i < (P.length : Int)
          ·rw [if_pos c8] at H
           have c8b0 := decide_eq_true c8
           have HH := Aside0.mk H
           have h7 : 0 ≤ i := of_eq_true p7
           obtain ⟨go9, co9, eo9, gb9, gl9, -⟩ := Kd.R_form HO7.out (Z46)
           subst eo9
           have GB9 := Aside0.mk gb9
           obtain ⟨hx9, hf9⟩ := Kd.R_celln (⟨#[]⟩ : ByteArray) HO7.out i h7 c8
           have p8 := eq_true c8
           have HP10 := Aside0.mk (Kd.R_putg HO7.out i q1)
           clear H c8 gb9 gl9 h7
           go_wp2_with (first | ((with_reducible refine gate_store (t := 9) (p := 45) rfl ?_); refine store_event (t := 9) (p := 45) (v := ?vo_w11) (w1 := (wc.setCell ⟨go9, i.toNat, none⟩ (.string q1))) ?hg ?ho ?hn ?hr ?_; (case ho => rfl); (case hg => rfl); (case hn => rfl); (case hr => first | (go_simp; done) | (go_simp; rfl)); intro w11 hw; have HO9 := Aside0.mk (show Kd.R Kd.string 9 w11 _ (fun _ => True) (.slice (some ⟨go9, 0, none⟩) P.length co9) (P.set i.toNat q1) from by rw [hw]; exact HP10.out.1); have HB9 := Aside0.mk (show Below _ _ w11 from by rw [hw]; exact below_set HB8.out GB9.out); clear hw))
           go_roundg k1
           case measure => have := HK1.out; omega
           case rel => exact ⟨_, wrap64 (i + 1), (by first | rfl | (simp; done)), HH, ⟨Z59⟩, HO9, HB9⟩
          ·rw [if_neg c8] at H; cases H
      ·rw [if_neg c7] at H; cases H
     ·rw [if_neg c6] at H
      have c6b0 := decide_eq_false c6
      clear c6
      unfold fetchFin at H
      cases hs : strconv_Itoa.f a1 with
      | none => rw [hs] at H; cases H
      | some s =>
       rw [hs] at H
       dsimp only [Option.bind_some] at H
       cases hj : strings_Join.f P (⟨#[32]⟩ : ByteArray) with
       | none => rw [hj] at H; cases H
       | some j =>
        rw [hj] at H
        dsimp only [Option.bind_some] at H
        split at H
        case isFalse => cases H
        rename_i hjs
        cases hn : impl_line.f [(⟨#[42]⟩ : ByteArray), s, (⟨#[70, 69, 84, 67, 72]⟩ : ByteArray), ((⟨#[40]⟩ : ByteArray) ++ j) ++ (⟨#[41]⟩ : ByteArray)] with
        | none => rw [hn] at H; cases H
        | some r =>
         rw [hn] at H
         simp only [Option.bind_some, Option.some.injEq, Prod.mk.injEq] at H
         obtain ⟨rfl, rfl⟩ := H
         obtain ⟨Ap, cp, ep, hcp, hCp⟩ := Kd.R_reads HO.out
         subst ep
         have HCp := Aside0.mk hCp
         have HKp := Aside0.mk hcp
         have HSS := Aside0.mk hs
         have HJJ := Aside0.mk hj
         have HNN := Aside0.mk hn
         have hz1 : (9223372036854775807 < 1 + j.size) = False := eq_false (Z46)
         have hz2 : (9223372036854775807 < 1 + j.size + 1) = False := eq_false (Z46)
         clear hs hj hn hcp hCp hjs
         go_wp2_with (first
          | (go_at_call 27; refine (strconv_Itoa.calls a1 s _ HGr HSS.out).mono ?_; rintro e w8 ⟨rfl, hb⟩; have HB8 := Aside0.mk hb; clear hb)
          | (go_at_call 28; refine (strings_Join.calls Ap cp P (⟨#[32]⟩ : ByteArray) j _ (Kd.C_below HCp.out HB8.out) HKp.out HJJ.out).mono ?_; rintro e w9 ⟨rfl, hb⟩; have HB9 := Aside0.mk (Below.trans HB8.out (hb.mono HB8.out.size)); clear hb)
          | ((with_reducible refine gate_dst (N := 53) rfl ?_); refine Kd.R_lit Kd.string _ 9 ?hg (N := 53) ?hd (xs := ([(⟨#[42]⟩ : ByteArray), s, (⟨#[70, 69, 84, 67, 72]⟩ : ByteArray), ((⟨#[40]⟩ : ByteArray) ++ j) ++ (⟨#[41]⟩ : ByteArray)] : List ByteArray)) (inner := [.string (⟨#[42]⟩ : ByteArray), .string s, .string (⟨#[70, 69, 84, 67, 72]⟩ : ByteArray), .string (((⟨#[40]⟩ : ByteArray) ++ j) ++ (⟨#[41]⟩ : ByteArray))]) (ok := fun _ => True) (okp := fun _ => True) ?hr ?hp (fun _ hk => hk) trivial (Below.refl _ _) (Nat.le_refl _) (by simp) ?_; (case hd => rfl); (case hg => rfl); (case hr => first | (go_simp; done) | (go_simp; rfl)); (case hp => exact (Reps.one (show Kd.M Kd.string _ _ _ (⟨#[42]⟩ : ByteArray) [.string (⟨#[42]⟩ : ByteArray)] from rfl) (Reps.one (show Kd.M Kd.string _ _ _ s [.string s] from rfl) (Reps.one (show Kd.M Kd.string _ _ _ (⟨#[70, 69, 84, 67, 72]⟩ : ByteArray) [.string (⟨#[70, 69, 84, 67, 72]⟩ : ByteArray)] from rfl) (Reps.one (show Kd.M Kd.string _ _ _ (((⟨#[40]⟩ : ByteArray) ++ j) ++ (⟨#[41]⟩ : ByteArray)) [.string (((⟨#[40]⟩ : ByteArray) ++ j) ++ (⟨#[41]⟩ : ByteArray))] from rfl) (Reps.none _ _)))))); intro v53 w10 ho hb hg_ hnew_; obtain ⟨Aq, cq, eq_, hcq, hCq⟩ := Kd.R_reads ho; subst eq_; have HCq := Aside0.mk hCq; have HKq := Aside0.mk hcq; have HB10 := Aside0.mk (Below.trans HB9.out (hb.mono HB9.out.size)); clear hg_ hnew_ ho hb hcq hCq)
          | (go_at_call 26; refine (impl_line.calls Aq cq _ r _ HCq.out HKq.out HNN.out).mono ?_; rintro e w11 ⟨rfl, hb⟩; have HB11 := Aside0.mk (Below.trans HB10.out (hb.mono HB10.out.size)); clear hb))
         go_ret2
         exact ⟨by first | rfl | (simp; done), Below.trans HBw.out (HB11.out.mono HBw.out.size)⟩

-- EXTERNAL: function 16 (impl_sees)
/-! Whether items make a mail seen. -/
def impl_sees.f (l : List S48) : Option Bool := if l.length ≤ 1099511627776 then some (l.any seesB) else none
theorem impl_sees.calls (A0 : Option Addr) (c0 : Nat) (l0 : List S48) (r : Bool) (w : World) (hr0 : Kd.C k48 w A0 l0.length l0) (hc0 : l0.length ≤ c0) (h : impl_sees.f l0 = some r) :
  Calls Tryz.prog 16 #[.slice A0 l0.length c0] w fun e w' => e = .returned (.bool r) ∧ Below w.heap.size w w' := by
 unfold impl_sees.f at h
 split at h
 ·rename_i hl
  cases h
  have HC := Aside0.mk hr0
  clear hr0
  go_enter Tryz.func16, Tryz.ntmps16
  go_wp2_with (go_at_call 23; refine (hasSees A0 c0 l0 w HC.out hl).mono ?_; rintro e w' ⟨rfl, hb'⟩)
  go_ret
  exact ⟨rfl, hb'⟩
 ·cases h

end Go.Proofs.YtcmnndnigjkldaaGreatDoor.PFnExactFetchText
