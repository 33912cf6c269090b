/- Contracts of functions that a statement reaches (wip/x/xprint.py, short.py, compact.py). -/
import Derived.Test.YtbikfhccfenkdaaPFnExactEngineOKx0
namespace Go.Proofs.Ytbikfhccfenkdaa.PFnExactEngineOK
open Go.RowKit Go.Proofs.YtbikfhccfenkdaaW.PrintWords Go.Proofs.YtbikfhccfenkdaaW.PrintLast Go.Proofs.YtbikfhccfenkdaaW.PrintMore Go.Proofs.Ytbikfhccfenkdaa.Mac
attribute [local go_sem] max2_int min2_int max_two min_two max_three min_three max_four min_four
set_option linter.unusedVariables false
set_option linter.unusedSimpArgs false

-- EXTERNAL: function 36 (impl_boxIndex)
def idxN (u : ByteArray) : List S59 → Int → Int
 | [], _ => -1
 | m :: r, i => if m.f0.toList = u.toList then i else idxN u r (i + 1)
theorem rdBox (l : List S59) (k : Nat) (h : k < l.length) : rd_T59 l (k : Int) = l[k] := by unfold rd_T59; simp [List.getD, List.getElem?_eq_getElem h]
theorem idxN_drop (u : ByteArray) (l : List S59) (k : Nat) (h : k < l.length) : idxN u (l.drop k) k = if (rd_T59 l (k : Int)).f0.toList = u.toList then (k : Int) else idxN u (l.drop (k + 1)) ((k + 1 : Nat) : Int) := by
 rw [List.drop_eq_getElem_cons h, idxN, rdBox l k h]; rfl
theorem boxIs (n : ByteArray) (x y : Int) (v1 v2 : Value) (B : Nat) (u : ByteArray) (w : World) (hB : B < w.heap.size) (hc : w.cell? ⟨B, 0, none⟩ = some (.string u)) :
  Calls Try.prog 63 #[.agg #[.string n, .int .i64 x, .int .i64 y, v1, v2], .pointer (some ⟨B, 0, none⟩)] w fun e w' => e = .returned (.bool (n.toList == u.toList)) ∧ Below w.heap.size w w' := by
 have hc2 : ∀ o, (w.alloc o).cell? ⟨B, 0, none⟩ = some (.string u) := fun o => (World.cell?_alloc_past _ _ _ hB).trans hc
 go_enter Try.func63, Try.ntmps63
 go_wp2
 go_ret
 exact ⟨by first | rfl | (simp; done) | (simp [*]; done), Z6⟩
set_option maxHeartbeats 8000000 in
set_option maxRecDepth 100000 in
theorem boxsIndex (A : Option Addr) (c : Nat) (l : List S59) (u : ByteArray) (B : Nat) (w : World) (hC : Kd.C k59 w A l.length l) (hB : B < w.heap.size) (hc : w.cell? ⟨B, 0, none⟩ = some (.string u)) (hl : l.length ≤ 1099511627776) :
  Calls Try.prog 62 #[.slice A l.length c, .func (.func 63) #[] #[.pointer (some ⟨B, 0, none⟩)]] w fun e w' => e = .returned (.int .i64 (idxN u l 0)) ∧ Below w.heap.size w w' := by
 have eg := enters_of Try.func63 (Z24) rfl
 have HC := Aside0.mk hC
 have HQ := Aside0.mk hc
 clear hC hc
 go_enter Try.func62, Try.ntmps62
 go_wp2
 go_loopg [5, 8] l.length (fun gg _ s8 wr => ∃ kk : Nat, kk ≤ l.length ∧ l.length - kk ≤ gg ∧ s8 = .int .i64 kk ∧ Aside0 (Below w.heap.size w wr) ∧ Aside0 (idxN u l 0 = idxN u (l.drop kk) kk))
 case atStart => exact ⟨0, Nat.zero_le _, Z43, rfl, ⟨Below.refl _ w⟩, ⟨rfl⟩⟩
 case round =>
  obtain ⟨kk, hkk, hg, rfl, BW, AI⟩ := hrel
  by_cases hlt : kk < l.length
  ·have hltz : (kk : Int) < (l.length : Int) := by omega
   have h0 : 0 ≤ (kk : Int) := by omega
   obtain ⟨ad, A3, c3, A4, c4, e, hx0, hx1, hx2, hx3, hx4, -⟩ := at_T59 HC.out kk h0 hltz
   cases e
   simp only [Int.toNat_natCast] at hx0 hx1 hx2 hx3 hx4
   replace hx0 := (BW.out.cell (World.block_lt_of_cell? w _ hx0)).trans hx0
   replace hx1 := (BW.out.cell (World.block_lt_of_cell? w _ hx1)).trans hx1
   replace hx2 := (BW.out.cell (World.block_lt_of_cell? w _ hx2)).trans hx2
   replace hx3 := (BW.out.cell (World.block_lt_of_cell? w _ hx3)).trans hx3
   replace hx4 := (BW.out.cell (World.block_lt_of_cell? w _ hx4)).trans hx4
   have hstep := idxN_drop u l kk hlt
   have hcall := boxIs (rd_T59 l (kk : Int)).f0 (rd_T59 l (kk : Int)).f1 (rd_T59 l (kk : Int)).f2 (.slice A3 (rd_T59 l (kk : Int)).f3.length c3) (.slice A4 (rd_T59 l (kk : Int)).f4.length c4) B u wr (Nat.lt_of_lt_of_le hB BW.out.size) ((BW.out.cell (p := ⟨B, 0, none⟩) hB).trans HQ.out)
   by_cases hq : (rd_T59 l (kk : Int)).f0.toList = u.toList
   ·rw [if_pos hq] at hstep
    rw [show ((rd_T59 l (kk : Int)).f0.toList == u.toList) = true from beq_iff_eq.mpr hq] at hcall
    have HS := Aside0.mk hstep
    clear hstep hq
    go_wp2_with (go_at_call 63; refine hcall.mono ?_; rintro e w' ⟨rfl, hb'⟩)
    go_ret
    exact ⟨by rw [AI.out, HS.out]; rfl, Below.trans BW.out (hb'.mono BW.out.size)⟩
   ·rw [if_neg hq] at hstep
    rw [show ((rd_T59 l (kk : Int)).f0.toList == u.toList) = false from beq_eq_false_iff_ne.mpr hq] at hcall
    have HS := Aside0.mk hstep
    clear hstep hq
    go_wp2_with (go_at_call 63; refine hcall.mono ?_; rintro e w' ⟨rfl, hb'⟩)
    go_roundg (l.length - (kk + 1))
    case measure => omega
    case rel => exact ⟨kk + 1, Z43, Z43, by go_num, ⟨Below.trans BW.out (hb'.mono BW.out.size)⟩, ⟨AI.out.trans HS.out⟩⟩
  ·have hltz : ¬ (kk : Int) < (l.length : Int) := by omega
   obtain rfl : kk = l.length := by omega
   go_wp2
   go_ret
   exact ⟨Z145, BW.out⟩
def impl_boxIndex.f (l0 : List S59) (a1 : ByteArray) : Option Int := if l0.length ≤ 1099511627776 then some (idxN a1 l0 0) else none
set_option maxHeartbeats 8000000 in
set_option maxRecDepth 100000 in
theorem impl_boxIndex.calls (A0 : Option Addr) (c0 : Nat) (l0 : List S59) (a1 : ByteArray) (r : Int) (w : World) (hr0 : Kd.C k59 w A0 l0.length l0) (hc0 : l0.length ≤ c0) (h : impl_boxIndex.f l0 a1 = some r) :
  Calls Try.prog 36 #[.slice A0 l0.length c0, .string a1] w fun e w' => e = .returned (.int .i64 r) ∧ Below w.heap.size w w' := by
 unfold impl_boxIndex.f at h
 by_cases hl : l0.length ≤ 1099511627776
 ·rw [if_pos hl] at h
  simp only [Option.some.injEq] at h
  subst h
  have HC := Aside0.mk (Kd.C_alloc hr0 (.cells #[.string a1] 9))
  clear hr0
  go_enter Try.func36, Try.ntmps36
  go_wp2_with (go_at_call 62; refine (boxsIndex A0 c0 l0 a1 w.heap.size _ HC.out (Z124) (by simp [go_sem]) hl).mono ?_; rintro e w' ⟨rfl, hb'⟩)
  go_ret
  exact ⟨rfl, Below.trans (Below.alloc (Below.refl _ _) (Nat.le_refl _) _) (hb'.mono (Z124))⟩
 ·rw [if_neg hl] at h; cases h

/-! ### slices_Index_string_string: function 82 -/
def slices_Index_string_string.l0 : Nat → List ByteArray → ByteArray → Int → Int → Option (Int)
 | 0, _, _, _, _ => none
 | k + 1, x0, x1, x7, x8 => if x8 < x7 then (if 0 ≤ x8 then (if x8 < (x0.length : Int) then (if x1.toList = (rdOf ByteArray.empty x0 x8).toList then (some x8) else (slices_Index_string_string.l0 k x0 x1 x7 (wrap64 (x8 + 1)))) else (none)) else (none)) else (some (-1))
def slices_Index_string_string.f (k : Nat) (l0 : List ByteArray) (a1 : ByteArray) : Option (Int) := slices_Index_string_string.l0 k l0 a1 (l0.length : Int) 0
theorem slices_Index_string_string.mono_l : ∀ k, (∀ y0 y1 y2 y3, LeO (slices_Index_string_string.l0 k y0 y1 y2 y3) (slices_Index_string_string.l0 (k + 1) y0 y1 y2 y3))
 | 0 => fun _ _ _ _ r h => by simp [slices_Index_string_string.l0] at h
 | k + 1 => by
  have ih0 := slices_Index_string_string.mono_l k
  ·intro y0 y1 y2 y3
   unfold slices_Index_string_string.l0
   exact tM
theorem slices_Index_string_string.mono : ∀ a0 a1 k, LeO (slices_Index_string_string.f k a0 a1) (slices_Index_string_string.f (k + 1) a0 a1) := by
 intro a0 a1 k
 have ih0 := slices_Index_string_string.mono_l k
 unfold slices_Index_string_string.f
 exact tM
set_option maxHeartbeats 40000000 in
set_option maxRecDepth 100000 in
theorem slices_Index_string_string.calls (k : Nat) (A0 : Option Addr) (c0 : Nat) (l0 : List ByteArray) (a1 : ByteArray) (r : Int) (w : World) (hr0 : Kd.C Kd.string w A0 l0.length l0) (hc0 : l0.length ≤ c0) (h : slices_Index_string_string.f k l0 a1 = some r) :
  Calls Try.prog 82 #[.slice A0 l0.length c0, .string a1] w fun e w' => e = .returned (.int .i64 r) ∧ Drawn0 w w' := by
 have HR0 := Aside0.mk hr0
 have HC0 := Aside0.mk hc0
 clear hr0 hc0
 have H : (slices_Index_string_string.l0 k l0 a1 (l0.length : Int) 0) = some r := h
 clear h
 have H' := Aside0.mk H
 clear H
 go_enter Try.func82, Try.ntmps82
 go_wp2
 go_loopg [8] k (fun kq v8 w' => ∃ (x8_1 : Int), v8 = .int .i64 x8_1 ∧ Aside0 (slices_Index_string_string.l0 kq l0 a1 (l0.length : Int) x8_1 = some r) ∧ Aside0 (kq ≤ k) ∧ Drawn0 w w')
 case atStart => exact ⟨(0), (Z3), H', ⟨Nat.le_refl _⟩, Z13⟩
 case round =>
  clear H'
  obtain ⟨x8_1, rfl, HA, HK1, ⟨m1, rfl⟩⟩ := hrel
  cases gk with
  | zero => exact absurd HA.out (by simp [slices_Index_string_string.l0])
  | succ k1 =>
   have H := HA.out
   clear HA
   simp only [slices_Index_string_string.l0] at H
   by_cases c3 : x8_1 < (l0.length : Int)
   ·rw [if_pos c3] at H
    have c3b0 := decide_eq_true c3
    clear c3
    obtain ⟨c4, H⟩ := ifS H
    have c4b0 : decide (0 ≤ x8_1) = true := decide_eq_true c4
    clear c4
    obtain ⟨c5, H⟩ := ifS H
    have c5b0 : decide (x8_1 < (l0.length : Int)) = true := decide_eq_true c5
    clear c5
    by_cases c6 : a1.toList = (rdOf ByteArray.empty l0 x8_1).toList
    ·rw [if_pos c6] at H
     have c6b0 := beq_iff_eq.mpr c6
     have c6b1 := bne_eq_false_iff_eq.mpr c6
     clear c6
     obtain rfl := Option.some.inj H
     have p176 : 0 ≤ (x8_1 : Int) := of_decide_eq_true (Z4)
     have q176 : x8_1 < (l0.length : Int) := of_decide_eq_true (Z4)
     obtain ⟨ad176, e176, hx176_0⟩ := Kd.at_string HR0.out x8_1 p176 q176
     cases e176
     replace p176 := eq_true p176
     replace q176 := eq_true q176
     go_wp2
     go_ret
     exact ⟨Z3, Z13⟩
    ·rw [if_neg c6] at H
     have c6b0 := beq_eq_false_iff_ne.mpr c6
     have c6b1 := bne_iff_ne.mpr c6
     have H' := Aside0.mk H
     clear H
     have p176 : 0 ≤ (x8_1 : Int) := of_decide_eq_true (Z4)
     have q176 : x8_1 < (l0.length : Int) := of_decide_eq_true (Z4)
     obtain ⟨ad176, e176, hx176_0⟩ := Kd.at_string HR0.out x8_1 p176 q176
     cases e176
     replace p176 := eq_true p176
     replace q176 := eq_true q176
     go_wp2
     go_roundg k1
     case measure => have := HK1.out; omega
     case rel => exact ⟨(wrap64 (x8_1 + 1)), (Z3), H', ⟨Z110⟩, Z13⟩
   ·rw [if_neg c3] at H
    have c3b0 := decide_eq_false c3
    clear c3
    obtain rfl := Option.some.inj H
    go_wp2
    go_ret
    exact ⟨Z3, Z13⟩

/-! ### slices_Contains_string_string: function 61 -/
def slices_Contains_string_string.f (k : Nat) (l0 : List ByteArray) (a1 : ByteArray) : Option (Bool) := (slices_Index_string_string.f k l0 a1).bind fun t177 => (some (decide (t177 ≥ 0)))
theorem slices_Contains_string_string.mono : ∀ a0 a1 k, LeO (slices_Contains_string_string.f k a0 a1) (slices_Contains_string_string.f (k + 1) a0 a1) := by
 intro a0 a1 k
 unfold slices_Contains_string_string.f
 have m0 := @slices_Index_string_string.mono
 exact tM
set_option maxHeartbeats 40000000 in
set_option maxRecDepth 100000 in
theorem slices_Contains_string_string.calls (k : Nat) (A0 : Option Addr) (c0 : Nat) (l0 : List ByteArray) (a1 : ByteArray) (r : Bool) (w : World) (hr0 : Kd.C Kd.string w A0 l0.length l0) (hc0 : l0.length ≤ c0) (h : slices_Contains_string_string.f k l0 a1 = some r) :
  Calls Try.prog 61 #[.slice A0 l0.length c0, .string a1] w fun e w' => e = .returned (.bool r) ∧ Drawn0 w w' := by
 have HR0 := Aside0.mk hr0
 have HC0 := Aside0.mk hc0
 clear hr0 hc0
 have H : ((slices_Index_string_string.f k l0 a1).bind fun t177 => (some (decide (t177 ≥ 0)))) = some r := h
 clear h
 obtain ⟨t177, A3, H⟩ := bindA H
 try dsimp only at H
 obtain rfl := Option.some.inj H
 go_enter Try.func61, Try.ntmps61
 go_wp2_with (first | ((with_reducible refine gate_callee (f := 82) rfl ?_); refine goesL_ (some 7) rfl rfl Try.func82 (Z24) rfl #[.slice A0 l0.length c0, .string a1] rfl (Z1) ?_; (with_reducible refine (slices_Index_string_string.calls k _ _ l0 a1 t177 _ ?side1 ?side2 A3.out).mono ?_); (case side1 => repeat (first | exact HR0.out | (with_reducible refine Kd.C_alloc ?_ _) | (with_reducible refine Kd.C_drewN ?_ _) | (with_reducible refine Kd.C_drew ?_))); (case side2 => exact HC0.out); rintro e w' ⟨rfl, ⟨nd, rfl⟩⟩; refine ⟨_, rfl, ?_⟩))
 go_ret
 exact ⟨Z3, Z13⟩

/-! ### impl_within: function 34 -/
def impl_within.f (a0 : Int) (a1 : Int) (a2 : Int) : Option (Bool) := if a0 ≥ a1 then (some (decide (a0 ≤ a2))) else (some false)
set_option maxHeartbeats 40000000 in
set_option maxRecDepth 100000 in
theorem impl_within.calls (a0 : Int) (a1 : Int) (a2 : Int) (r : Bool) (w : World) (h : impl_within.f a0 a1 a2 = some r) :
  Calls Try.prog 34 #[.int .i64 a0, .int .i64 a1, .int .i64 a2] w fun e w' => e = .returned (.bool r) ∧ Drawn0 w w' := by
 have H : (if a0 ≥ a1 then (some (decide (a0 ≤ a2))) else (some false)) = some r := h
 clear h
 by_cases c4 : a0 ≥ a1
 ·rw [if_pos c4] at H
  have c4b0 : decide (a1 ≤ a0) = true := decide_eq_true c4
  clear c4
  obtain rfl := Option.some.inj H
  go_enter Try.func34, Try.ntmps34
  go_wp2
  go_ret
  exact ⟨Z3, Z13⟩
 ·rw [if_neg c4] at H
  have c4b0 : decide (a1 ≤ a0) = false := decide_eq_false c4
  clear c4
  obtain rfl := Option.some.inj H
  go_enter Try.func34, Try.ntmps34
  go_wp2
  go_ret
  exact ⟨Z3, Z13⟩

/-! ### impl_isDigit: function 80 -/
def impl_isDigit.f (a0 : Int) : Option (Bool) := if a0 ≥ 48 then (some (decide (a0 ≤ 57))) else (some false)
set_option maxHeartbeats 40000000 in
set_option maxRecDepth 100000 in
theorem impl_isDigit.calls (a0 : Int) (r : Bool) (w : World) (h : impl_isDigit.f a0 = some r) :
  Calls Try.prog 80 #[.int .u8 a0] w fun e w' => e = .returned (.bool r) ∧ Drawn0 w w' := by
 have H : (if a0 ≥ 48 then (some (decide (a0 ≤ 57))) else (some false)) = some r := h
 clear h
 by_cases c2 : a0 ≥ 48
 ·rw [if_pos c2] at H
  have c2b0 : decide (48 ≤ a0) = true := decide_eq_true c2
  clear c2
  obtain rfl := Option.some.inj H
  go_enter Try.func80, Try.ntmps80
  go_wp2
  go_ret
  exact ⟨Z3, Z13⟩
 ·rw [if_neg c2] at H
  have c2b0 : decide (48 ≤ a0) = false := decide_eq_false c2
  clear c2
  obtain rfl := Option.some.inj H
  go_enter Try.func80, Try.ntmps80
  go_wp2
  go_ret
  exact ⟨Z3, Z13⟩

/-! ### impl_isLetter: function 81 -/
def impl_isLetter.f (a0 : Int) : Option (Bool) := if a0 ≥ 97 then (if a0 ≤ 122 then (some true) else (if a0 ≥ 65 then (some (decide (a0 ≤ 90))) else (some false))) else (if a0 ≥ 65 then (some (decide (a0 ≤ 90))) else (some false))
set_option maxHeartbeats 40000000 in
set_option maxRecDepth 100000 in
theorem impl_isLetter.calls (a0 : Int) (r : Bool) (w : World) (h : impl_isLetter.f a0 = some r) :
  Calls Try.prog 81 #[.int .u8 a0] w fun e w' => e = .returned (.bool r) ∧ Drawn0 w w' := by
 have H : (if a0 ≥ 97 then (if a0 ≤ 122 then (some true) else (if a0 ≥ 65 then (some (decide (a0 ≤ 90))) else (some false))) else (if a0 ≥ 65 then (some (decide (a0 ≤ 90))) else (some false))) = some r := h
 clear h
 by_cases c2 : a0 ≥ 97
 ·rw [if_pos c2] at H
  have c2b0 : decide (97 ≤ a0) = true := decide_eq_true c2
  clear c2
  by_cases c3 : a0 ≤ 122
  ·rw [if_pos c3] at H
   have c3b0 := decide_eq_true c3
   clear c3
   obtain rfl := Option.some.inj H
   go_enter Try.func81, Try.ntmps81
   go_wp2
   go_ret
   exact ⟨Z3, Z13⟩
  ·rw [if_neg c3] at H
   have c3b0 := decide_eq_false c3
   clear c3
   by_cases c4 : a0 ≥ 65
   ·rw [if_pos c4] at H
    have c4b0 : decide (65 ≤ a0) = true := decide_eq_true c4
    clear c4
    obtain rfl := Option.some.inj H
    go_enter Try.func81, Try.ntmps81
    go_wp2
    go_ret
    exact ⟨Z3, Z13⟩
   ·rw [if_neg c4] at H
    have c4b0 : decide (65 ≤ a0) = false := decide_eq_false c4
    clear c4
    obtain rfl := Option.some.inj H
    go_enter Try.func81, Try.ntmps81
    go_wp2
    go_ret
    exact ⟨Z3, Z13⟩
 ·rw [if_neg c2] at H
  have c2b0 : decide (97 ≤ a0) = false := decide_eq_false c2
  clear c2
  by_cases c5 : a0 ≥ 65
  ·rw [if_pos c5] at H
   have c5b0 : decide (65 ≤ a0) = true := decide_eq_true c5
   clear c5
   obtain rfl := Option.some.inj H
   go_enter Try.func81, Try.ntmps81
   go_wp2
   go_ret
   exact ⟨Z3, Z13⟩
  ·rw [if_neg c5] at H
   have c5b0 : decide (65 ≤ a0) = false := decide_eq_false c5
   clear c5
   obtain rfl := Option.some.inj H
   go_enter Try.func81, Try.ntmps81
   go_wp2
   go_ret
   exact ⟨Z3, Z13⟩

/-! ### impl_NameOK: function 59 -/
mutual
def impl_NameOK.j0 : Nat → ByteArray → Bool → Option (Bool)
 | 0, _, _ => none
 | k + 1, x0, x12 => if x12 = true then (some false) else (impl_NameOK.l0 k x0 (x0.size : Int) 0)
def impl_NameOK.l0 : Nat → ByteArray → Int → Int → Option (Bool)
 | 0, _, _, _ => none
 | k + 1, x0, x14, x15 => if x15 < x14 then (if 0 ≤ x15 then (if x15 < (x0.size : Int) then ((impl_isLetter.f (bt x0 x15)).bind fun t180 => (if t180 = true then (impl_NameOK.l0 k x0 x14 (wrap64 (x15 + 1))) else ((impl_isDigit.f (bt x0 x15)).bind fun t181 => (if t181 = true then (impl_NameOK.l0 k x0 x14 (wrap64 (x15 + 1))) else (if (bt x0 x15) = 95 then (impl_NameOK.l0 k x0 x14 (wrap64 (x15 + 1))) else (some false)))))) else (none)) else (none)) else (some true)
end
def impl_NameOK.f (k : Nat) (a0 : ByteArray) : Option (Bool) := (impl_within.f (a0.size : Int) 1 40).bind fun t178 => (if t178 = true then (if 0 < (a0.size : Int) then ((impl_isDigit.f (bt a0 0)).bind fun t179 => (impl_NameOK.j0 k a0 t179)) else (none)) else (impl_NameOK.j0 k a0 true))
theorem impl_NameOK.mono_l : ∀ k, (∀ y0 y1, LeO (impl_NameOK.j0 k y0 y1) (impl_NameOK.j0 (k + 1) y0 y1)) ∧ (∀ y0 y1 y2, LeO (impl_NameOK.l0 k y0 y1 y2) (impl_NameOK.l0 (k + 1) y0 y1 y2))
 | 0 => ⟨fun _ _ r h => by simp [impl_NameOK.j0] at h, fun _ _ _ r h => by simp [impl_NameOK.l0] at h⟩
 | k + 1 => by
  obtain ⟨ih0, ih1⟩ := impl_NameOK.mono_l k
  refine ⟨?_, ?_⟩
  ·intro y0 y1
   unfold impl_NameOK.j0
   exact tM
  ·intro y0 y1 y2
   unfold impl_NameOK.l0
   exact tM
theorem impl_NameOK.mono : ∀ a0 k, LeO (impl_NameOK.f k a0) (impl_NameOK.f (k + 1) a0) := by
 intro a0 k
 obtain ⟨ih0, ih1⟩ := impl_NameOK.mono_l k
 unfold impl_NameOK.f
 exact tM
set_option maxHeartbeats 40000000 in
set_option maxRecDepth 100000 in
theorem impl_NameOK.calls (k : Nat) (a0 : ByteArray) (r : Bool) (w : World) (h : impl_NameOK.f k a0 = some r) :
  Calls Try.prog 59 #[.string a0] w fun e w' => e = .returned (.bool r) ∧ Drawn0 w w' := by
 have H : ((impl_within.f (a0.size : Int) 1 40).bind fun t178 => (if t178 = true then (if 0 < (a0.size : Int) then ((impl_isDigit.f (bt a0 0)).bind fun t179 => (impl_NameOK.j0 k a0 t179)) else (none)) else (impl_NameOK.j0 k a0 true))) = some r := h
 clear h
 have HC2 := Aside0.mk H
 clear H
 go_enter Try.func59, Try.ntmps59
 go_upto_region 1 with (fail)
 go_cut [12] (fun v12 wc => ∃ (kq : Nat) (x12_1 : Bool), v12 = .bool x12_1 ∧ Aside0 (impl_NameOK.j0 kq a0 x12_1 = some r) ∧ Aside0 (kq ≤ k) ∧ Drawn0 w wc)
 case first =>
  have H := HC2.out
  clear HC2
  obtain ⟨t178, A3, H⟩ := bindA H
  try dsimp only at H
  by_cases c4 : t178 = true
  ·subst c4
   replace H := ifT H
   obtain ⟨c5, H⟩ := ifS H
   have c5b0 : decide (0 < (a0.size : Int)) = true := decide_eq_true c5
   have c5b1 : decide (0 < a0.size) = true := decide_eq_true (Z43)
   clear c5
   (first | rw [c5b0] | rw [c5b1] | (simp only [i64_w, i32_w]; rw [c5b0]) | skip)
   obtain ⟨t179, A7, H⟩ := bindA H
   try dsimp only at H
   have H' := Aside0.mk H
   clear H
   go_wp2_with (first | ((with_reducible refine gate_callee (f := 34) rfl ?_); refine goesL_ (some 6) rfl rfl Try.func34 (Z24) rfl #[.int .i64 (a0.size : Int), .int .i64 1, .int .i64 40] rfl (Z1) ?_; (with_reducible refine (impl_within.calls (a0.size : Int) 1 40 true _ A3.out).mono ?_); rintro e w' ⟨rfl, ⟨nd, rfl⟩⟩; refine ⟨_, rfl, ?_⟩; have p6 : 0 ≤ (0 : Int) := (Z43); have q6 : 0 < a0.size := (by have : (0 : Int) < (a0.size : Int) := of_decide_eq_true (Z4); omega); have hx6 : ∀ h : 0 < a0.size, ((a0[0]'h).toNat : Int) = bt a0 0 := bt_at a0 0; clear p6; have qi6 : (0 < (a0.size : Int)) = True := eq_true (of_decide_eq_true (Z4)); replace q6 := eq_true q6) | (go_at_call 80; (with_reducible refine (impl_isDigit.calls (bt a0 0) t179 _ A7.out).mono ?_); rintro e w' ⟨rfl, ⟨nd, rfl⟩⟩))
   go_meet
   case rel => exact ⟨_, (t179), (Z3), H', ⟨Z74⟩, Z13⟩
  ·replace c4 := Bool.eq_false_iff.mpr c4
   subst c4
   replace H := ifF H
   have H' := Aside0.mk H
   clear H
   go_wp2_with (first | ((with_reducible refine gate_callee (f := 34) rfl ?_); refine goesL_ (some 6) rfl rfl Try.func34 (Z24) rfl #[.int .i64 (a0.size : Int), .int .i64 1, .int .i64 40] rfl (Z1) ?_; (with_reducible refine (impl_within.calls (a0.size : Int) 1 40 false _ A3.out).mono ?_); rintro e w' ⟨rfl, ⟨nd, rfl⟩⟩; refine ⟨_, rfl, ?_⟩))
   go_meet
   case rel => exact ⟨_, (true), (Z3), H', ⟨Z74⟩, Z13⟩
 case rest =>
  clear HC2
  obtain ⟨kq, x12_1, rfl, HA, HJ1, ⟨mc1, rfl⟩⟩ := hcut
  cases kq with
  | zero => exact absurd HA.out (by simp [impl_NameOK.j0])
  | succ kj1 =>
   have H := HA.out
   clear HA
   simp only [impl_NameOK.j0] at H
   by_cases c8 : x12_1 = true
   ·subst c8
    replace H := ifT H
    obtain rfl := Option.some.inj H
    go_wp2
    go_ret
    exact ⟨Z3, Z13⟩
   ·replace c8 := Bool.eq_false_iff.mpr c8
    subst c8
    replace H := ifF H
    have H' := Aside0.mk H
    clear H
    go_wp2
    go_loopg [15] kj1 (fun kq v15 w' => ∃ (x15_2 : Int), v15 = .int .i64 x15_2 ∧ Aside0 (impl_NameOK.l0 kq a0 (a0.size : Int) x15_2 = some r) ∧ Aside0 (kq ≤ kj1) ∧ Drawn0 w w')
    case atStart => exact ⟨(0), (Z3), H', ⟨Nat.le_refl _⟩, Z13⟩
    case round =>
     clear H'
     (try clear c8)
     obtain ⟨x15_2, rfl, HA, HK2, ⟨m2, rfl⟩⟩ := hrel
     cases gk with
     | zero => exact absurd HA.out (by simp [impl_NameOK.l0])
     | succ k2 =>
      have H := HA.out
      clear HA
      simp only [impl_NameOK.l0] at H
      by_cases c9 : x15_2 < (a0.size : Int)
      ·rw [if_pos c9] at H
       have c9b0 := decide_eq_true c9
       clear c9
       obtain ⟨c10, H⟩ := ifS H
       have c10b0 : decide (0 ≤ x15_2) = true := decide_eq_true c10
       clear c10
       obtain ⟨c11, H⟩ := ifS H
       have c11b0 : decide (x15_2 < (a0.size : Int)) = true := decide_eq_true c11
       clear c11
       obtain ⟨t180, A13, H⟩ := bindA H
       try dsimp only at H
       by_cases c14 : t180 = true
       ·subst c14
        replace H := ifT H
        have H' := Aside0.mk H
        clear H
        have p12 : 0 ≤ (x15_2 : Int) := of_decide_eq_true (Z4)
        have q12 : x15_2 < (a0.size : Int) := of_decide_eq_true (Z4)
        have hx12 := bt_at a0 x15_2
        replace p12 := eq_true p12
        replace q12 := eq_true q12
        go_wp2_with (first | ((with_reducible refine gate_callee (f := 81) rfl ?_); refine goesL_ (some 21) rfl rfl Try.func81 (Z24) rfl #[.int .u8 (bt a0 x15_2)] rfl (Z1) ?_; (with_reducible refine (impl_isLetter.calls (bt a0 x15_2) true _ A13.out).mono ?_); rintro e w' ⟨rfl, ⟨nd, rfl⟩⟩; refine ⟨_, rfl, ?_⟩))
        go_roundg k2
        case measure => have := HJ1.out; have := HK2.out; omega
        case rel => exact ⟨(wrap64 (x15_2 + 1)), (Z3), H', ⟨Z126⟩, Z13⟩
       ·replace c14 := Bool.eq_false_iff.mpr c14
        subst c14
        replace H := ifF H
        obtain ⟨t181, A16, H⟩ := bindA H
        try dsimp only at H
        by_cases c17 : t181 = true
        ·subst c17
         replace H := ifT H
         have H' := Aside0.mk H
         clear H
         have p12 : 0 ≤ (x15_2 : Int) := of_decide_eq_true (Z4)
         have q12 : x15_2 < (a0.size : Int) := of_decide_eq_true (Z4)
         have hx12 := bt_at a0 x15_2
         replace p12 := eq_true p12
         replace q12 := eq_true q12
         go_wp2_with (first | ((with_reducible refine gate_callee (f := 81) rfl ?_); refine goesL_ (some 21) rfl rfl Try.func81 (Z24) rfl #[.int .u8 (bt a0 x15_2)] rfl (Z1) ?_; (with_reducible refine (impl_isLetter.calls (bt a0 x15_2) false _ A13.out).mono ?_); rintro e w' ⟨rfl, ⟨nd, rfl⟩⟩; refine ⟨_, rfl, ?_⟩; have p15 : 0 ≤ (x15_2 : Int) := of_decide_eq_true (Z4); have q15 : x15_2 < (a0.size : Int) := of_decide_eq_true (Z4); have hx15 := bt_at a0 x15_2; replace p15 := eq_true p15; replace q15 := eq_true q15) | (go_at_call 80; (with_reducible refine (impl_isDigit.calls (bt a0 x15_2) true _ A16.out).mono ?_); rintro e w' ⟨rfl, ⟨nd, rfl⟩⟩))
         go_roundg k2
         case measure => have := HJ1.out; have := HK2.out; omega
         case rel => exact ⟨(wrap64 (x15_2 + 1)), (Z3), H', ⟨Z126⟩, Z13⟩
        ·replace c17 := Bool.eq_false_iff.mpr c17
         subst c17
         replace H := ifF H
         by_cases c19 : (bt a0 x15_2) = 95
         ·rw [if_pos c19] at H
          have c19b0 := beq_iff_eq.mpr c19
          have c19b1 := bne_eq_false_iff_eq.mpr c19
          clear c19
          have H' := Aside0.mk H
          clear H
          have p12 : 0 ≤ (x15_2 : Int) := of_decide_eq_true (Z4)
          have q12 : x15_2 < (a0.size : Int) := of_decide_eq_true (Z4)
          have hx12 := bt_at a0 x15_2
          replace p12 := eq_true p12
          replace q12 := eq_true q12
          go_wp2_with (first | ((with_reducible refine gate_callee (f := 81) rfl ?_); refine goesL_ (some 21) rfl rfl Try.func81 (Z24) rfl #[.int .u8 (bt a0 x15_2)] rfl (Z1) ?_; (with_reducible refine (impl_isLetter.calls (bt a0 x15_2) false _ A13.out).mono ?_); rintro e w' ⟨rfl, ⟨nd, rfl⟩⟩; refine ⟨_, rfl, ?_⟩; have p15 : 0 ≤ (x15_2 : Int) := of_decide_eq_true (Z4); have q15 : x15_2 < (a0.size : Int) := of_decide_eq_true (Z4); have hx15 := bt_at a0 x15_2; replace p15 := eq_true p15; replace q15 := eq_true q15) | (go_at_call 80; (with_reducible refine (impl_isDigit.calls (bt a0 x15_2) false _ A16.out).mono ?_); rintro e w' ⟨rfl, ⟨nd, rfl⟩⟩; have p18 : 0 ≤ (x15_2 : Int) := of_decide_eq_true (Z4); have q18 : x15_2 < (a0.size : Int) := of_decide_eq_true (Z4); have hx18 := bt_at a0 x15_2; replace p18 := eq_true p18; replace q18 := eq_true q18))
          go_roundg k2
          case measure => have := HJ1.out; have := HK2.out; omega
          case rel => exact ⟨(wrap64 (x15_2 + 1)), (Z3), H', ⟨Z126⟩, Z13⟩
         ·rw [if_neg c19] at H
          have c19b0 := beq_eq_false_iff_ne.mpr c19
          have c19b1 := bne_iff_ne.mpr c19
          obtain rfl := Option.some.inj H
          have p12 : 0 ≤ (x15_2 : Int) := of_decide_eq_true (Z4)
          have q12 : x15_2 < (a0.size : Int) := of_decide_eq_true (Z4)
          have hx12 := bt_at a0 x15_2
          replace p12 := eq_true p12
          replace q12 := eq_true q12
          go_wp2_with (first | ((with_reducible refine gate_callee (f := 81) rfl ?_); refine goesL_ (some 21) rfl rfl Try.func81 (Z24) rfl #[.int .u8 (bt a0 x15_2)] rfl (Z1) ?_; (with_reducible refine (impl_isLetter.calls (bt a0 x15_2) false _ A13.out).mono ?_); rintro e w' ⟨rfl, ⟨nd, rfl⟩⟩; refine ⟨_, rfl, ?_⟩; have p15 : 0 ≤ (x15_2 : Int) := of_decide_eq_true (Z4); have q15 : x15_2 < (a0.size : Int) := of_decide_eq_true (Z4); have hx15 := bt_at a0 x15_2; replace p15 := eq_true p15; replace q15 := eq_true q15) | (go_at_call 80; (with_reducible refine (impl_isDigit.calls (bt a0 x15_2) false _ A16.out).mono ?_); rintro e w' ⟨rfl, ⟨nd, rfl⟩⟩; have p18 : 0 ≤ (x15_2 : Int) := of_decide_eq_true (Z4); have q18 : x15_2 < (a0.size : Int) := of_decide_eq_true (Z4); have hx18 := bt_at a0 x15_2; replace p18 := eq_true p18; replace q18 := eq_true q18))
          go_ret
          exact ⟨Z3, Z13⟩
      ·rw [if_neg c9] at H
       have c9b0 := decide_eq_false c9
       clear c9
       obtain rfl := Option.some.inj H
       go_wp2
       go_ret
       exact ⟨Z3, Z13⟩

/-! ### impl_keyOK: function 60 -/
def impl_keyOK.f (a0 : ByteArray) : Option (Bool) := (impl_within.f (a0.size : Int) 1 200).bind fun t182 => (some t182)
set_option maxHeartbeats 40000000 in
set_option maxRecDepth 100000 in
theorem impl_keyOK.calls (a0 : ByteArray) (r : Bool) (w : World) (h : impl_keyOK.f a0 = some r) :
  Calls Try.prog 60 #[.string a0] w fun e w' => e = .returned (.bool r) ∧ Drawn0 w w' := by
 have H : ((impl_within.f (a0.size : Int) 1 200).bind fun t182 => (some t182)) = some r := h
 clear h
 obtain ⟨t182, A2, H⟩ := bindA H
 try dsimp only at H
 obtain rfl := Option.some.inj H
 go_enter Try.func60, Try.ntmps60
 go_wp2_with (first | ((with_reducible refine gate_callee (f := 34) rfl ?_); refine goesL_ (some 5) rfl rfl Try.func34 (Z24) rfl #[.int .i64 (a0.size : Int), .int .i64 1, .int .i64 200] rfl (Z1) ?_; (with_reducible refine (impl_within.calls (a0.size : Int) 1 200 t182 _ A2.out).mono ?_); rintro e w' ⟨rfl, ⟨nd, rfl⟩⟩; refine ⟨_, rfl, ?_⟩))
 go_ret
 exact ⟨Z3, Z13⟩

/-! ### impl_itemOK: function 86 -/
def impl_itemOK.f (a0_0 : ByteArray) (a0_1 : ByteArray) : Option (Bool) := (impl_keyOK.f a0_0).bind fun t184 => (if t184 = true then (some (decide ((a0_1.size : Int) ≤ 4000))) else (some false))
set_option maxHeartbeats 40000000 in
set_option maxRecDepth 100000 in
theorem impl_itemOK.calls (a0_0 : ByteArray) (a0_1 : ByteArray) (r : Bool) (w : World) (h : impl_itemOK.f a0_0 a0_1 = some r) :
  Calls Try.prog 86 #[.agg #[.string a0_0, .string a0_1]] w fun e w' => e = .returned (.bool r) ∧ Below w.heap.size w w' := by
 have hu86 := Try.underlying86
 have HB := Aside0.mk (Below.refl w.heap.size w)
 have H : ((impl_keyOK.f a0_0).bind fun t184 => (if t184 = true then (some (decide ((a0_1.size : Int) ≤ 4000))) else (some false))) = some r := h
 clear h
 obtain ⟨t184, A2, H⟩ := bindA H
 try dsimp only at H
 by_cases c3 : t184 = true
 ·subst c3
  replace H := ifT H
  obtain rfl := Option.some.inj H
  go_enter Try.func86, Try.ntmps86
  go_wp2_with (first | ((with_reducible refine gate_dst (N := 1) rfl ?_); (try (refine gate_guard (Z102) ?_; dsimp only)); refine bxE 1 #[.string a0_0, .string a0_1] 86 ?_; intro gb183 hg w4 hbox hb; have BK183 := Aside0.mk (hbox); have GW183 := Aside0.mk ((szE w hg (Z0))); have GE183 := Aside0.mk ((szE w hg (Z0))); replace HB := Aside0.mk (below_step (Z0) hb); clear hb hbox hg; obtain ⟨hcz5_0, hcz5_1⟩ := bc2 BK183.out; obtain ⟨hfz5_0, hfz5_1⟩ := bf2 BK183.out) | ((with_reducible refine gate_callee (f := 60) rfl ?_); refine goesL_ (some 5) rfl rfl Try.func60 (Z24) rfl #[.string a0_0] rfl (Z1) ?_; (with_reducible refine (impl_keyOK.calls a0_0 true _ A2.out).mono ?_); rintro e w' ⟨rfl, ⟨nd, rfl⟩⟩; refine ⟨_, rfl, ?_⟩))
  go_ret
  exact ⟨Z2, Z138⟩
 ·replace c3 := Bool.eq_false_iff.mpr c3
  subst c3
  replace H := ifF H
  obtain rfl := Option.some.inj H
  go_enter Try.func86, Try.ntmps86
  go_wp2_with (first | ((with_reducible refine gate_dst (N := 1) rfl ?_); (try (refine gate_guard (Z102) ?_; dsimp only)); refine bxE 1 #[.string a0_0, .string a0_1] 86 ?_; intro gb183 hg w6 hbox hb; have BK183 := Aside0.mk (hbox); have GW183 := Aside0.mk ((szE w hg (Z0))); have GE183 := Aside0.mk ((szE w hg (Z0))); replace HB := Aside0.mk (below_step (Z0) hb); clear hb hbox hg; obtain ⟨hcz7_0, hcz7_1⟩ := bc2 BK183.out; obtain ⟨hfz7_0, hfz7_1⟩ := bf2 BK183.out) | ((with_reducible refine gate_callee (f := 60) rfl ?_); refine goesL_ (some 5) rfl rfl Try.func60 (Z24) rfl #[.string a0_0] rfl (Z1) ?_; (with_reducible refine (impl_keyOK.calls a0_0 false _ A2.out).mono ?_); rintro e w' ⟨rfl, ⟨nd, rfl⟩⟩; refine ⟨_, rfl, ?_⟩))
  go_ret
  exact ⟨Z2, Z138⟩

-- EXTERNAL: function 69 (impl_MutationOK)
def inC (n low high : Int) : Bool := decide (low ≤ n) && decide (n ≤ high)
theorem within_c (a b c : Int) : impl_within.f a b c = some (inC a b c) := by
 unfold impl_within.f inC
 by_cases h : a ≥ b
 ·rw [if_pos h, decide_eq_true (by omega : b ≤ a)]; rfl
 ·rw [if_neg h, decide_eq_false (by omega : ¬ b ≤ a)]; rfl
def itemB (x : S86) : Bool := inC (x.f0.size : Int) 1 200 && decide ((x.f1.size : Int) ≤ 4000)
theorem itemOK_f (x : S86) : impl_itemOK.f x.f0 x.f1 = some (itemB x) := by
 unfold impl_itemOK.f impl_keyOK.f itemB
 rw [within_c, Option.bind_some, Option.bind_some]
 cases inC (x.f0.size : Int) 1 200 with
 | true => rfl
 | false => rfl
def idxX : List S86 → Int → Int
 | [], _ => -1
 | m :: r, i => if itemB m = false then i else idxX r (i + 1)
theorem rdItem (l : List S86) (k : Nat) (h : k < l.length) : rd_T86 l (k : Int) = l[k] := by unfold rd_T86; simp [List.getD, List.getElem?_eq_getElem h]
theorem idxX_drop (l : List S86) (k : Nat) (h : k < l.length) : idxX (l.drop k) k = if itemB (rd_T86 l (k : Int)) = false then (k : Int) else idxX (l.drop (k + 1)) ((k + 1 : Nat) : Int) := by
 rw [List.drop_eq_getElem_cons h, idxX, rdItem l k h]; rfl
theorem idxX_all : ∀ (l : List S86) (i : Int), 0 ≤ i → (decide (0 ≤ idxX l i)) = !l.all itemB
 | [], i, _ => rfl
 | m :: r, i, h => by
  unfold idxX
  cases hm : itemB m with
  | false => rw [if_pos rfl, decide_eq_true h]; simp [hm]
  | true => rw [if_neg (Z124), idxX_all r (i + 1) (Z43)]; simp [hm]
theorem itemBad (x : S86) (w : World) :
  Calls Try.prog 85 #[.agg #[.string x.f0, .string x.f1]] w fun e w' => e = .returned (.bool (!itemB x)) ∧ Below w.heap.size w w' := by
 go_enter Try.func85, Try.ntmps85
 go_wp2_with (go_at_call 86; refine (impl_itemOK.calls x.f0 x.f1 (itemB x) _ (itemOK_f x)).mono ?_; rintro e w1 ⟨rfl, hb1⟩)
 go_ret
 exact ⟨by first | rfl | (simp; done) | (simp [*]; done), Below.trans (Below.alloc (Below.refl _ _) (Nat.le_refl _) _) (hb1.mono (Z124))⟩
set_option maxHeartbeats 8000000 in
set_option maxRecDepth 100000 in
theorem itemsIndex (A : Option Addr) (c : Nat) (l : List S86) (w : World) (hC : Kd.C k86 w A l.length l) (hl : l.length ≤ 1099511627776) :
  Calls Try.prog 92 #[.slice A l.length c, .func (.func 85) #[] #[]] w fun e w' => e = .returned (.int .i64 (idxX l 0)) ∧ Below w.heap.size w w' := by
 have eg := enters_of Try.func85 (Z24) rfl
 have HC := Aside0.mk hC
 clear hC
 go_enter Try.func92, Try.ntmps92
 go_wp2
 go_loopg [5, 8] l.length (fun gg _ s8 wr => ∃ kk : Nat, kk ≤ l.length ∧ l.length - kk ≤ gg ∧ s8 = .int .i64 kk ∧ Aside0 (Below w.heap.size w wr) ∧ Aside0 (idxX l 0 = idxX (l.drop kk) kk))
 case atStart => exact ⟨0, Nat.zero_le _, Z43, rfl, ⟨Below.refl _ w⟩, ⟨rfl⟩⟩
 case round =>
  obtain ⟨kk, hkk, hg, rfl, BW, AI⟩ := hrel
  by_cases hlt : kk < l.length
  ·have hltz : (kk : Int) < (l.length : Int) := by omega
   have h0 : 0 ≤ (kk : Int) := by omega
   obtain ⟨ad, e, hx0, hx1⟩ := at_T86 HC.out kk h0 hltz
   cases e
   simp only [Int.toNat_natCast] at hx0 hx1
   replace hx0 := (BW.out.cell (World.block_lt_of_cell? w _ hx0)).trans hx0
   replace hx1 := (BW.out.cell (World.block_lt_of_cell? w _ hx1)).trans hx1
   have hstep := idxX_drop l kk hlt
   have hcall := itemBad (rd_T86 l (kk : Int)) wr
   cases hq : itemB (rd_T86 l (kk : Int)) with
   | false =>
    rw [hq] at hstep hcall
    rw [if_pos rfl] at hstep
    have HS := Aside0.mk hstep
    clear hstep hq
    go_wp2_with (go_at_call 85; refine hcall.mono ?_; rintro e w' ⟨rfl, hb'⟩)
    go_ret
    exact ⟨by rw [AI.out, HS.out]; rfl, Below.trans BW.out (hb'.mono BW.out.size)⟩
   | true =>
    rw [hq] at hstep hcall
    rw [if_neg (Z124)] at hstep
    have HS := Aside0.mk hstep
    clear hstep hq
    go_wp2_with (go_at_call 85; refine hcall.mono ?_; rintro e w' ⟨rfl, hb'⟩)
    go_roundg (l.length - (kk + 1))
    case measure => omega
    case rel => exact ⟨kk + 1, Z43, Z43, by go_num, ⟨Below.trans BW.out (hb'.mono BW.out.size)⟩, ⟨AI.out.trans HS.out⟩⟩
  ·have hltz : ¬ (kk : Int) < (l.length : Int) := by omega
   obtain rfl : kk = l.length := by omega
   go_wp2
   go_ret
   exact ⟨Z145, BW.out⟩
theorem itemsBad (A : Option Addr) (c : Nat) (l : List S86) (b : Bool) (hb : (l.all itemB) = !b) (w : World) (hC : Kd.C k86 w A l.length l) (hl : l.length ≤ 1099511627776) :
  Calls Try.prog 84 #[.slice A l.length c, .func (.func 85) #[] #[]] w fun e w' => e = .returned (.bool b) ∧ Below w.heap.size w w' := by
 have hx := idxX_all l 0 (Z43)
 rw [hb, Bool.not_not] at hx
 go_enter Try.func84, Try.ntmps84
 go_wp2_with (go_at_call 92; refine (itemsIndex A c l _ hC hl).mono ?_; rintro e w1 ⟨rfl, hb1⟩)
 go_ret
 exact ⟨by first | rfl | (simp [← hx]; done) | (simp [*]; done), hb1⟩
def bareB (u m f : Int) : Bool := decide (u = 0) && decide (m = 0) && decide (f = 0)
/-- Is a mutation of this kind. -/
def kindB (k u m f : Int) (n : Nat) : Bool :=
 if k = 1 ∨ k = 4 then bareB u m f && decide (n = 0) else if k = 2 then bareB u m f && decide (0 < n) else if k = 3 then decide (n = 0) && inC u 1 1000 && inC m 1 3 && inC f 0 31 else false
def impl_MutationOK.f (k : Nat) (a0_0 a0_1 a0_2 a0_3 : Int) (a0_4 : ByteArray) (l0_5 : List S86) : Option Bool :=
 if l0_5.length ≤ 1099511627776 then (impl_NameOK.f k a0_4).bind fun nb => some (nb && decide (l0_5.length ≤ 20) && l0_5.all itemB && kindB a0_0 a0_1 a0_2 a0_3 l0_5.length) else none
theorem impl_MutationOK.mono : ∀ a0 a1 a2 a3 a4 a5 k, LeO (impl_MutationOK.f k a0 a1 a2 a3 a4 a5) (impl_MutationOK.f (k + 1) a0 a1 a2 a3 a4 a5) := by
 intro a0 a1 a2 a3 a4 a5 k
 unfold impl_MutationOK.f
 exact LeO.ite (LeO.bind (impl_NameOK.mono _ _) (fun _ => LeO.refl _)) (LeO.refl _)
set_option maxHeartbeats 16000000 in
set_option maxRecDepth 100000 in
theorem impl_MutationOK.calls (k : Nat) (a0_0 a0_1 a0_2 a0_3 : Int) (a0_4 : ByteArray) (A0_5 : Option Addr) (c0_5 : Nat) (l0_5 : List S86) (r : Bool) (w : World) (hr0_5 : Kd.C k86 w A0_5 l0_5.length l0_5) (hc0_5 : l0_5.length ≤ c0_5) (h : impl_MutationOK.f k a0_0 a0_1 a0_2 a0_3 a0_4 l0_5 = some r) :
  Calls Try.prog 69 #[.agg #[.int .i64 a0_0, .int .i64 a0_1, .int .i64 a0_2, .int .i64 a0_3, .string a0_4, .slice A0_5 l0_5.length c0_5]] w fun e w' => e = .returned (.bool r) ∧ Below w.heap.size w w' := by
 unfold impl_MutationOK.f at h
 by_cases hl : l0_5.length ≤ 1099511627776
 case neg => rw [if_neg hl] at h; cases h
 rw [if_pos hl] at h
 obtain ⟨nb, hN, h⟩ := Option.bind_eq_some_iff.mp h
 simp only [Option.some.injEq] at h
 subst h
 have HN := Aside0.mk hN
 have HC := Aside0.mk (Kd.C_drewN (Kd.C_alloc hr0_5 (.cells #[.int .i64 a0_0, .int .i64 a0_1, .int .i64 a0_2, .int .i64 a0_3, .string a0_4, .slice A0_5 l0_5.length c0_5] 65)))
 have HL := Aside0.mk hl
 clear hr0_5 hN hl
 cases nb with
 | false =>
  go_enter Try.func69, Try.ntmps69
  go_wp2_with (go_at_call 59; refine (impl_NameOK.calls k a0_4 false _ HN.out).mono ?_; rintro e w1 ⟨rfl, ⟨nd, rfl⟩⟩)
  go_ret
  exact ⟨Z124, Z6⟩
 | true =>
  by_cases h20 : l0_5.length ≤ 20
  case neg =>
   have t20 : decide (20 < (l0_5.length : Int)) = true := decide_eq_true (Z43)
   have HX := Aside0.mk h20
   clear h20
   go_enter Try.func69, Try.ntmps69
   go_wp2_with (go_at_call 59; refine (impl_NameOK.calls k a0_4 true _ HN.out).mono ?_; rintro e w1 ⟨rfl, ⟨nd, rfl⟩⟩)
   go_ret
   exact ⟨by rw [decide_eq_false HX.out]; simp, Z6⟩
  have t20 : decide (20 < (l0_5.length : Int)) = false := decide_eq_false (Z43)
  have HX := Aside0.mk h20
  clear h20
  cases hall : l0_5.all itemB with
  | false =>
   have HA := Aside0.mk hall
   clear hall
   go_enter Try.func69, Try.ntmps69
   go_wp2_with (first | (go_at_call 59; refine (impl_NameOK.calls k a0_4 true _ HN.out).mono ?_; rintro e w1 ⟨rfl, ⟨nd, rfl⟩⟩) | (go_at_call 84; refine (itemsBad A0_5 c0_5 l0_5 true HA.out _ (HC.out _) HL.out).mono ?_; rintro e w2 ⟨rfl, hb2⟩))
   go_ret
   exact ⟨Z124, Below.trans (Z6) (hb2.mono (Z124))⟩
  | true =>
   have HA := Aside0.mk hall
   clear hall
   rw [decide_eq_true HX.out]
   simp only [Bool.true_and]
   have hb : ∀ x y : Int, (x == y) = decide (x = y) := fun _ _ => rfl
   obtain ⟨B, hB⟩ : ∃ B : Bool, bareB a0_1 a0_2 a0_3 = B := ⟨_, rfl⟩
   have hs : (B = false ∧ (a0_1 == 0) = false) ∨ (B = false ∧ (a0_1 == 0) = true ∧ (a0_2 == 0) = false) ∨ (B = false ∧ (a0_1 == 0) = true ∧ (a0_2 == 0) = true ∧ (a0_3 == 0) = false) ∨ (B = true ∧ (a0_1 == 0) = true ∧ (a0_2 == 0) = true ∧ (a0_3 == 0) = true) := by
    rw [hb, hb, hb, ← hB]; unfold bareB
    by_cases c1 : a0_1 = 0 <;> by_cases c2 : a0_2 = 0 <;> by_cases c3 : a0_3 = 0 <;> simp [c1, c2, c3]
   have hl0 : ((l0_5.length : Int) == 0) = decide (l0_5.length = 0) := by rw [hb]; exact decide_eq_decide.mpr (Z43)
   have hl1 : decide (0 < (l0_5.length : Int)) = decide (0 < l0_5.length) := decide_eq_decide.mpr (Z43)
   by_cases k1 : a0_0 = 1 ∨ a0_0 = 4
   ·have e : kindB a0_0 a0_1 a0_2 a0_3 l0_5.length = (B && ((l0_5.length : Int) == 0)) := by unfold kindB; rw [if_pos k1, hB, hl0]
    rw [e]
    clear e hB hl0 hl1 hb
    rcases k1 with rfl | rfl <;> rcases hs with ⟨rfl, b1⟩ | ⟨rfl, b1, b2⟩ | ⟨rfl, b1, b2, b3⟩ | ⟨rfl, b1, b2, b3⟩
    all_goals
     go_enter Try.func69, Try.ntmps69
     go_wp2_with (first | (go_at_call 59; refine (impl_NameOK.calls k a0_4 true _ HN.out).mono ?_; rintro e w1 ⟨rfl, ⟨nd, rfl⟩⟩) | (go_at_call 84; refine (itemsBad A0_5 c0_5 l0_5 false HA.out _ (HC.out _) HL.out).mono ?_; rintro e w2 ⟨rfl, hb2⟩; have HB2 : Below w.heap.size w w2 := Below.trans (Z6) (hb2.mono (Z124)); obtain ⟨hc2, hf2, hz2⟩ := bcall hb2))
     go_ret
     exact ⟨Z148, Z146⟩
   by_cases k2 : a0_0 = 2
   ·have e : kindB a0_0 a0_1 a0_2 a0_3 l0_5.length = (B && decide (0 < (l0_5.length : Int))) := by unfold kindB; rw [if_neg k1, if_pos k2, hB, hl1]
    rw [e]
    clear e hB hl0 hl1 hb k1
    subst k2
    rcases hs with ⟨rfl, b1⟩ | ⟨rfl, b1, b2⟩ | ⟨rfl, b1, b2, b3⟩ | ⟨rfl, b1, b2, b3⟩
    all_goals
     go_enter Try.func69, Try.ntmps69
     go_wp2_with (first | (go_at_call 59; refine (impl_NameOK.calls k a0_4 true _ HN.out).mono ?_; rintro e w1 ⟨rfl, ⟨nd, rfl⟩⟩) | (go_at_call 84; refine (itemsBad A0_5 c0_5 l0_5 false HA.out _ (HC.out _) HL.out).mono ?_; rintro e w2 ⟨rfl, hb2⟩; have HB2 : Below w.heap.size w w2 := Below.trans (Z6) (hb2.mono (Z124)); obtain ⟨hc2, hf2, hz2⟩ := bcall hb2))
     go_ret
     exact ⟨Z148, Z146⟩
   by_cases k3 : a0_0 = 3
   ·obtain ⟨C1, hC1⟩ : ∃ C, inC a0_1 1 1000 = C := ⟨_, rfl⟩
    obtain ⟨C2, hC2⟩ : ∃ C, inC a0_2 1 3 = C := ⟨_, rfl⟩
    obtain ⟨C3, hC3⟩ : ∃ C, inC a0_3 0 31 = C := ⟨_, rfl⟩
    have e : kindB a0_0 a0_1 a0_2 a0_3 l0_5.length = (((l0_5.length : Int) == 0) && C1 && C2 && C3) := by unfold kindB; rw [if_neg k1, if_neg k2, if_pos k3, hl0, hC1, hC2, hC3]
    rw [e]
    have hw1 := Aside0.mk (hC1 ▸ within_c a0_1 1 1000)
    have hw2 := Aside0.mk (hC2 ▸ within_c a0_2 1 3)
    have hw3 := Aside0.mk (hC3 ▸ within_c a0_3 0 31)
    clear e hB hl0 hl1 hb k1 k2 hC1 hC2 hC3
    subst k3
    cases hl2 : ((l0_5.length : Int) == 0) <;> cases C1 <;> cases C2
    all_goals rcases hs with ⟨rfl, b1⟩ | ⟨rfl, b1, b2⟩ | ⟨rfl, b1, b2, b3⟩ | ⟨rfl, b1, b2, b3⟩
    all_goals
     go_enter Try.func69, Try.ntmps69
     go_wp2_with (first | (go_at_call 59; refine (impl_NameOK.calls k a0_4 true _ HN.out).mono ?_; rintro e w1 ⟨rfl, ⟨nd, rfl⟩⟩) | (go_at_call 84; refine (itemsBad A0_5 c0_5 l0_5 false HA.out _ (HC.out _) HL.out).mono ?_; rintro e w2 ⟨rfl, hb2⟩; have HB2 : Below w.heap.size w w2 := Below.trans (Z6) (hb2.mono (Z124)); obtain ⟨hc2, hf2, hz2⟩ := bcall hb2) | (go_at_call 34; refine (impl_within.calls _ _ _ _ _ (by first | exact hw1.out | exact hw2.out | exact hw3.out)).mono ?_; rintro e w3 ⟨rfl, ⟨nd3, rfl⟩⟩))
     go_ret
     exact ⟨Z148, Z146⟩
   ·have e : kindB a0_0 a0_1 a0_2 a0_3 l0_5.length = false := by unfold kindB; rw [if_neg k1, if_neg k2, if_neg k3]
    rw [e]
    have t1 : (a0_0 == 1) = false := beq_eq_false_iff_ne.mpr (fun h => k1 (.inl h))
    have t4 : (a0_0 == 4) = false := beq_eq_false_iff_ne.mpr (fun h => k1 (.inr h))
    have t2 : (a0_0 == 2) = false := beq_eq_false_iff_ne.mpr k2
    have t3 : (a0_0 == 3) = false := beq_eq_false_iff_ne.mpr k3
    clear e hB hl0 hl1 hb k1 k2 k3
    rcases hs with ⟨rfl, b1⟩ | ⟨rfl, b1, b2⟩ | ⟨rfl, b1, b2, b3⟩ | ⟨rfl, b1, b2, b3⟩
    all_goals
     go_enter Try.func69, Try.ntmps69
     go_wp2_with (first | (go_at_call 59; refine (impl_NameOK.calls k a0_4 true _ HN.out).mono ?_; rintro e w1 ⟨rfl, ⟨nd, rfl⟩⟩) | (go_at_call 84; refine (itemsBad A0_5 c0_5 l0_5 false HA.out _ (HC.out _) HL.out).mono ?_; rintro e w2 ⟨rfl, hb2⟩; have HB2 : Below w.heap.size w w2 := Below.trans (Z6) (hb2.mono (Z124)); obtain ⟨hc2, hf2, hz2⟩ := bcall hb2))
     go_ret
     exact ⟨Z148, Z146⟩

end Go.Proofs.Ytbikfhccfenkdaa.PFnExactEngineOK
