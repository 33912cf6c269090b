import Derived.Test.YtifkmkiljpeaaacGreatPFnExactWorldOKxA
set_option maxHeartbeats 40000000
set_option maxRecDepth 100000
namespace Go.Proofs.YtifkmkiljpeaaacGreat.PFnExactWorldOK
open Go.RowKit Go.Proofs.YtifkmkiljpeaaacGreatW.PrintWords Go.Proofs.YtifkmkiljpeaaacGreatW.PrintLast Go.Proofs.YtifkmkiljpeaaacGreatW.PrintMore Go.Proofs.YtifkmkiljpeaaacGreat.Mac Go.Proofs.Tryz
set_option linter.unusedVariables false
set_option linter.unusedSimpArgs false
def idxN (u : ByteArray) : List S98 → Int → Int
 | [], _ => -1
 | m :: r, i => if m.f0.toList = u.toList then i else idxN u r (i + 1)
theorem rdBox (l : List S98) (k : Nat) (h : k < l.length) : rd_T98 l (k : Int) = l[k] := by unfold rd_T98; simp [List.getD, List.getElem?_eq_getElem h]
theorem idxN_drop (u : ByteArray) (l : List S98) (k : Nat) (h : k < l.length) : idxN u (l.drop k) k = if (rd_T98 l (k : Int)).f0.toList = u.toList then (k : Int) else idxN u (l.drop (k + 1)) ((k + 1 : Nat) : Int) := by
 rw [List.drop_eq_getElem_cons h, idxN, rdBox l k h]; rfl
theorem boxIs (n : ByteArray) (x y : Int) (s D : Value) (B : Nat) (u : ByteArray) (w : World) (hB : B < w.heap.size) (hc : w.cell? ⟨B, 0, none⟩ = some (.string u)) :
  Calls prog 96 #[.agg #[.string n, .int .i64 x, .int .i64 y, s, D], .pointer (some ⟨B, 0, none⟩)] w fun e w' => e = .returned (.bool (n.toList == u.toList)) ∧ Below w.heap.size w w' := by
 have I : ∀ o, (w.alloc o).cell? ⟨B, 0, none⟩ = some (.string u) := fun o => (World.cell?_alloc_past _ _ _ hB).trans hc
 go_enter func96, ntmps96
 go_wp2
 go_ret
 exact ⟨by first | rfl | (simp; done) | (simp [*]; done), Z6⟩
theorem boxsIndex (A : Option Addr) (c : Nat) (l : List S98) (u : ByteArray) (B : Nat) (w : World) (hC : Kd.C k98 w A l.length l) (hB : B < w.heap.size) (hc : w.cell? ⟨B, 0, none⟩ = some (.string u)) (hl : l.length ≤ 1099511627776) :
  Calls prog 95 #[.slice A l.length c, .func (.func 96) #[] #[.pointer (some ⟨B, 0, none⟩)]] w fun e w' => e = .returned (.int .i64 (idxN u l 0)) ∧ Below w.heap.size w w' := by
 have eg := enters_of func96 (Z18) rfl
 have HC := aM hC
 have HQ := aM hc
 clear hC hc
 go_enter func95, ntmps95
 go_wp2
 go_loopg [5, 8] l.length (fun gg _ J wr => ∃ kk : Nat, kk ≤ l.length ∧ l.length - kk ≤ gg ∧ J = .int .i64 kk ∧ Aside0 (Below w.heap.size w wr) ∧ Aside0 (idxN u l 0 = idxN u (l.drop kk) kk))
 case atStart => exact ⟨0, Nat.zero_le _, Z42, rfl, ⟨Below.refl _ w⟩, ⟨rfl⟩⟩
 case round =>
  obtain ⟨kk, hkk, hg, rfl, BW, AI⟩ := hrel
  by_cases hlt : kk < l.length
  ·have hltz : (kk : Int) < (l.length : Int) := by omega
   have M : 0 ≤ (kk : Int) := by omega
   obtain ⟨ad, O, c3, U, c4, e, s, hx1, y, D, I, -⟩ := at_T98 HC.out kk M hltz
   cases e
   simp only [Int.toNat_natCast] at s hx1 y D I
   replace s := (BW.out.cell (World.block_lt_of_cell? w _ s)).trans s
   replace hx1 := (BW.out.cell (World.block_lt_of_cell? w _ hx1)).trans hx1
   replace y := (BW.out.cell (World.block_lt_of_cell? w _ y)).trans y
   replace D := (BW.out.cell (World.block_lt_of_cell? w _ D)).trans D
   replace I := (BW.out.cell (World.block_lt_of_cell? w _ I)).trans I
   have hstep := idxN_drop u l kk hlt
   have hcall := boxIs (rd_T98 l (kk : Int)).f0 (rd_T98 l (kk : Int)).f1 (rd_T98 l (kk : Int)).f2 (.slice O (rd_T98 l (kk : Int)).f3.length c3) (.slice U (rd_T98 l (kk : Int)).f4.length c4) B u wr (Nat.lt_of_lt_of_le hB BW.out.size) ((BW.out.cell (p := ⟨B, 0, none⟩) hB).trans HQ.out)
   by_cases hq : (rd_T98 l (kk : Int)).f0.toList = u.toList
   ·rw [if_pos hq] at hstep
    rw [show ((rd_T98 l (kk : Int)).f0.toList == u.toList) = true from beq_iff_eq.mpr hq] at hcall
    have HS := aM hstep
    clear hstep hq
    go_wp2_with (go_at_call 96; refine hcall.mono ?_; rintro e w' ⟨rfl, hb'⟩)
    go_ret
    exact ⟨by rw [AI.out, HS.out]; rfl, Below.trans BW.out (hb'.mono BW.out.size)⟩
   ·rw [if_neg hq] at hstep
    rw [show ((rd_T98 l (kk : Int)).f0.toList == u.toList) = false from beq_eq_false_iff_ne.mpr hq] at hcall
    have HS := aM hstep
    clear hstep hq
    go_wp2_with (go_at_call 96; refine hcall.mono ?_; rintro e w' ⟨rfl, hb'⟩)
    go_roundg (l.length - (kk + 1))
    case measure => omega
    case rel => exact ⟨kk + 1, Z42, Z42, by go_num, ⟨Below.trans BW.out (hb'.mono BW.out.size)⟩, ⟨AI.out.trans HS.out⟩⟩
  ·have hltz : ¬ (kk : Int) < (l.length : Int) := by omega
   obtain rfl : kk = l.length := by omega
   go_wp2
   go_ret
   exact ⟨Z205, BW.out⟩
def impl_boxIndex.f (l0 : List S98) (a1 : ByteArray) : Option Int := if l0.length ≤ 1099511627776 then some (idxN a1 l0 0) else none
theorem impl_boxIndex.calls (s : Option Addr) (c0 : Nat) (l0 : List S98) (a1 : ByteArray) (r : Int) (w : World) (hr0 : Kd.C k98 w s l0.length l0) (y : l0.length ≤ c0) (h : impl_boxIndex.f l0 a1 = some r) :
  Calls prog 63 #[.slice s l0.length c0, .string a1] w fun e w' => e = .returned (.int .i64 r) ∧ Below w.heap.size w w' := by
 unfold impl_boxIndex.f at h
 by_cases hl : l0.length ≤ 1099511627776
 ·rw [if_pos hl] at h
  simp only [Option.some.injEq] at h
  subst h
  have HC := aM (Kd.C_alloc hr0 (.cells #[.string a1] 9))
  clear hr0
  go_enter func63, ntmps63
  go_wp2_with (go_at_call 95; refine (boxsIndex s c0 l0 a1 w.heap.size _ HC.out (Z174) (by simp [go_sem]) hl).mono ?_; rintro e w' ⟨rfl, hb'⟩)
  go_ret
  exact ⟨rfl, Below.trans (Below.alloc (Below.refl _ _) (Nat.le_refl _) _) (hb'.mono (Z174))⟩
 ·rw [if_neg hl] at h; cases h
def slices_Index_string_string.l0 : Nat → List ByteArray → ByteArray → Int → Int → Option (Int)
 | 0, _, _, _, _ => none
 | k + 1, x0, x1, x7, x8 => if x8 < x7 then (if 0 ≤ x8 then (if x8 < (x0.length : Int) then (if x1.toList = (rdOf ByteArray.empty x0 x8).toList then (some x8) else (slices_Index_string_string.l0 k x0 x1 x7 (wrap64 (x8 + 1)))) else (none)) else (none)) else (some (-1))
def slices_Index_string_string.f (k : Nat) (l0 : List ByteArray) (a1 : ByteArray) : Option (Int) := slices_Index_string_string.l0 k l0 a1 (l0.length : Int) 0
theorem slices_Index_string_string.calls (k : Nat) (J : Option Addr) (c0 : Nat) (l0 : List ByteArray) (a1 : ByteArray) (r : Int) (w : World) (hr0 : Kd.C Kd.string w J l0.length l0) (M : l0.length ≤ c0) (h : slices_Index_string_string.f k l0 a1 = some r) :
  Calls prog 118 #[.slice J l0.length c0, .string a1] w fun e w' => e = .returned (.int .i64 r) ∧ Drawn0 w w' := by
 replace hr0 := aM hr0
 replace M := aM M
 have H := h
 clear h
 unfold slices_Index_string_string.f at H
 have H' := aM H
 clear H
 go_enter func118, ntmps118
 go_wp2
 go_loopg [8] k (fun kq O w' => ∃ (s : Int), O = .int .i64 s ∧ Aside0 (slices_Index_string_string.l0 kq l0 a1 (l0.length : Int) s = some r) ∧ Aside0 (kq ≤ k) ∧ Drawn0 w w')
 case atStart => exact ⟨(0), (Z3), H', ⟨Nat.le_refl _⟩, Z9⟩
 case round =>
  clear H'
  obtain ⟨s, rfl, HA, HK1, ⟨m1, rfl⟩⟩ := hrel
  cases gk with
  | zero => exact absurd HA.out (by simp [slices_Index_string_string.l0])
  | succ U =>
   have H := HA.out
   clear HA
   simp only [slices_Index_string_string.l0] at H
   by_cases c3 : s < (l0.length : Int)
   ·rw [if_pos c3] at H
    have X := decide_eq_true c3
    clear c3
    obtain ⟨c4, H⟩ := ifS H
    have aC := decide_eq_true c4
    clear c4
    obtain ⟨c5, H⟩ := ifS H
    have aD := decide_eq_true c5
    clear c5
    by_cases c6 : a1.toList = (rdOf ByteArray.empty l0 s).toList
    ·rw [if_pos c6] at H
     have Y := beq_iff_eq.mpr c6
     have Z := bne_eq_false_iff_eq.mpr c6
     clear c6
     obtain rfl := oI H
     have y : 0 ≤ (s : Int) := of_decide_eq_true (Z4)
     have D : s < (l0.length : Int) := of_decide_eq_true (Z4)
     obtain ⟨aA, I, aB⟩ := Kd.at_string hr0.out s y D
     cases I
     replace y := eq_true y
     replace D := eq_true D
     go_wp2
     go_ret
     exact ⟨Z3, Z9⟩
    ·rw [if_neg c6] at H
     have Y := beq_eq_false_iff_ne.mpr c6
     have Z := bne_iff_ne.mpr c6
     have H' := aM H
     clear H
     have y : 0 ≤ (s : Int) := of_decide_eq_true (Z4)
     have D : s < (l0.length : Int) := of_decide_eq_true (Z4)
     obtain ⟨aA, I, aB⟩ := Kd.at_string hr0.out s y D
     cases I
     replace y := eq_true y
     replace D := eq_true D
     go_wp2
     go_roundg U
     case measure => have := HK1.out; omega
     case rel => exact ⟨(wrap64 (s + 1)), (Z3), H', ⟨Z125⟩, Z9⟩
   ·rw [if_neg c3] at H
    have X := decide_eq_false c3
    clear c3
    obtain rfl := oI H
    go_wp2
    go_ret
    exact ⟨Z3, Z9⟩
def slices_Contains_string_string.f (k : Nat) (l0 : List ByteArray) (a1 : ByteArray) : Option (Bool) := (slices_Index_string_string.f k l0 a1).bind fun s => (some (decide (s ≥ 0)))
theorem slices_Contains_string_string.calls (k : Nat) (s : Option Addr) (c0 : Nat) (l0 : List ByteArray) (a1 : ByteArray) (r : Bool) (w : World) (hr0 : Kd.C Kd.string w s l0.length l0) (y : l0.length ≤ c0) (h : slices_Contains_string_string.f k l0 a1 = some r) :
  Calls prog 94 #[.slice s l0.length c0, .string a1] w fun e w' => e = .returned (.bool r) ∧ Drawn0 w w' := by
 replace hr0 := aM hr0
 replace y := aM y
 have H := h
 clear h
 unfold slices_Contains_string_string.f at H
 obtain ⟨D, I, H⟩ := bindA H
 try dsimp only at H
 obtain rfl := oI H
 go_enter func94, ntmps94
 go_wp2_with (first | ((with_reducible refine gC 118 ?_); refine gL 7 func118 #[.slice s l0.length c0, .string a1] ?_; (with_reducible refine (slices_Index_string_string.calls k _ _ l0 a1 D _ ?Y1 ?Y2 I.out).mono ?_); (case Y1 => repeat (first | exact hr0.out | (with_reducible refine Kd.C_alloc ?_ _) | (with_reducible refine Kd.C_drewN ?_ _) | (with_reducible refine Kd.C_drew ?_))); (case Y2 => exact y.out); rintro e w' ⟨rfl, ⟨nd, rfl⟩⟩; refine ⟨_, rfl, ?_⟩))
 go_ret
 exact ⟨Z3, Z9⟩
def impl_within.f (a0 : Int) (a1 : Int) (s : Int) : Option (Bool) := if a0 ≥ a1 then (some (decide (a0 ≤ s))) else (some false)
theorem impl_within.calls (a0 : Int) (a1 : Int) (s : Int) (r : Bool) (w : World) (h : impl_within.f a0 a1 s = some r) :
  Calls prog 61 #[.int .i64 a0, .int .i64 a1, .int .i64 s] w fun e w' => e = .returned (.bool r) ∧ Drawn0 w w' := by
 have H := h
 clear h
 unfold impl_within.f at H
 by_cases c4 : a0 ≥ a1
 ·rw [if_pos c4] at H
  have y : decide (a1 ≤ a0) = true := decide_eq_true c4
  clear c4
  obtain rfl := oI H
  go_enter func61, ntmps61
  go_wp2
  go_ret
  exact ⟨Z3, Z9⟩
 ·rw [if_neg c4] at H
  have y : decide (a1 ≤ a0) = false := decide_eq_false c4
  clear c4
  obtain rfl := oI H
  go_enter func61, ntmps61
  go_wp2
  go_ret
  exact ⟨Z3, Z9⟩
def impl_isDigit.f (a0 : Int) : Option (Bool) := if a0 ≥ 48 then (some (decide (a0 ≤ 57))) else (some false)
theorem impl_isDigit.calls (a0 : Int) (r : Bool) (w : World) (h : impl_isDigit.f a0 = some r) :
  Calls prog 108 #[.int .u8 a0] w fun e w' => e = .returned (.bool r) ∧ Drawn0 w w' := by
 have H := h
 clear h
 unfold impl_isDigit.f at H
 by_cases c2 : a0 ≥ 48
 ·rw [if_pos c2] at H
  have s : decide (48 ≤ a0) = true := decide_eq_true c2
  clear c2
  obtain rfl := oI H
  go_enter func108, ntmps108
  go_wp2
  go_ret
  exact ⟨Z3, Z9⟩
 ·rw [if_neg c2] at H
  have s : decide (48 ≤ a0) = false := decide_eq_false c2
  clear c2
  obtain rfl := oI H
  go_enter func108, ntmps108
  go_wp2
  go_ret
  exact ⟨Z3, Z9⟩
def impl_isLetter.f (a0 : Int) : Option (Bool) := if a0 ≥ 97 then (if a0 ≤ 122 then (some true) else (if a0 ≥ 65 then (some (decide (a0 ≤ 90))) else (some false))) else (if a0 ≥ 65 then (some (decide (a0 ≤ 90))) else (some false))
theorem impl_isLetter.calls (a0 : Int) (r : Bool) (w : World) (h : impl_isLetter.f a0 = some r) :
  Calls prog 109 #[.int .u8 a0] w fun e w' => e = .returned (.bool r) ∧ Drawn0 w w' := by
 have H := h
 clear h
 unfold impl_isLetter.f at H
 by_cases c2 : a0 ≥ 97
 ·rw [if_pos c2] at H
  have s : decide (97 ≤ a0) = true := decide_eq_true c2
  clear c2
  by_cases c3 : a0 ≤ 122
  ·rw [if_pos c3] at H
   have y := decide_eq_true c3
   clear c3
   obtain rfl := oI H
   go_enter func109, ntmps109
   go_wp2
   go_ret
   exact ⟨Z3, Z9⟩
  ·rw [if_neg c3] at H
   have y := decide_eq_false c3
   clear c3
   by_cases c4 : a0 ≥ 65
   ·rw [if_pos c4] at H
    have D : decide (65 ≤ a0) = true := decide_eq_true c4
    clear c4
    obtain rfl := oI H
    go_enter func109, ntmps109
    go_wp2
    go_ret
    exact ⟨Z3, Z9⟩
   ·rw [if_neg c4] at H
    have D : decide (65 ≤ a0) = false := decide_eq_false c4
    clear c4
    obtain rfl := oI H
    go_enter func109, ntmps109
    go_wp2
    go_ret
    exact ⟨Z3, Z9⟩
 ·rw [if_neg c2] at H
  have s : decide (97 ≤ a0) = false := decide_eq_false c2
  clear c2
  by_cases c5 : a0 ≥ 65
  ·rw [if_pos c5] at H
   have I : decide (65 ≤ a0) = true := decide_eq_true c5
   clear c5
   obtain rfl := oI H
   go_enter func109, ntmps109
   go_wp2
   go_ret
   exact ⟨Z3, Z9⟩
  ·rw [if_neg c5] at H
   have I : decide (65 ≤ a0) = false := decide_eq_false c5
   clear c5
   obtain rfl := oI H
   go_enter func109, ntmps109
   go_wp2
   go_ret
   exact ⟨Z3, Z9⟩
mutual
def impl_NameOK.j0 : Nat → ByteArray → Bool → Option (Bool)
 | 0, _, _ => none
 | k + 1, x0, x12 => if x12 = true then (some false) else (impl_NameOK.l0 k x0 (x0.size : Int) 0)
def impl_NameOK.l0 : Nat → ByteArray → Int → Int → Option (Bool)
 | 0, _, _, _ => none
 | k + 1, x0, x14, x15 => if x15 < x14 then (if 0 ≤ x15 then (if x15 < (x0.size : Int) then ((impl_isLetter.f (bt x0 x15)).bind fun s => (if s = true then (impl_NameOK.l0 k x0 x14 (wrap64 (x15 + 1))) else ((impl_isDigit.f (bt x0 x15)).bind fun y => (if y = true then (impl_NameOK.l0 k x0 x14 (wrap64 (x15 + 1))) else (if (bt x0 x15) = 95 then (impl_NameOK.l0 k x0 x14 (wrap64 (x15 + 1))) else (some false)))))) else (none)) else (none)) else (some true)
end
def impl_NameOK.f (k : Nat) (a0 : ByteArray) : Option (Bool) := (impl_within.f (a0.size : Int) 1 40).bind fun s => (if s = true then (if 0 < (a0.size : Int) then ((impl_isDigit.f (bt a0 0)).bind fun y => (impl_NameOK.j0 k a0 y)) else (none)) else (impl_NameOK.j0 k a0 true))
theorem impl_NameOK.calls (k : Nat) (a0 : ByteArray) (r : Bool) (w : World) (h : impl_NameOK.f k a0 = some r) :
  Calls prog 75 #[.string a0] w fun e w' => e = .returned (.bool r) ∧ Drawn0 w w' := by
 have H := h
 clear h
 unfold impl_NameOK.f at H
 have aA := aM H
 clear H
 go_enter func75, ntmps75
 go_upto_region 1 with (fail)
 go_cut [12] (fun aL wc => ∃ (kq : Nat) (U : Bool), aL = .bool U ∧ Aside0 (impl_NameOK.j0 kq a0 U = some r) ∧ Aside0 (kq ≤ k) ∧ Drawn0 w wc)
 case first =>
  have H := aA.out
  clear aA
  obtain ⟨aN, A3, H⟩ := bindA H
  try dsimp only at H
  by_cases c4 : aN = true
  ·subst c4
   replace H := ifT H
   obtain ⟨c5, H⟩ := ifS H
   have aF := decide_eq_true c5
   have aO : decide (0 < a0.size) = true := decide_eq_true (Z42)
   clear c5
   (first | rw [aF] | rw [aO] | (simp only [i64_w, i32_w]; rw [aF]) | skip)
   obtain ⟨aG, A7, H⟩ := bindA H
   try dsimp only at H
   have H' := aM H
   clear H
   go_wp2_with (first | ((with_reducible refine gC 61 ?_); refine gL 6 func61 #[.int .i64 (a0.size : Int), .int .i64 1, .int .i64 40] ?_; (with_reducible refine (impl_within.calls (a0.size : Int) 1 40 true _ A3.out).mono ?_); rintro e w' ⟨rfl, ⟨nd, rfl⟩⟩; refine ⟨_, rfl, ?_⟩; have p6 : 0 ≤ (0 : Int) := (Z42); have q6 : 0 < a0.size := (by have : (0 : Int) < (a0.size : Int) := of_decide_eq_true (Z4); omega); have aX : ∀ h : 0 < a0.size, ((a0[0]'h).toNat : Int) = bt a0 0 := bt_at a0 0; clear p6; have aY : (0 < (a0.size : Int)) = True := eq_true (of_decide_eq_true (Z4)); replace q6 := eq_true q6) | (go_at_call 108; (with_reducible refine (impl_isDigit.calls (bt a0 0) aG _ A7.out).mono ?_); rintro e w' ⟨rfl, ⟨nd, rfl⟩⟩))
   go_meet
   case rel => exact ⟨_, (aG), (Z3), H', ⟨Z84⟩, Z9⟩
  ·replace c4 := Bool.eq_false_iff.mpr c4
   subst c4
   replace H := ifF H
   have H' := aM H
   clear H
   go_wp2_with (first | ((with_reducible refine gC 61 ?_); refine gL 6 func61 #[.int .i64 (a0.size : Int), .int .i64 1, .int .i64 40] ?_; (with_reducible refine (impl_within.calls (a0.size : Int) 1 40 false _ A3.out).mono ?_); rintro e w' ⟨rfl, ⟨nd, rfl⟩⟩; refine ⟨_, rfl, ?_⟩))
   go_meet
   case rel => exact ⟨_, (true), (Z3), H', ⟨Z84⟩, Z9⟩
 case rest =>
  clear aA
  obtain ⟨kq, U, rfl, HA, HJ1, ⟨aZ, rfl⟩⟩ := hcut
  cases kq with
  | zero => exact absurd HA.out (by simp [impl_NameOK.j0])
  | succ aI =>
   have H := HA.out
   clear HA
   simp only [impl_NameOK.j0] at H
   by_cases c8 : U = true
   ·subst c8
    replace H := ifT H
    obtain rfl := oI H
    go_wp2
    go_ret
    exact ⟨Z3, Z9⟩
   ·replace c8 := Bool.eq_false_iff.mpr c8
    subst c8
    replace H := ifF H
    have H' := aM H
    clear H
    go_wp2
    go_loopg [15] aI (fun kq aQ w' => ∃ (s : Int), aQ = .int .i64 s ∧ Aside0 (impl_NameOK.l0 kq a0 (a0.size : Int) s = some r) ∧ Aside0 (kq ≤ aI) ∧ Drawn0 w w')
    case atStart => exact ⟨(0), (Z3), H', ⟨Nat.le_refl _⟩, Z9⟩
    case round =>
     clear H'
     (try clear c8)
     obtain ⟨s, rfl, HA, HK2, ⟨m2, rfl⟩⟩ := hrel
     cases gk with
     | zero => exact absurd HA.out (by simp [impl_NameOK.l0])
     | succ k2 =>
      have H := HA.out
      clear HA
      simp only [impl_NameOK.l0] at H
      by_cases c9 : s < (a0.size : Int)
      ·rw [if_pos c9] at H
       have aR := decide_eq_true c9
       clear c9
       obtain ⟨c10, H⟩ := ifS H
       have a2 := decide_eq_true c10
       clear c10
       obtain ⟨aJ, H⟩ := ifS H
       have a3 := decide_eq_true aJ
       clear aJ
       obtain ⟨aS, X, H⟩ := bindA H
       try dsimp only at H
       by_cases Y : aS = true
       ·subst Y
        replace H := ifT H
        have H' := aM H
        clear H
        have p12 : 0 ≤ (s : Int) := of_decide_eq_true (Z4)
        have y : s < (a0.size : Int) := of_decide_eq_true (Z4)
        have aC := bt_at a0 s
        replace p12 := eq_true p12
        replace y := eq_true y
        go_wp2_with (first | ((with_reducible refine gC 109 ?_); refine gL 21 func109 #[.int .u8 (bt a0 s)] ?_; (with_reducible refine (impl_isLetter.calls (bt a0 s) true _ X.out).mono ?_); rintro e w' ⟨rfl, ⟨nd, rfl⟩⟩; refine ⟨_, rfl, ?_⟩))
        go_roundg k2
        case measure => have := HJ1.out; have := HK2.out; omega
        case rel => exact ⟨(wrap64 (s + 1)), (Z3), H', ⟨Z183⟩, Z9⟩
       ·replace Y := Bool.eq_false_iff.mpr Y
        subst Y
        replace H := ifF H
        obtain ⟨aT, aD, H⟩ := bindA H
        try dsimp only at H
        by_cases Z : aT = true
        ·subst Z
         replace H := ifT H
         have H' := aM H
         clear H
         have p12 : 0 ≤ (s : Int) := of_decide_eq_true (Z4)
         have y : s < (a0.size : Int) := of_decide_eq_true (Z4)
         have aC := bt_at a0 s
         replace p12 := eq_true p12
         replace y := eq_true y
         go_wp2_with (first | ((with_reducible refine gC 109 ?_); refine gL 21 func109 #[.int .u8 (bt a0 s)] ?_; (with_reducible refine (impl_isLetter.calls (bt a0 s) false _ X.out).mono ?_); rintro e w' ⟨rfl, ⟨nd, rfl⟩⟩; refine ⟨_, rfl, ?_⟩; have D : 0 ≤ (s : Int) := of_decide_eq_true (Z4); have I : s < (a0.size : Int) := of_decide_eq_true (Z4); have aK := bt_at a0 s; replace D := eq_true D; replace I := eq_true I) | (go_at_call 108; (with_reducible refine (impl_isDigit.calls (bt a0 s) true _ aD.out).mono ?_); rintro e w' ⟨rfl, ⟨nd, rfl⟩⟩))
         go_roundg k2
         case measure => have := HJ1.out; have := HK2.out; omega
         case rel => exact ⟨(wrap64 (s + 1)), (Z3), H', ⟨Z183⟩, Z9⟩
        ·replace Z := Bool.eq_false_iff.mpr Z
         subst Z
         replace H := ifF H
         by_cases J : (bt a0 s) = 95
         ·rw [if_pos J] at H
          have aU := beq_iff_eq.mpr J
          have aV := bne_eq_false_iff_eq.mpr J
          clear J
          have H' := aM H
          clear H
          have p12 : 0 ≤ (s : Int) := of_decide_eq_true (Z4)
          have y : s < (a0.size : Int) := of_decide_eq_true (Z4)
          have aC := bt_at a0 s
          replace p12 := eq_true p12
          replace y := eq_true y
          go_wp2_with (first | ((with_reducible refine gC 109 ?_); refine gL 21 func109 #[.int .u8 (bt a0 s)] ?_; (with_reducible refine (impl_isLetter.calls (bt a0 s) false _ X.out).mono ?_); rintro e w' ⟨rfl, ⟨nd, rfl⟩⟩; refine ⟨_, rfl, ?_⟩; have D : 0 ≤ (s : Int) := of_decide_eq_true (Z4); have I : s < (a0.size : Int) := of_decide_eq_true (Z4); have aK := bt_at a0 s; replace D := eq_true D; replace I := eq_true I) | (go_at_call 108; (with_reducible refine (impl_isDigit.calls (bt a0 s) false _ aD.out).mono ?_); rintro e w' ⟨rfl, ⟨nd, rfl⟩⟩; have M : 0 ≤ (s : Int) := of_decide_eq_true (Z4); have O : s < (a0.size : Int) := of_decide_eq_true (Z4); have aW := bt_at a0 s; replace M := eq_true M; replace O := eq_true O))
          go_roundg k2
          case measure => have := HJ1.out; have := HK2.out; omega
          case rel => exact ⟨(wrap64 (s + 1)), (Z3), H', ⟨Z183⟩, Z9⟩
         ·rw [if_neg J] at H
          have aU := beq_eq_false_iff_ne.mpr J
          have aV := bne_iff_ne.mpr J
          obtain rfl := oI H
          have p12 : 0 ≤ (s : Int) := of_decide_eq_true (Z4)
          have y : s < (a0.size : Int) := of_decide_eq_true (Z4)
          have aC := bt_at a0 s
          replace p12 := eq_true p12
          replace y := eq_true y
          go_wp2_with (first | ((with_reducible refine gC 109 ?_); refine gL 21 func109 #[.int .u8 (bt a0 s)] ?_; (with_reducible refine (impl_isLetter.calls (bt a0 s) false _ X.out).mono ?_); rintro e w' ⟨rfl, ⟨nd, rfl⟩⟩; refine ⟨_, rfl, ?_⟩; have D : 0 ≤ (s : Int) := of_decide_eq_true (Z4); have I : s < (a0.size : Int) := of_decide_eq_true (Z4); have aK := bt_at a0 s; replace D := eq_true D; replace I := eq_true I) | (go_at_call 108; (with_reducible refine (impl_isDigit.calls (bt a0 s) false _ aD.out).mono ?_); rintro e w' ⟨rfl, ⟨nd, rfl⟩⟩; have M : 0 ≤ (s : Int) := of_decide_eq_true (Z4); have O : s < (a0.size : Int) := of_decide_eq_true (Z4); have aW := bt_at a0 s; replace M := eq_true M; replace O := eq_true O))
          go_ret
          exact ⟨Z3, Z9⟩
      ·rw [if_neg c9] at H
       have aR := decide_eq_false c9
       clear c9
       obtain rfl := oI H
       go_wp2
       go_ret
       exact ⟨Z3, Z9⟩
def impl_keyOK.f (a0 : ByteArray) : Option (Bool) := (impl_within.f (a0.size : Int) 1 200).bind fun s => (some s)
theorem impl_keyOK.calls (a0 : ByteArray) (r : Bool) (w : World) (h : impl_keyOK.f a0 = some r) :
  Calls prog 93 #[.string a0] w fun e w' => e = .returned (.bool r) ∧ Drawn0 w w' := by
 have H := h
 clear h
 unfold impl_keyOK.f at H
 obtain ⟨s, y, H⟩ := bindA H
 try dsimp only at H
 obtain rfl := oI H
 go_enter func93, ntmps93
 go_wp2_with (first | ((with_reducible refine gC 61 ?_); refine gL 5 func61 #[.int .i64 (a0.size : Int), .int .i64 1, .int .i64 200] ?_; (with_reducible refine (impl_within.calls (a0.size : Int) 1 200 s _ y.out).mono ?_); rintro e w' ⟨rfl, ⟨nd, rfl⟩⟩; refine ⟨_, rfl, ?_⟩))
 go_ret
 exact ⟨Z3, Z9⟩
def impl_itemOK.f (s : ByteArray) (y : ByteArray) : Option (Bool) := (impl_keyOK.f s).bind fun D => (if D = true then (some (decide ((y.size : Int) ≤ 4000))) else (some false))
theorem impl_itemOK.calls (s : ByteArray) (y : ByteArray) (r : Bool) (w : World) (h : impl_itemOK.f s y = some r) :
  Calls prog 122 #[.agg #[.string s, .string y]] w fun e w' => e = .returned (.bool r) ∧ Below w.heap.size w w' := by
 have U := underlying130
 have HB := aM (Below.refl w.heap.size w)
 have H := h
 clear h
 unfold impl_itemOK.f at H
 obtain ⟨J, I, H⟩ := bindA H
 try dsimp only at H
 by_cases c3 : J = true
 ·subst c3
  replace H := ifT H
  obtain rfl := oI H
  go_enter func122, ntmps122
  go_wp2_with (first | ((with_reducible refine gD 1 ?_); (try (refine gate_guard (Z117) ?_; dsimp only)); refine bxF w 1 #[.string s, .string y] 130 (Z0) ?_; intro M hg w4 D O GE194 HB hb; clear hb hg; refine bD2 D ?_; intros) | ((with_reducible refine gC 93 ?_); refine gL 5 func93 #[.string s] ?_; (with_reducible refine (impl_keyOK.calls s true _ I.out).mono ?_); rintro e w' ⟨rfl, ⟨nd, rfl⟩⟩; refine ⟨_, rfl, ?_⟩))
  go_ret
  exact ⟨Z1, Z199⟩
 ·replace c3 := Bool.eq_false_iff.mpr c3
  subst c3
  replace H := ifF H
  obtain rfl := oI H
  go_enter func122, ntmps122
  go_wp2_with (first | ((with_reducible refine gD 1 ?_); (try (refine gate_guard (Z117) ?_; dsimp only)); refine bxF w 1 #[.string s, .string y] 130 (Z0) ?_; intro M hg w6 D O GE194 HB hb; clear hb hg; refine bD2 D ?_; intros) | ((with_reducible refine gC 93 ?_); refine gL 5 func93 #[.string s] ?_; (with_reducible refine (impl_keyOK.calls s false _ I.out).mono ?_); rintro e w' ⟨rfl, ⟨nd, rfl⟩⟩; refine ⟨_, rfl, ?_⟩))
  go_ret
  exact ⟨Z1, Z199⟩
def inC (n low high : Int) : Bool := decide (low ≤ n) && decide (n ≤ high)
theorem within_c (a b c : Int) : impl_within.f a b c = some (inC a b c) := by
 unfold impl_within.f inC
 by_cases h : a ≥ b
 ·rw [if_pos h, decide_eq_true (by omega : b ≤ a)]; rfl
 ·rw [if_neg h, decide_eq_false (by omega : ¬ b ≤ a)]; rfl
def itemB (x : S130) : Bool := inC (x.f0.size : Int) 1 200 && decide ((x.f1.size : Int) ≤ 4000)
theorem itemOK_f (x : S130) : impl_itemOK.f x.f0 x.f1 = some (itemB x) := by
 unfold impl_itemOK.f impl_keyOK.f itemB
 rw [within_c, Option.bind_some, Option.bind_some]
 cases inC (x.f0.size : Int) 1 200 with
 | true => rfl
 | false => rfl
def idxX : List S130 → Int → Int
 | [], _ => -1
 | m :: r, i => if itemB m = false then i else idxX r (i + 1)
theorem rdItem (l : List S130) (k : Nat) (h : k < l.length) : rd_T130 l (k : Int) = l[k] := by unfold rd_T130; simp [List.getD, List.getElem?_eq_getElem h]
theorem idxX_drop (l : List S130) (k : Nat) (h : k < l.length) : idxX (l.drop k) k = if itemB (rd_T130 l (k : Int)) = false then (k : Int) else idxX (l.drop (k + 1)) ((k + 1 : Nat) : Int) := by
 rw [List.drop_eq_getElem_cons h, idxX, rdItem l k h]; rfl
theorem idxX_all : ∀ (l : List S130) (i : Int), 0 ≤ i → (decide (0 ≤ idxX l i)) = !l.all itemB
 | [], i, _ => rfl
 | m :: r, i, h => by
  unfold idxX
  cases hm : itemB m with
  | false => rw [if_pos rfl, decide_eq_true h]; simp [hm]
  | true => rw [if_neg (Z174), idxX_all r (i + 1) (Z42)]; simp [hm]
theorem itemBad (x : S130) (w : World) :
  Calls prog 121 #[.agg #[.string x.f0, .string x.f1]] w fun e w' => e = .returned (.bool (!itemB x)) ∧ Below w.heap.size w w' := by
 go_enter func121, ntmps121
 go_wp2_with (go_at_call 122; refine (impl_itemOK.calls x.f0 x.f1 (itemB x) _ (itemOK_f x)).mono ?_; rintro e w1 ⟨rfl, s⟩)
 go_ret
 exact ⟨by first | rfl | (simp; done) | (simp [*]; done), Below.trans (Below.alloc (Below.refl _ _) (Nat.le_refl _) _) (s.mono (Z174))⟩
theorem itemsIndex (A : Option Addr) (c : Nat) (l : List S130) (w : World) (hC : Kd.C k130 w A l.length l) (hl : l.length ≤ 1099511627776) :
  Calls prog 126 #[.slice A l.length c, .func (.func 121) #[] #[]] w fun e w' => e = .returned (.int .i64 (idxX l 0)) ∧ Below w.heap.size w w' := by
 have eg := enters_of func121 (Z18) rfl
 have HC := aM hC
 clear hC
 go_enter func126, ntmps126
 go_wp2
 go_loopg [5, 8] l.length (fun gg _ y wr => ∃ kk : Nat, kk ≤ l.length ∧ l.length - kk ≤ gg ∧ y = .int .i64 kk ∧ Aside0 (Below w.heap.size w wr) ∧ Aside0 (idxX l 0 = idxX (l.drop kk) kk))
 case atStart => exact ⟨0, Nat.zero_le _, Z42, rfl, ⟨Below.refl _ w⟩, ⟨rfl⟩⟩
 case round =>
  obtain ⟨kk, hkk, hg, rfl, BW, AI⟩ := hrel
  by_cases hlt : kk < l.length
  ·have hltz : (kk : Int) < (l.length : Int) := by omega
   have D : 0 ≤ (kk : Int) := by omega
   obtain ⟨ad, e, s, hx1⟩ := at_T130 HC.out kk D hltz
   cases e
   simp only [Int.toNat_natCast] at s hx1
   replace s := (BW.out.cell (World.block_lt_of_cell? w _ s)).trans s
   replace hx1 := (BW.out.cell (World.block_lt_of_cell? w _ hx1)).trans hx1
   have hstep := idxX_drop l kk hlt
   have hcall := itemBad (rd_T130 l (kk : Int)) wr
   cases hq : itemB (rd_T130 l (kk : Int)) with
   | false =>
    rw [hq] at hstep hcall
    rw [if_pos rfl] at hstep
    have HS := aM hstep
    clear hstep hq
    go_wp2_with (go_at_call 121; refine hcall.mono ?_; rintro e w' ⟨rfl, hb'⟩)
    go_ret
    exact ⟨by rw [AI.out, HS.out]; rfl, Below.trans BW.out (hb'.mono BW.out.size)⟩
   | true =>
    rw [hq] at hstep hcall
    rw [if_neg (Z174)] at hstep
    have HS := aM hstep
    clear hstep hq
    go_wp2_with (go_at_call 121; refine hcall.mono ?_; rintro e w' ⟨rfl, hb'⟩)
    go_roundg (l.length - (kk + 1))
    case measure => omega
    case rel => exact ⟨kk + 1, Z42, Z42, by go_num, ⟨Below.trans BW.out (hb'.mono BW.out.size)⟩, ⟨AI.out.trans HS.out⟩⟩
  ·have hltz : ¬ (kk : Int) < (l.length : Int) := by omega
   obtain rfl : kk = l.length := by omega
   go_wp2
   go_ret
   exact ⟨Z205, BW.out⟩
theorem itemsBad (A : Option Addr) (c : Nat) (l : List S130) (b : Bool) (hb : (l.all itemB) = !b) (w : World) (hC : Kd.C k130 w A l.length l) (hl : l.length ≤ 1099511627776) :
  Calls prog 120 #[.slice A l.length c, .func (.func 121) #[] #[]] w fun e w' => e = .returned (.bool b) ∧ Below w.heap.size w w' := by
 have hx := idxX_all l 0 (Z42)
 rw [hb, Bool.not_not] at hx
 go_enter func120, ntmps120
 go_wp2_with (go_at_call 126; refine (itemsIndex A c l _ hC hl).mono ?_; rintro e w1 ⟨rfl, s⟩)
 go_ret
 exact ⟨by first | rfl | (simp [← hx]; done) | (simp [*]; done), s⟩
def bareB (u m f : Int) : Bool := decide (u = 0) && decide (m = 0) && decide (f = 0)
def kindB (k u m f : Int) (n : Nat) : Bool :=
 if k = 1 ∨ k = 4 then bareB u m f && decide (n = 0) else if k = 2 then bareB u m f && decide (0 < n) else if k = 3 then decide (n = 0) && inC u 1 1000 && inC m 1 3 && inC f 0 31 else false
def impl_MutationOK.f (k : Nat) (y D I J : Int) (M : ByteArray) (s : List S130) : Option Bool :=
 if s.length ≤ 1099511627776 then (impl_NameOK.f k M).bind fun nb => some (nb && decide (s.length ≤ 20) && s.all itemB && kindB y D I J s.length) else none
theorem impl_MutationOK.calls (k : Nat) (D I M O : Int) (Y : ByteArray) (aA : Option Addr) (aB : Nat) (s : List S130) (r : Bool) (w : World) (aO : Kd.C k130 w aA s.length s) (aV : s.length ≤ aB) (h : impl_MutationOK.f k D I M O Y s = some r) :
  Calls prog 102 #[.agg #[.int .i64 D, .int .i64 I, .int .i64 M, .int .i64 O, .string Y, .slice aA s.length aB]] w fun e w' => e = .returned (.bool r) ∧ Below w.heap.size w w' := by
 unfold impl_MutationOK.f at h
 by_cases hl : s.length ≤ 1099511627776
 case neg => rw [if_neg hl] at h; cases h
 rw [if_pos hl] at h
 obtain ⟨nb, hN, h⟩ := Option.bind_eq_some_iff.mp h
 simp only [Option.some.injEq] at h
 subst h
 have HN := aM hN
 have HC := aM (Kd.C_drewN (Kd.C_alloc aO (.cells #[.int .i64 D, .int .i64 I, .int .i64 M, .int .i64 O, .string Y, .slice aA s.length aB] 103)))
 have HL := aM hl
 clear aO hN hl
 cases nb with
 | false =>
  go_enter func102, ntmps102
  go_wp2_with (go_at_call 75; refine (impl_NameOK.calls k Y false _ HN.out).mono ?_; rintro e w1 ⟨rfl, ⟨nd, rfl⟩⟩)
  go_ret
  exact ⟨Z174, Z6⟩
 | true =>
  by_cases aG : s.length ≤ 20
  case neg =>
   have aQ : decide (20 < (s.length : Int)) = true := decide_eq_true (Z42)
   have HX := aM aG
   clear aG
   go_enter func102, ntmps102
   go_wp2_with (go_at_call 75; refine (impl_NameOK.calls k Y true _ HN.out).mono ?_; rintro e w1 ⟨rfl, ⟨nd, rfl⟩⟩)
   go_ret
   exact ⟨by rw [decide_eq_false HX.out]; simp, Z6⟩
  have aQ : decide (20 < (s.length : Int)) = false := decide_eq_false (Z42)
  have HX := aM aG
  clear aG
  cases hall : s.all itemB with
  | false =>
   have HA := aM hall
   clear hall
   go_enter func102, ntmps102
   go_wp2_with (first | (go_at_call 75; refine (impl_NameOK.calls k Y true _ HN.out).mono ?_; rintro e w1 ⟨rfl, ⟨nd, rfl⟩⟩) | (go_at_call 120; refine (itemsBad aA aB s true HA.out _ (HC.out _) HL.out).mono ?_; rintro e w2 ⟨rfl, U⟩))
   go_ret
   exact ⟨Z174, Below.trans (Z6) (U.mono (Z174))⟩
  | true =>
   have HA := aM hall
   clear hall
   rw [decide_eq_true HX.out]
   simp only [Bool.true_and]
   have hb : ∀ x y : Int, (x == y) = decide (x = y) := fun _ _ => rfl
   obtain ⟨B, hB⟩ : ∃ B : Bool, bareB I M O = B := ⟨_, rfl⟩
   have hs : (B = false ∧ (I == 0) = false) ∨ (B = false ∧ (I == 0) = true ∧ (M == 0) = false) ∨ (B = false ∧ (I == 0) = true ∧ (M == 0) = true ∧ (O == 0) = false) ∨ (B = true ∧ (I == 0) = true ∧ (M == 0) = true ∧ (O == 0) = true) := by
    rw [hb, hb, hb, ← hB]; unfold bareB
    by_cases c1 : I = 0 <;> by_cases c2 : M = 0 <;> by_cases c3 : O = 0 <;> simp [c1, c2, c3]
   have aD : ((s.length : Int) == 0) = decide (s.length = 0) := by rw [hb]; exact decide_eq_decide.mpr (Z42)
   have aE : decide (0 < (s.length : Int)) = decide (0 < s.length) := decide_eq_decide.mpr (Z42)
   by_cases Z : D = 1 ∨ D = 4
   ·have e : kindB D I M O s.length = (B && ((s.length : Int) == 0)) := by unfold kindB; rw [if_pos Z, hB, aD]
    rw [e]
    clear e hB aD aE hb
    rcases Z with rfl | rfl <;> rcases hs with ⟨rfl, J⟩ | ⟨rfl, J, X⟩ | ⟨rfl, J, X, b3⟩ | ⟨rfl, J, X, b3⟩
    all_goals
     go_enter func102, ntmps102
     go_wp2_with (first | (go_at_call 75; refine (impl_NameOK.calls k Y true _ HN.out).mono ?_; rintro e w1 ⟨rfl, ⟨nd, rfl⟩⟩) | (go_at_call 120; refine (itemsBad aA aB s false HA.out _ (HC.out _) HL.out).mono ?_; rintro e w2 ⟨rfl, U⟩; have HB2 : Below w.heap.size w w2 := Below.trans (Z6) (U.mono (Z174)); obtain ⟨aH, aI, aJ⟩ := bcall U))
     go_ret
     exact ⟨Z208, Z206⟩
   by_cases k2 : D = 2
   ·have e : kindB D I M O s.length = (B && decide (0 < (s.length : Int))) := by unfold kindB; rw [if_neg Z, if_pos k2, hB, aE]
    rw [e]
    clear e hB aD aE hb Z
    subst k2
    rcases hs with ⟨rfl, J⟩ | ⟨rfl, J, X⟩ | ⟨rfl, J, X, b3⟩ | ⟨rfl, J, X, b3⟩
    all_goals
     go_enter func102, ntmps102
     go_wp2_with (first | (go_at_call 75; refine (impl_NameOK.calls k Y true _ HN.out).mono ?_; rintro e w1 ⟨rfl, ⟨nd, rfl⟩⟩) | (go_at_call 120; refine (itemsBad aA aB s false HA.out _ (HC.out _) HL.out).mono ?_; rintro e w2 ⟨rfl, U⟩; have HB2 : Below w.heap.size w w2 := Below.trans (Z6) (U.mono (Z174)); obtain ⟨aH, aI, aJ⟩ := bcall U))
     go_ret
     exact ⟨Z208, Z206⟩
   by_cases k3 : D = 3
   ·obtain ⟨C1, aK⟩ : ∃ C, inC I 1 1000 = C := ⟨_, rfl⟩
    obtain ⟨C2, aL⟩ : ∃ C, inC M 1 3 = C := ⟨_, rfl⟩
    obtain ⟨C3, aN⟩ : ∃ C, inC O 0 31 = C := ⟨_, rfl⟩
    have e : kindB D I M O s.length = (((s.length : Int) == 0) && C1 && C2 && C3) := by unfold kindB; rw [if_neg Z, if_neg k2, if_pos k3, aD, aK, aL, aN]
    rw [e]
    have aS := aM (aK ▸ within_c I 1 1000)
    have aT := aM (aL ▸ within_c M 1 3)
    have aU := aM (aN ▸ within_c O 0 31)
    clear e hB aD aE hb Z k2 aK aL aN
    subst k3
    cases aW : ((s.length : Int) == 0) <;> cases C1 <;> cases C2
    all_goals rcases hs with ⟨rfl, J⟩ | ⟨rfl, J, X⟩ | ⟨rfl, J, X, b3⟩ | ⟨rfl, J, X, b3⟩
    all_goals
     go_enter func102, ntmps102
     go_wp2_with (first | (go_at_call 75; refine (impl_NameOK.calls k Y true _ HN.out).mono ?_; rintro e w1 ⟨rfl, ⟨nd, rfl⟩⟩) | (go_at_call 120; refine (itemsBad aA aB s false HA.out _ (HC.out _) HL.out).mono ?_; rintro e w2 ⟨rfl, U⟩; have HB2 : Below w.heap.size w w2 := Below.trans (Z6) (U.mono (Z174)); obtain ⟨aH, aI, aJ⟩ := bcall U) | (go_at_call 61; refine (impl_within.calls _ _ _ _ _ (by first | exact aS.out | exact aT.out | exact aU.out)).mono ?_; rintro e w3 ⟨rfl, ⟨aX, rfl⟩⟩))
     go_ret
     exact ⟨Z208, Z206⟩
   ·have e : kindB D I M O s.length = false := by unfold kindB; rw [if_neg Z, if_neg k2, if_neg k3]
    rw [e]
    have t1 : (D == 1) = false := beq_eq_false_iff_ne.mpr (fun h => Z (.inl h))
    have t4 : (D == 4) = false := beq_eq_false_iff_ne.mpr (fun h => Z (.inr h))
    have t2 : (D == 2) = false := beq_eq_false_iff_ne.mpr k2
    have t3 : (D == 3) = false := beq_eq_false_iff_ne.mpr k3
    clear e hB aD aE hb Z k2 k3
    rcases hs with ⟨rfl, J⟩ | ⟨rfl, J, X⟩ | ⟨rfl, J, X, b3⟩ | ⟨rfl, J, X, b3⟩
    all_goals
     go_enter func102, ntmps102
     go_wp2_with (first | (go_at_call 75; refine (impl_NameOK.calls k Y true _ HN.out).mono ?_; rintro e w1 ⟨rfl, ⟨nd, rfl⟩⟩) | (go_at_call 120; refine (itemsBad aA aB s false HA.out _ (HC.out _) HL.out).mono ?_; rintro e w2 ⟨rfl, U⟩; have HB2 : Below w.heap.size w w2 := Below.trans (Z6) (U.mono (Z174)); obtain ⟨aH, aI, aJ⟩ := bcall U))
     go_ret
     exact ⟨Z208, Z206⟩
theorem contains_front (k : Nat) (A : Option Addr) (c : Nat) (l : List ByteArray) (n : Nat) (x : ByteArray) (r : Bool) (w : World) (hC : Kd.C Kd.string w A l.length l) (hn : n ≤ l.length) (hc : l.length ≤ c) (h : slices_Contains_string_string.f k (l.take n) x = some r) :
  Calls prog 94 #[.slice A n c, .string x] w fun e w' => e = .returned (.bool r) ∧ Drawn0 w w' := by
 have e : (l.take n).length = n := by rw [List.length_take]; omega
 have := slices_Contains_string_string.calls k A c (l.take n) x r w (Kd.C_take hC hn) (Z42) h
 rw [e] at this; exact this
mutual
def impl_BoxOK.j0 : Nat → Bool → ByteArray → Int → Int → List (S109) → List ByteArray → Option (Bool)
 | 0, _, _, _, _, _, _ => none
 | k + 1, M, I, J, y, D, s => if M = true then (some false) else (if (D.length : Int) > 30 then (impl_BoxOK.j1 k true I J y D s) else (if (s.length : Int) > 60 then (impl_BoxOK.j1 k true I J y D s) else (impl_BoxOK.j1 k ((s.length : Int) != (wrap64 (y - 1))) I J y D s)))
def impl_BoxOK.j1 : Nat → Bool → ByteArray → Int → Int → List (S109) → List ByteArray → Option (Bool)
 | 0, _, _, _, _, _, _ => none
 | k + 1, y, D, I, J, s, M => if y = true then (some false) else (impl_BoxOK.l0 k 0 s (s.length : Int) 0 D I J s M)
def impl_BoxOK.l0 : Nat → Int → List (S109) → Int → Int → ByteArray → Int → Int → List (S109) → List ByteArray → Option (Bool)
 | 0, _, _, _, _, _, _, _, _, _ => none
 | k + 1, x3, y, J, s, M, O, I, U, D => if s < J then (if 0 ≤ s then (if s < (y.length : Int) then ((impl_within.f ((rd_T109 y s).f0) (wrap64 (x3 + 1)) (wrap64 (I - 1))).bind fun X => (if X = true then ((impl_within.f ((rd_T109 y s).f1) 0 31).bind fun Y => (if Y = true then (if (((rd_T109 y s).f2).size : Int) > 4000 then (some false) else (impl_BoxOK.l0 k ((rd_T109 y s).f0) y J (wrap64 (s + 1)) M O I U D)) else (some false))) else (some false))) else (none)) else (none)) else (impl_BoxOK.l1 k D (D.length : Int) 0 M O I U D)
def impl_BoxOK.l1 : Nat → List ByteArray → Int → Int → ByteArray → Int → Int → List (S109) → List ByteArray → Option (Bool)
 | 0, _, _, _, _, _, _, _, _ => none
 | k + 1, y, I, s, J, M, O, U, D => if s < I then (if 0 ≤ s then (if s < (y.length : Int) then ((impl_keyOK.f (rdOf ByteArray.empty y s)).bind fun X => (if X = true then (if s ≤ (D.length : Int) then ((slices_Contains_string_string.f k (D.take (s : Int).toNat) (rdOf ByteArray.empty y s)).bind fun Y => (if Y = true then (some false) else (impl_BoxOK.l1 k y I (wrap64 (s + 1)) J M O U D))) else (none)) else (some false))) else (none)) else (none)) else (some true)
end
def impl_BoxOK.f (k : Nat) (s : ByteArray) (y : Int) (D : Int) (l0_3 : List (S109)) (I : List ByteArray) : Option (Bool) := (impl_NameOK.f k s).bind fun J => (if J = true then ((impl_within.f y 1 1000000).bind fun M => (if M = true then ((impl_within.f D 1 1001).bind fun O => (impl_BoxOK.j0 k (!O) s y D l0_3 I)) else (impl_BoxOK.j0 k true s y D l0_3 I))) else (impl_BoxOK.j0 k true s y D l0_3 I))
theorem impl_BoxOK.calls (k : Nat) (J : ByteArray) (U : Int) (I : Int) (aG : Option Addr) (aH : Nat) (l0_3 : List (S109)) (aI : Option Addr) (aD : Nat) (s : List ByteArray) (r : Bool) (w : World) (aQ : Kd.C k109 w aG l0_3.length l0_3) (bP : l0_3.length ≤ aH) (aE : Kd.C Kd.string w aI s.length s) (aR : s.length ≤ aD) (h : impl_BoxOK.f k J U I l0_3 s = some r) :
  Calls prog 62 #[.agg #[.string J, .int .i64 U, .int .i64 I, .slice aG l0_3.length aH, .slice aI s.length aD]] w fun e w' => e = .returned (.bool r) ∧ Below w.heap.size w w' := by
 have cZ := underlying98
 have dA := underlying109
 replace aQ := aM aQ
 replace bP := aM bP
 replace aE := aM aE
 replace aR := aM aR
 have HB := aM (Below.refl w.heap.size w)
 have H := h
 clear h
 unfold impl_BoxOK.f at H
 have bD := aM H
 clear H
 go_enter func62, ntmps62
 go_upto_region 1 with (first | ((with_reducible refine gD 1 ?_); (try (refine gate_guard (Z117) ?_; dsimp only)); refine bxF w 1 #[.string J, .int .i64 U, .int .i64 I, .slice aG l0_3.length aH, .slice aI s.length aD] 98 (Z0) ?_; intro aZ hg w3 BK377 dB GE377 HB hb; clear hb hg))
 (try simp only [Act.put, List.setIfInBounds_toArray, List.set_cons_zero, List.set_cons_succ])
 go_cut [23] (fun cC wc => ∃ (kq : Nat) (a2 : Bool), cC = .bool a2 ∧ Aside0 (impl_BoxOK.j0 kq a2 J U I l0_3 s = some r) ∧ Aside0 (kq ≤ k) ∧ Aside0 (wc.heap[aZ]? = some (.cells #[.string J, .int .i64 U, .int .i64 I, (.slice aG l0_3.length aH), (.slice aI s.length aD)] 98 (0, 0))) ∧ Aside0 (Below w.heap.size w wc))
 case first =>
  have H := bD.out
  clear bD
  obtain ⟨cD, A4, H⟩ := bindA H
  try dsimp only at H
  by_cases c5 : cD = true
  ·subst c5
   replace H := ifT H
   obtain ⟨cG, A6, H⟩ := bindA H
   try dsimp only at H
   by_cases c7 : cG = true
   ·subst c7
    replace H := ifT H
    obtain ⟨bR, A8, H⟩ := bindA H
    try dsimp only at H
    have H' := aM H
    clear H
    refine bD5 BK377 ?_
    intros
    go_wp2_with (first | ((with_reducible refine gC 75 ?_); refine gL 10 func75 #[.string J] ?_; (with_reducible refine (impl_NameOK.calls k J true _ A4.out).mono ?_); rintro e w' ⟨rfl, ⟨nd, rfl⟩⟩; refine ⟨_, rfl, ?_⟩) | (go_at_call 61; (with_reducible refine (impl_within.calls U 1 1000000 true _ A6.out).mono ?_); rintro e w' ⟨rfl, ⟨nd, rfl⟩⟩) | (go_at_call 61; (with_reducible refine (impl_within.calls I 1 1001 bR _ A8.out).mono ?_); rintro e w' ⟨rfl, ⟨nd, rfl⟩⟩))
    go_meet
    case rel => exact ⟨_, (!bR), (Z3), H', ⟨Z84⟩, ⟨Z36⟩, ⟨Z17⟩⟩
   ·replace c7 := Bool.eq_false_iff.mpr c7
    subst c7
    replace H := ifF H
    have H' := aM H
    clear H
    refine bD5 BK377 ?_
    intros
    go_wp2_with (first | ((with_reducible refine gC 75 ?_); refine gL 10 func75 #[.string J] ?_; (with_reducible refine (impl_NameOK.calls k J true _ A4.out).mono ?_); rintro e w' ⟨rfl, ⟨nd, rfl⟩⟩; refine ⟨_, rfl, ?_⟩) | (go_at_call 61; (with_reducible refine (impl_within.calls U 1 1000000 false _ A6.out).mono ?_); rintro e w' ⟨rfl, ⟨nd, rfl⟩⟩))
    go_meet
    case rel => exact ⟨_, (true), (Z3), H', ⟨Z84⟩, ⟨Z36⟩, ⟨Z17⟩⟩
  ·replace c5 := Bool.eq_false_iff.mpr c5
   subst c5
   replace H := ifF H
   have H' := aM H
   clear H
   refine bD5 BK377 ?_
   intros
   go_wp2_with (first | ((with_reducible refine gC 75 ?_); refine gL 10 func75 #[.string J] ?_; (with_reducible refine (impl_NameOK.calls k J false _ A4.out).mono ?_); rintro e w' ⟨rfl, ⟨nd, rfl⟩⟩; refine ⟨_, rfl, ?_⟩))
   go_meet
   case rel => exact ⟨_, (true), (Z3), H', ⟨Z84⟩, ⟨Z36⟩, ⟨Z17⟩⟩
 case rest =>
  clear bD
  obtain ⟨kq, a2, rfl, HA, HJ1, BK377, HB⟩ := hcut
  cases kq with
  | zero => exact absurd HA.out (by simp [impl_BoxOK.j0])
  | succ cI =>
   have H := HA.out
   clear HA
   simp only [impl_BoxOK.j0] at H
   by_cases aJ : a2 = true
   ·subst aJ
    replace H := ifT H
    obtain rfl := oI H
    go_wp2
    go_ret
    exact ⟨Z1, Z17⟩
   ·replace aJ := Bool.eq_false_iff.mpr aJ
    subst aJ
    replace H := ifF H
    have bF := aM H
    clear H
    go_upto_region 3 with (fail)
    go_cut [42] (fun cJ wc => ∃ (kq : Nat) (a3 : Bool), cJ = .bool a3 ∧ Aside0 (impl_BoxOK.j1 kq a3 J U I l0_3 s = some r) ∧ Aside0 (kq ≤ cI) ∧ Aside0 (wc.heap[aZ]? = some (.cells #[.string J, .int .i64 U, .int .i64 I, (.slice aG l0_3.length aH), (.slice aI s.length aD)] 98 (0, 0))) ∧ Aside0 (Below w.heap.size w wc))
    case first =>
     have H := bF.out
     clear bF
     by_cases aS : (l0_3.length : Int) > 30
     ·rw [if_pos aS] at H
      have aX : decide (30 < (l0_3.length : Int)) = true := decide_eq_true aS
      have bG : decide (30 < l0_3.length) = true := decide_eq_true (Z42)
      clear aS
      (first | rw [aX] | rw [bG] | (simp only [i64_w, i32_w]; rw [aX]) | skip)
      have H' := aM H
      clear H
      refine bD5 BK377 ?_
      intros
      go_wp2
      go_meet
      case rel => exact ⟨_, (true), (Z3), H', ⟨Z202⟩, ⟨Z36⟩, ⟨Z17⟩⟩
     ·rw [if_neg aS] at H
      have aX : decide (30 < (l0_3.length : Int)) = false := decide_eq_false aS
      have bG : decide (30 < l0_3.length) = false := decide_eq_false (Z42)
      clear aS
      (first | rw [aX] | rw [bG] | (simp only [i64_w, i32_w]; rw [aX]) | skip)
      by_cases aT : (s.length : Int) > 60
      ·rw [if_pos aT] at H
       have cK : decide (60 < (s.length : Int)) = true := decide_eq_true aT
       have cL : decide (60 < s.length) = true := decide_eq_true (Z42)
       clear aT
       have H' := aM H
       clear H
       refine bD5 BK377 ?_
       intros
       go_wp2
       go_meet
       case rel => exact ⟨_, (true), (Z3), H', ⟨Z202⟩, ⟨Z36⟩, ⟨Z17⟩⟩
      ·rw [if_neg aT] at H
       have cK : decide (60 < (s.length : Int)) = false := decide_eq_false aT
       have cL : decide (60 < s.length) = false := decide_eq_false (Z42)
       clear aT
       have H' := aM H
       clear H
       refine bD5 BK377 ?_
       intros
       go_wp2
       go_meet
       case rel => exact ⟨_, (((s.length : Int) != (wrap64 (I - 1)))), (Z3), H', ⟨Z202⟩, ⟨Z36⟩, ⟨Z17⟩⟩
    case rest =>
     clear bF
     (try clear aJ)
     obtain ⟨kq, a3, rfl, HA, a5, BK377, HB⟩ := hcut
     cases kq with
     | zero => exact absurd HA.out (by simp [impl_BoxOK.j1])
     | succ bS =>
      have H := HA.out
      clear HA
      simp only [impl_BoxOK.j1] at H
      by_cases aU : a3 = true
      ·subst aU
       replace H := ifT H
       obtain rfl := oI H
       go_wp2
       go_ret
       exact ⟨Z1, Z17⟩
      ·replace aU := Bool.eq_false_iff.mpr aU
       subst aU
       replace H := ifF H
       have H' := aM H
       clear H
       refine bD5 BK377 ?_
       intros
       go_wp2
       go_loopg [3, 46] bS (fun kq v3 cN w' => ∃ (X : Int) (y : Int), v3 = .int .i64 X ∧ cN = .int .i64 y ∧ Aside0 (impl_BoxOK.l0 kq X l0_3 (l0_3.length : Int) y J U I l0_3 s = some r) ∧ Aside0 (kq ≤ bS) ∧ Aside0 (w'.heap[aZ]? = some (.cells #[.string J, .int .i64 U, .int .i64 I, (.slice aG l0_3.length aH), (.slice aI s.length aD)] 98 (0, 0))) ∧ Aside0 (Below w.heap.size w w'))
       case atStart => exact ⟨(0), (0), (Z3), (Z3), H', ⟨Nat.le_refl _⟩, ⟨Z36⟩, ⟨Z17⟩⟩
       case round =>
        clear H'
        (try clear aJ); (try clear aU)
        obtain ⟨X, y, rfl, rfl, HA, a6, BK377, HB⟩ := hrel
        cases gk with
        | zero => exact absurd HA.out (by simp [impl_BoxOK.l0])
        | succ k3 =>
         have H := HA.out
         clear HA
         simp only [impl_BoxOK.l0] at H
         by_cases aK : y < (l0_3.length : Int)
         ·rw [if_pos aK] at H
          have bT := decide_eq_true aK
          clear aK
          obtain ⟨bU, H⟩ := ifS H
          have dC := decide_eq_true bU
          clear bU
          obtain ⟨bV, H⟩ := ifS H
          have dD := decide_eq_true bV
          clear bV
          obtain ⟨cO, a7, H⟩ := bindA H
          try dsimp only at H
          by_cases a8 : cO = true
          ·subst a8
           replace H := ifT H
           obtain ⟨cP, bI, H⟩ := bindA H
           try dsimp only at H
           by_cases a9 : cP = true
           ·subst a9
            replace H := ifT H
            by_cases aV : (((rd_T109 l0_3 y).f2).size : Int) > 4000
            ·rw [if_pos aV] at H
             have cQ : decide (4000 < (((rd_T109 l0_3 y).f2).size : Int)) = true := decide_eq_true aV
             have cR : decide (4000 < ((rd_T109 l0_3 y).f2).size) = true := decide_eq_true (Z42)
             clear aV
             obtain rfl := oI H
             have M : 0 ≤ (y : Int) := of_decide_eq_true (Z4)
             have O : y < (l0_3.length : Int) := of_decide_eq_true (Z4)
             obtain ⟨bJ, aL, Y, Z, aA⟩ := at_T109 aQ.out y M O
             cases aL
             replace Y := cB HB.out Y
             replace Z := cB HB.out Z
             replace aA := cB HB.out aA
             replace M := eq_true M
             replace O := eq_true O
             go_wp2_with (first | ((with_reducible refine gD 5 ?_); (try (refine gate_guard (Z117) ?_; dsimp only)); refine bxF w 5 #[.int .i64 0, .int .i64 0, .string (⟨#[]⟩ : ByteArray)] 109 (Z17) ?_; intro bK hg dE aN bL GE382 HB hb; have aO := aM ((nL BK377 hg (Z36))); have aP := aM ((nG BK377 hg (Z36))); replace BK377 := aM (kB BK377 (Z36) hb); clear hb hg; have dF := aP.out; have dG := aO.out; refine bD3 aN ?_; intros; refine bD5 BK377 ?_; intros) | ((with_reducible refine gC 61 ?_); refine gL 57 func61 #[.int .i64 ((rd_T109 l0_3 y).f0), .int .i64 (wrap64 (X + 1)), .int .i64 (wrap64 (I - 1))] ?_; (with_reducible refine (impl_within.calls ((rd_T109 l0_3 y).f0) (wrap64 (X + 1)) (wrap64 (I - 1)) true _ a7.out).mono ?_); rintro e w' ⟨rfl, ⟨nd, rfl⟩⟩; refine ⟨_, rfl, ?_⟩) | (go_at_call 61; (with_reducible refine (impl_within.calls ((rd_T109 l0_3 y).f1) 0 31 true _ bI.out).mono ?_); rintro e w' ⟨rfl, ⟨nd, rfl⟩⟩))
             go_ret
             exact ⟨Z1, Z118⟩
            ·rw [if_neg aV] at H
             have cQ : decide (4000 < (((rd_T109 l0_3 y).f2).size : Int)) = false := decide_eq_false aV
             have cR : decide (4000 < ((rd_T109 l0_3 y).f2).size) = false := decide_eq_false (Z42)
             clear aV
             have H' := aM H
             clear H
             have M : 0 ≤ (y : Int) := of_decide_eq_true (Z4)
             have O : y < (l0_3.length : Int) := of_decide_eq_true (Z4)
             obtain ⟨bJ, aL, Y, Z, aA⟩ := at_T109 aQ.out y M O
             cases aL
             replace Y := cB HB.out Y
             replace Z := cB HB.out Z
             replace aA := cB HB.out aA
             replace M := eq_true M
             replace O := eq_true O
             go_wp2_with (first | ((with_reducible refine gD 5 ?_); (try (refine gate_guard (Z117) ?_; dsimp only)); refine bxF w 5 #[.int .i64 0, .int .i64 0, .string (⟨#[]⟩ : ByteArray)] 109 (Z17) ?_; intro bK hg dH aN bL GE382 HB hb; have aO := aM ((nL BK377 hg (Z36))); have aP := aM ((nG BK377 hg (Z36))); replace BK377 := aM (kB BK377 (Z36) hb); clear hb hg; have dI := aP.out; have dJ := aO.out; refine bD3 aN ?_; intros; refine bD5 BK377 ?_; intros) | ((with_reducible refine gC 61 ?_); refine gL 57 func61 #[.int .i64 ((rd_T109 l0_3 y).f0), .int .i64 (wrap64 (X + 1)), .int .i64 (wrap64 (I - 1))] ?_; (with_reducible refine (impl_within.calls ((rd_T109 l0_3 y).f0) (wrap64 (X + 1)) (wrap64 (I - 1)) true _ a7.out).mono ?_); rintro e w' ⟨rfl, ⟨nd, rfl⟩⟩; refine ⟨_, rfl, ?_⟩) | (go_at_call 61; (with_reducible refine (impl_within.calls ((rd_T109 l0_3 y).f1) 0 31 true _ bI.out).mono ?_); rintro e w' ⟨rfl, ⟨nd, rfl⟩⟩))
             go_roundg k3
             case measure => have := HJ1.out; have := a5.out; have := a6.out; omega
             case rel => exact ⟨((rd_T109 l0_3 y).f0), (wrap64 (y + 1)), (Z3), (Z3), H', ⟨by have := HJ1.out; have := a5.out; have := a6.out; omega⟩, ⟨zB⟩, ⟨Z118⟩⟩
           ·replace a9 := Bool.eq_false_iff.mpr a9
            subst a9
            replace H := ifF H
            obtain rfl := oI H
            have M : 0 ≤ (y : Int) := of_decide_eq_true (Z4)
            have O : y < (l0_3.length : Int) := of_decide_eq_true (Z4)
            obtain ⟨bJ, aL, Y, Z, aA⟩ := at_T109 aQ.out y M O
            cases aL
            replace Y := cB HB.out Y
            replace Z := cB HB.out Z
            replace aA := cB HB.out aA
            replace M := eq_true M
            replace O := eq_true O
            go_wp2_with (first | ((with_reducible refine gD 5 ?_); (try (refine gate_guard (Z117) ?_; dsimp only)); refine bxF w 5 #[.int .i64 0, .int .i64 0, .string (⟨#[]⟩ : ByteArray)] 109 (Z17) ?_; intro bK hg dK aN bL GE382 HB hb; have aO := aM ((nL BK377 hg (Z36))); have aP := aM ((nG BK377 hg (Z36))); replace BK377 := aM (kB BK377 (Z36) hb); clear hb hg; have dL := aP.out; have dM := aO.out; refine bD3 aN ?_; intros; refine bD5 BK377 ?_; intros) | ((with_reducible refine gC 61 ?_); refine gL 57 func61 #[.int .i64 ((rd_T109 l0_3 y).f0), .int .i64 (wrap64 (X + 1)), .int .i64 (wrap64 (I - 1))] ?_; (with_reducible refine (impl_within.calls ((rd_T109 l0_3 y).f0) (wrap64 (X + 1)) (wrap64 (I - 1)) true _ a7.out).mono ?_); rintro e w' ⟨rfl, ⟨nd, rfl⟩⟩; refine ⟨_, rfl, ?_⟩) | (go_at_call 61; (with_reducible refine (impl_within.calls ((rd_T109 l0_3 y).f1) 0 31 false _ bI.out).mono ?_); rintro e w' ⟨rfl, ⟨nd, rfl⟩⟩))
            go_ret
            exact ⟨Z1, Z118⟩
          ·replace a8 := Bool.eq_false_iff.mpr a8
           subst a8
           replace H := ifF H
           obtain rfl := oI H
           have M : 0 ≤ (y : Int) := of_decide_eq_true (Z4)
           have O : y < (l0_3.length : Int) := of_decide_eq_true (Z4)
           obtain ⟨bJ, aL, Y, Z, aA⟩ := at_T109 aQ.out y M O
           cases aL
           replace Y := cB HB.out Y
           replace Z := cB HB.out Z
           replace aA := cB HB.out aA
           replace M := eq_true M
           replace O := eq_true O
           go_wp2_with (first | ((with_reducible refine gD 5 ?_); (try (refine gate_guard (Z117) ?_; dsimp only)); refine bxF w 5 #[.int .i64 0, .int .i64 0, .string (⟨#[]⟩ : ByteArray)] 109 (Z17) ?_; intro bK hg dN aN bL GE382 HB hb; have aO := aM ((nL BK377 hg (Z36))); have aP := aM ((nG BK377 hg (Z36))); replace BK377 := aM (kB BK377 (Z36) hb); clear hb hg; have dO := aP.out; have dP := aO.out; refine bD3 aN ?_; intros; refine bD5 BK377 ?_; intros) | ((with_reducible refine gC 61 ?_); refine gL 57 func61 #[.int .i64 ((rd_T109 l0_3 y).f0), .int .i64 (wrap64 (X + 1)), .int .i64 (wrap64 (I - 1))] ?_; (with_reducible refine (impl_within.calls ((rd_T109 l0_3 y).f0) (wrap64 (X + 1)) (wrap64 (I - 1)) false _ a7.out).mono ?_); rintro e w' ⟨rfl, ⟨nd, rfl⟩⟩; refine ⟨_, rfl, ?_⟩))
           go_ret
           exact ⟨Z1, Z118⟩
         ·rw [if_neg aK] at H
          have bT := decide_eq_false aK
          clear aK
          have H' := aM H
          clear H
          refine bD5 BK377 ?_
          intros
          go_wp2
          go_loopg [77] k3 (fun kq cS w' => ∃ (D : Int), cS = .int .i64 D ∧ Aside0 (impl_BoxOK.l1 kq s (s.length : Int) D J U I l0_3 s = some r) ∧ Aside0 (kq ≤ k3) ∧ Aside0 (w'.heap[aZ]? = some (.cells #[.string J, .int .i64 U, .int .i64 I, (.slice aG l0_3.length aH), (.slice aI s.length aD)] 98 (0, 0))) ∧ Aside0 (Below w.heap.size w w'))
          case atStart => exact ⟨(0), (Z3), H', ⟨Nat.le_refl _⟩, ⟨Z36⟩, ⟨Z17⟩⟩
          case round =>
           clear H'
           (try clear aJ); (try clear aU); (try clear aK); (try clear bT)
           obtain ⟨D, rfl, HA, bW, BK377, HB⟩ := hrel
           cases gk with
           | zero => exact absurd HA.out (by simp [impl_BoxOK.l1])
           | succ k4 =>
            have H := HA.out
            clear HA
            simp only [impl_BoxOK.l1] at H
            by_cases aW : D < (s.length : Int)
            ·rw [if_pos aW] at H
             have cT := decide_eq_true aW
             clear aW
             obtain ⟨bX, H⟩ := ifS H
             have dQ := decide_eq_true bX
             clear bX
             obtain ⟨bY, H⟩ := ifS H
             have dR := decide_eq_true bY
             clear bY
             obtain ⟨cU, bN, H⟩ := bindA H
             try dsimp only at H
             by_cases bA : cU = true
             ·subst bA
              replace H := ifT H
              have dS := eq_true (of_decide_eq_true (Z4) : 0 ≤ D)
              obtain ⟨bO, H⟩ := ifS H
              have dT := eq_true bO
              have dU : decide (D ≤ (s.length : Int)) = true := decide_eq_true bO
              clear bO
              obtain ⟨cV, bZ, H⟩ := bindA H
              try dsimp only at H
              by_cases bB : cV = true
              ·subst bB
               replace H := ifT H
               obtain rfl := oI H
               have aB : 0 ≤ (D : Int) := of_decide_eq_true (Z4)
               have aC : D < (s.length : Int) := of_decide_eq_true (Z4)
               obtain ⟨bC, aY, aF⟩ := Kd.at_string aE.out D aB aC
               cases aY
               replace aF := cB HB.out aF
               replace aB := eq_true aB
               replace aC := eq_true aC
               go_wp2_with (first | ((with_reducible refine gC 93 ?_); refine gL 83 func93 #[.string (rdOf ByteArray.empty s D)] ?_; (with_reducible refine (impl_keyOK.calls (rdOf ByteArray.empty s D) true _ bN.out).mono ?_); rintro e w' ⟨rfl, ⟨nd, rfl⟩⟩; refine ⟨_, rfl, ?_⟩; refine bD5 BK377 ?_; intros; obtain ⟨i056, b0, _, b1, _⟩ := info_parts info9; obtain ⟨dV, b2, b6⟩ := print_take_of (P := prog) Value.string (⟨#[]⟩ : ByteArray) 69 9 .i64 underlying69 b0 b1 (some bC) aD s D (of_decide_eq_true (Z4)) (of_decide_eq_true (Z4)) aR.out; have cX := aM (Kd.C_of_reads (h1 := fun _ => rfl) (b2 _ (Kd.reads_of_C aE.out))); have cY := aM b6; clear b2 b6 b0 b1) | (go_at_call 94; refine (contains_front k4 _ _ s _ (rdOf ByteArray.empty s D) true _ (Kd.C_below aE.out (Z17)) (by have h_ : D ≤ (s.length : Int) := of_decide_eq_true (Z204); omega) aR.out bZ.out).mono ?_; rintro e w' ⟨rfl, ⟨nd, rfl⟩⟩))
               go_ret
               exact ⟨Z1, Z17⟩
              ·replace bB := Bool.eq_false_iff.mpr bB
               subst bB
               replace H := ifF H
               have H' := aM H
               clear H
               have aB : 0 ≤ (D : Int) := of_decide_eq_true (Z4)
               have aC : D < (s.length : Int) := of_decide_eq_true (Z4)
               obtain ⟨bC, aY, aF⟩ := Kd.at_string aE.out D aB aC
               cases aY
               replace aF := cB HB.out aF
               replace aB := eq_true aB
               replace aC := eq_true aC
               go_wp2_with (first | ((with_reducible refine gC 93 ?_); refine gL 83 func93 #[.string (rdOf ByteArray.empty s D)] ?_; (with_reducible refine (impl_keyOK.calls (rdOf ByteArray.empty s D) true _ bN.out).mono ?_); rintro e w' ⟨rfl, ⟨nd, rfl⟩⟩; refine ⟨_, rfl, ?_⟩; refine bD5 BK377 ?_; intros; obtain ⟨i058, b7, _, b8, _⟩ := info_parts info9; obtain ⟨dW, b9, cA⟩ := print_take_of (P := prog) Value.string (⟨#[]⟩ : ByteArray) 69 9 .i64 underlying69 b7 b8 (some bC) aD s D (of_decide_eq_true (Z4)) (of_decide_eq_true (Z4)) aR.out; have cX := aM (Kd.C_of_reads (h1 := fun _ => rfl) (b9 _ (Kd.reads_of_C aE.out))); have cY := aM cA; clear b9 cA b7 b8) | (go_at_call 94; refine (contains_front k4 _ _ s _ (rdOf ByteArray.empty s D) false _ (Kd.C_below aE.out (Z17)) (by have h_ : D ≤ (s.length : Int) := of_decide_eq_true (Z204); omega) aR.out bZ.out).mono ?_; rintro e w' ⟨rfl, ⟨nd, rfl⟩⟩))
               go_roundg k4
               case measure => have := HJ1.out; have := a5.out; have := a6.out; have := bW.out; omega
               case rel => exact ⟨(wrap64 (D + 1)), (Z3), H', ⟨by have := HJ1.out; have := a5.out; have := a6.out; have := bW.out; omega⟩, ⟨Z36⟩, ⟨Z17⟩⟩
             ·replace bA := Bool.eq_false_iff.mpr bA
              subst bA
              replace H := ifF H
              obtain rfl := oI H
              have aB : 0 ≤ (D : Int) := of_decide_eq_true (Z4)
              have aC : D < (s.length : Int) := of_decide_eq_true (Z4)
              obtain ⟨bC, aY, aF⟩ := Kd.at_string aE.out D aB aC
              cases aY
              replace aF := cB HB.out aF
              replace aB := eq_true aB
              replace aC := eq_true aC
              go_wp2_with (first | ((with_reducible refine gC 93 ?_); refine gL 83 func93 #[.string (rdOf ByteArray.empty s D)] ?_; (with_reducible refine (impl_keyOK.calls (rdOf ByteArray.empty s D) false _ bN.out).mono ?_); rintro e w' ⟨rfl, ⟨nd, rfl⟩⟩; refine ⟨_, rfl, ?_⟩))
              go_ret
              exact ⟨Z1, Z17⟩
            ·rw [if_neg aW] at H
             have cT := decide_eq_false aW
             clear aW
             obtain rfl := oI H
             go_wp2
             go_ret
             exact ⟨Z1, Z17⟩
def impl_StoreOK.l0 : Nat → List (S98) → List (S98) → Int → Int → Option (Bool)
 | 0, _, _, _, _ => none
 | k + 1, x0, x8, x9, x10 => if x10 < x9 then (if 0 ≤ x10 then (if x10 < (x8.length : Int) then ((impl_BoxOK.f k ((rd_T98 x8 x10).f0) ((rd_T98 x8 x10).f1) ((rd_T98 x8 x10).f2) ((rd_T98 x8 x10).f3) ((rd_T98 x8 x10).f4)).bind fun s => (if s = true then (if ((rd_T98 x8 x10).f1) = (wrap64 (x10 + 1)) then ((impl_boxIndex.f x0 ((rd_T98 x8 x10).f0)).bind fun y => (if y = x10 then (impl_StoreOK.l0 k x0 x8 x9 (wrap64 (x10 + 1))) else (some false))) else (some false)) else (some false))) else (none)) else (none)) else (some true)
def impl_StoreOK.f (k : Nat) (l0 : List (S98)) : Option (Bool) := if (l0.length : Int) > 4 then (some false) else (impl_StoreOK.l0 k l0 l0 (l0.length : Int) 0)
theorem impl_StoreOK.calls (k : Nat) (A0 : Option Addr) (c0 : Nat) (l0 : List (S98)) (r : Bool) (w : World) (hr0 : Kd.C k98 w A0 l0.length l0) (aJ : l0.length ≤ c0) (h : impl_StoreOK.f k l0 = some r) :
  Calls prog 36 #[.slice A0 l0.length c0] w fun e w' => e = .returned (.bool r) ∧ Below w.heap.size w w' := by
 have a2 := underlying98
 replace hr0 := aM hr0
 replace aJ := aM aJ
 have HB := aM (Below.refl w.heap.size w)
 have H := h
 clear h
 unfold impl_StoreOK.f at H
 by_cases c2 : (l0.length : Int) > 4
 ·rw [if_pos c2] at H
  have aQ : decide (4 < (l0.length : Int)) = true := decide_eq_true c2
  have aR : decide (4 < l0.length) = true := decide_eq_true (Z42)
  clear c2
  obtain rfl := oI H
  go_enter func36, ntmps36
  go_wp2
  go_ret
  exact ⟨Z1, Z0⟩
 ·rw [if_neg c2] at H
  have aQ : decide (4 < (l0.length : Int)) = false := decide_eq_false c2
  have aR : decide (4 < l0.length) = false := decide_eq_false (Z42)
  clear c2
  have H' := aM H
  clear H
  go_enter func36, ntmps36
  go_wp2
  go_loopg [10] k (fun kq aT w' => ∃ (x10_1 : Int), aT = .int .i64 x10_1 ∧ Aside0 (impl_StoreOK.l0 kq l0 l0 (l0.length : Int) x10_1 = some r) ∧ Aside0 (kq ≤ k) ∧ Aside0 (Below w.heap.size w w'))
  case atStart => exact ⟨(0), (Z3), H', ⟨Nat.le_refl _⟩, ⟨Z0⟩⟩
  case round =>
   clear H'
   (try clear c2); (try clear aQ); (try clear aR)
   obtain ⟨x10_1, rfl, HA, HK1, HB⟩ := hrel
   cases gk with
   | zero => exact absurd HA.out (by simp [impl_StoreOK.l0])
   | succ k1 =>
    have H := HA.out
    clear HA
    simp only [impl_StoreOK.l0] at H
    by_cases c3 : x10_1 < (l0.length : Int)
    ·rw [if_pos c3] at H
     have aU := decide_eq_true c3
     clear c3
     obtain ⟨c4, H⟩ := ifS H
     have a3 := decide_eq_true c4
     clear c4
     obtain ⟨c5, H⟩ := ifS H
     have a5 := decide_eq_true c5
     clear c5
     obtain ⟨aV, A6, H⟩ := bindA H
     try dsimp only at H
     by_cases c7 : aV = true
     ·subst c7
      replace H := ifT H
      by_cases c8 : ((rd_T98 l0 x10_1).f1) = (wrap64 (x10_1 + 1))
      ·rw [if_pos c8] at H
       have aW := beq_iff_eq.mpr c8
       have aX := bne_eq_false_iff_eq.mpr c8
       clear c8
       obtain ⟨aL, A9, H⟩ := bindA H
       try dsimp only at H
       by_cases c10 : aL = x10_1
       ·rw [if_pos c10] at H
        have aY := beq_iff_eq.mpr c10
        have aZ := bne_eq_false_iff_eq.mpr c10
        clear c10
        have H' := aM H
        clear H
        have s : 0 ≤ (x10_1 : Int) := of_decide_eq_true (Z4)
        have y : x10_1 < (l0.length : Int) := of_decide_eq_true (Z4)
        obtain ⟨aN, A389_3, c389_3, D, I, aC, J, M, O, U, X, Y, Z, aA, aB⟩ := at_T98 hr0.out x10_1 s y
        cases aC
        replace J := cB HB.out J
        replace M := cB HB.out M
        replace O := cB HB.out O
        replace U := cB HB.out U
        replace X := cB HB.out X
        have aD := aM Z
        have aE := aM Y
        clear Z Y
        have aF := aM aB
        have aG := aM aA
        clear aB aA
        replace s := eq_true s
        replace y := eq_true y
        go_wp2_with (first | ((with_reducible refine gD 4 ?_); refine bxF w 4 #[.string (⟨#[]⟩ : ByteArray), .int .i64 0, .int .i64 0, .slice none 0 0, .slice none 0 0] 98 (Z0) ?_; intro aH hg a6 BK390 aO GE390 HB hb; clear hb hg; refine bD5 BK390 ?_; intros) | ((with_reducible refine gC 62 ?_); refine gL 16 func62 #[.agg #[.string ((rd_T98 l0 x10_1).f0), .int .i64 ((rd_T98 l0 x10_1).f1), .int .i64 ((rd_T98 l0 x10_1).f2), .slice A389_3 ((rd_T98 l0 x10_1).f3).length c389_3, .slice D ((rd_T98 l0 x10_1).f4).length I]] ?_; (with_reducible refine (impl_BoxOK.calls k1 ((rd_T98 l0 x10_1).f0) ((rd_T98 l0 x10_1).f1) ((rd_T98 l0 x10_1).f2) _ _ ((rd_T98 l0 x10_1).f3) _ _ ((rd_T98 l0 x10_1).f4) true _ ?Y1 ?Y2 ?Y3 ?Y4 A6.out).mono ?_); (case Y1 => exact Kd.C_below aD.out (Z31)); (case Y2 => exact aE.out); (case Y3 => exact Kd.C_below aF.out (Z31)); (case Y4 => exact aG.out); rintro e a7 ⟨rfl, hb⟩; refine ⟨_, rfl, ?_⟩; replace BK390 := aM (blk_below (g := aH) (o := .cells #[.string ((rd_T98 l0 x10_1).f0), .int .i64 ((rd_T98 l0 x10_1).f1), .int .i64 ((rd_T98 l0 x10_1).f2), .slice A389_3 ((rd_T98 l0 x10_1).f3).length c389_3, .slice D ((rd_T98 l0 x10_1).f4).length I] 98 (0, 0)) (Z12) hb); replace HB := aM (below_step (Z31) hb); (try clear hb); refine bD5 BK390 ?_; intros) | (go_at_call 63; (with_reducible refine (impl_boxIndex.calls _ _ l0 ((rd_T98 l0 x10_1).f0) aL _ ?Y1 ?Y2 A9.out).mono ?_); (case Y1 => have h_ := Kd.C_below hr0.out HB.out; exact tC); (case Y2 => exact aJ.out); rintro e a8 ⟨rfl, hb⟩; replace BK390 := aM (kB BK390 zB hb); replace HB := aM (below_step (Z31) hb); (try clear hb)))
        go_roundg k1
        case measure => have := HK1.out; omega
        case rel => exact ⟨(wrap64 (x10_1 + 1)), (Z3), H', ⟨Z125⟩, ⟨Z31⟩⟩
       ·rw [if_neg c10] at H
        have aY := beq_eq_false_iff_ne.mpr c10
        have aZ := bne_iff_ne.mpr c10
        obtain rfl := oI H
        have s : 0 ≤ (x10_1 : Int) := of_decide_eq_true (Z4)
        have y : x10_1 < (l0.length : Int) := of_decide_eq_true (Z4)
        obtain ⟨aN, A389_3, c389_3, D, I, aC, J, M, O, U, X, Y, Z, aA, aB⟩ := at_T98 hr0.out x10_1 s y
        cases aC
        replace J := cB HB.out J
        replace M := cB HB.out M
        replace O := cB HB.out O
        replace U := cB HB.out U
        replace X := cB HB.out X
        have aD := aM Z
        have aE := aM Y
        clear Z Y
        have aF := aM aB
        have aG := aM aA
        clear aB aA
        replace s := eq_true s
        replace y := eq_true y
        go_wp2_with (first | ((with_reducible refine gD 4 ?_); refine bxF w 4 #[.string (⟨#[]⟩ : ByteArray), .int .i64 0, .int .i64 0, .slice none 0 0, .slice none 0 0] 98 (Z0) ?_; intro aH hg a9 BK390 aO GE390 HB hb; clear hb hg; refine bD5 BK390 ?_; intros) | ((with_reducible refine gC 62 ?_); refine gL 16 func62 #[.agg #[.string ((rd_T98 l0 x10_1).f0), .int .i64 ((rd_T98 l0 x10_1).f1), .int .i64 ((rd_T98 l0 x10_1).f2), .slice A389_3 ((rd_T98 l0 x10_1).f3).length c389_3, .slice D ((rd_T98 l0 x10_1).f4).length I]] ?_; (with_reducible refine (impl_BoxOK.calls k1 ((rd_T98 l0 x10_1).f0) ((rd_T98 l0 x10_1).f1) ((rd_T98 l0 x10_1).f2) _ _ ((rd_T98 l0 x10_1).f3) _ _ ((rd_T98 l0 x10_1).f4) true _ ?Y1 ?Y2 ?Y3 ?Y4 A6.out).mono ?_); (case Y1 => exact Kd.C_below aD.out (Z31)); (case Y2 => exact aE.out); (case Y3 => exact Kd.C_below aF.out (Z31)); (case Y4 => exact aG.out); rintro e bA ⟨rfl, hb⟩; refine ⟨_, rfl, ?_⟩; replace BK390 := aM (blk_below (g := aH) (o := .cells #[.string ((rd_T98 l0 x10_1).f0), .int .i64 ((rd_T98 l0 x10_1).f1), .int .i64 ((rd_T98 l0 x10_1).f2), .slice A389_3 ((rd_T98 l0 x10_1).f3).length c389_3, .slice D ((rd_T98 l0 x10_1).f4).length I] 98 (0, 0)) (Z12) hb); replace HB := aM (below_step (Z31) hb); (try clear hb); refine bD5 BK390 ?_; intros) | (go_at_call 63; (with_reducible refine (impl_boxIndex.calls _ _ l0 ((rd_T98 l0 x10_1).f0) aL _ ?Y1 ?Y2 A9.out).mono ?_); (case Y1 => have h_ := Kd.C_below hr0.out HB.out; exact tC); (case Y2 => exact aJ.out); rintro e bB ⟨rfl, hb⟩; replace BK390 := aM (kB BK390 zB hb); replace HB := aM (below_step (Z31) hb); (try clear hb)))
        go_ret
        exact ⟨Z1, Z31⟩
      ·rw [if_neg c8] at H
       have aW := beq_eq_false_iff_ne.mpr c8
       have aX := bne_iff_ne.mpr c8
       obtain rfl := oI H
       have s : 0 ≤ (x10_1 : Int) := of_decide_eq_true (Z4)
       have y : x10_1 < (l0.length : Int) := of_decide_eq_true (Z4)
       obtain ⟨aN, A389_3, c389_3, D, I, aC, J, M, O, U, X, Y, Z, aA, aB⟩ := at_T98 hr0.out x10_1 s y
       cases aC
       replace J := cB HB.out J
       replace M := cB HB.out M
       replace O := cB HB.out O
       replace U := cB HB.out U
       replace X := cB HB.out X
       have aD := aM Z
       have aE := aM Y
       clear Z Y
       have aF := aM aB
       have aG := aM aA
       clear aB aA
       replace s := eq_true s
       replace y := eq_true y
       go_wp2_with (first | ((with_reducible refine gD 4 ?_); refine bxF w 4 #[.string (⟨#[]⟩ : ByteArray), .int .i64 0, .int .i64 0, .slice none 0 0, .slice none 0 0] 98 (Z0) ?_; intro aH hg bC BK390 aO GE390 HB hb; clear hb hg; refine bD5 BK390 ?_; intros) | ((with_reducible refine gC 62 ?_); refine gL 16 func62 #[.agg #[.string ((rd_T98 l0 x10_1).f0), .int .i64 ((rd_T98 l0 x10_1).f1), .int .i64 ((rd_T98 l0 x10_1).f2), .slice A389_3 ((rd_T98 l0 x10_1).f3).length c389_3, .slice D ((rd_T98 l0 x10_1).f4).length I]] ?_; (with_reducible refine (impl_BoxOK.calls k1 ((rd_T98 l0 x10_1).f0) ((rd_T98 l0 x10_1).f1) ((rd_T98 l0 x10_1).f2) _ _ ((rd_T98 l0 x10_1).f3) _ _ ((rd_T98 l0 x10_1).f4) true _ ?Y1 ?Y2 ?Y3 ?Y4 A6.out).mono ?_); (case Y1 => exact Kd.C_below aD.out (Z31)); (case Y2 => exact aE.out); (case Y3 => exact Kd.C_below aF.out (Z31)); (case Y4 => exact aG.out); rintro e bD ⟨rfl, hb⟩; refine ⟨_, rfl, ?_⟩; replace BK390 := aM (blk_below (g := aH) (o := .cells #[.string ((rd_T98 l0 x10_1).f0), .int .i64 ((rd_T98 l0 x10_1).f1), .int .i64 ((rd_T98 l0 x10_1).f2), .slice A389_3 ((rd_T98 l0 x10_1).f3).length c389_3, .slice D ((rd_T98 l0 x10_1).f4).length I] 98 (0, 0)) (Z12) hb); replace HB := aM (below_step (Z31) hb); (try clear hb); refine bD5 BK390 ?_; intros))
       go_ret
       exact ⟨Z1, Z31⟩
     ·replace c7 := Bool.eq_false_iff.mpr c7
      subst c7
      replace H := ifF H
      obtain rfl := oI H
      have s : 0 ≤ (x10_1 : Int) := of_decide_eq_true (Z4)
      have y : x10_1 < (l0.length : Int) := of_decide_eq_true (Z4)
      obtain ⟨aN, A389_3, c389_3, D, I, aC, J, M, O, U, X, Y, Z, aA, aB⟩ := at_T98 hr0.out x10_1 s y
      cases aC
      replace J := cB HB.out J
      replace M := cB HB.out M
      replace O := cB HB.out O
      replace U := cB HB.out U
      replace X := cB HB.out X
      have aD := aM Z
      have aE := aM Y
      clear Z Y
      have aF := aM aB
      have aG := aM aA
      clear aB aA
      replace s := eq_true s
      replace y := eq_true y
      go_wp2_with (first | ((with_reducible refine gD 4 ?_); refine bxF w 4 #[.string (⟨#[]⟩ : ByteArray), .int .i64 0, .int .i64 0, .slice none 0 0, .slice none 0 0] 98 (Z0) ?_; intro aH hg bE BK390 aO GE390 HB hb; clear hb hg; refine bD5 BK390 ?_; intros) | ((with_reducible refine gC 62 ?_); refine gL 16 func62 #[.agg #[.string ((rd_T98 l0 x10_1).f0), .int .i64 ((rd_T98 l0 x10_1).f1), .int .i64 ((rd_T98 l0 x10_1).f2), .slice A389_3 ((rd_T98 l0 x10_1).f3).length c389_3, .slice D ((rd_T98 l0 x10_1).f4).length I]] ?_; (with_reducible refine (impl_BoxOK.calls k1 ((rd_T98 l0 x10_1).f0) ((rd_T98 l0 x10_1).f1) ((rd_T98 l0 x10_1).f2) _ _ ((rd_T98 l0 x10_1).f3) _ _ ((rd_T98 l0 x10_1).f4) false _ ?Y1 ?Y2 ?Y3 ?Y4 A6.out).mono ?_); (case Y1 => exact Kd.C_below aD.out (Z31)); (case Y2 => exact aE.out); (case Y3 => exact Kd.C_below aF.out (Z31)); (case Y4 => exact aG.out); rintro e bF ⟨rfl, hb⟩; refine ⟨_, rfl, ?_⟩; replace BK390 := aM (blk_below (g := aH) (o := .cells #[.string ((rd_T98 l0 x10_1).f0), .int .i64 ((rd_T98 l0 x10_1).f1), .int .i64 ((rd_T98 l0 x10_1).f2), .slice A389_3 ((rd_T98 l0 x10_1).f3).length c389_3, .slice D ((rd_T98 l0 x10_1).f4).length I] 98 (0, 0)) (Z12) hb); replace HB := aM (below_step (Z31) hb); (try clear hb)))
      go_ret
      exact ⟨Z1, Z31⟩
    ·rw [if_neg c3] at H
     have aU := decide_eq_false c3
     clear c3
     obtain rfl := oI H
     go_wp2
     go_ret
     exact ⟨Z1, Z0⟩
def impl_Log_records.f (y : Int) (s : ByteArray) (D : Int) : Option (List ByteArray × Int × Int) := if s.size ≤ 65000 then some ((recs s.data.toList).1.map bs, ((recs s.data.toList).2.1 : Int), (recs s.data.toList).2.2) else none
theorem impl_Log_records.calls (y : Int) (s : ByteArray) (D : Int) (I : List ByteArray) (J : Int) (M : Int) (w : World) (h : impl_Log_records.f y s D = some (I, J, M)) :
  Calls prog 37 #[.agg #[.int .i64 y, .string s, .int .i64 D]] w fun e w' => ∃ v0_ : Value, e = .returned (.tuple #[v0_, .int .i64 J, .int .i64 M]) ∧ Kd.R Kd.string 9 w' w.heap.size (fun _ => True) v0_ I ∧ Below w.heap.size w w' := by
 unfold impl_Log_records.f at h
 split at h
 ·rename_i hs
  simp only [Option.some.injEq, Prod.mk.injEq] at h
  obtain ⟨rfl, rfl, rfl⟩ := h
  have hi := i_recordsO y D s.data.toList w (by rw [← bs_size, bs_of]; exact hs)
  rw [bs_of] at hi
  refine hi.mono fun e w' ⟨v, he, ho, hb⟩ => ⟨v, he, ⟨fun _ _ => trivial, ((recs s.data.toList).1.map bs).map Value.string, ?_, ?_, fun j p hj => ?_⟩, hb⟩
  ·rw [List.length_map]; exact ho
  ·show _ = _ * 1; simp
  ·have hj2 : j < ((recs s.data.toList).1.map bs).length := (List.getElem?_eq_some_iff.1 hj).1
   have hp := (List.getElem?_eq_some_iff.1 hj).2
   show ((((recs s.data.toList).1.map bs).map Value.string).drop (j * 1)).take 1 = [.string p]
   rw [Nat.mul_one, List.drop_eq_getElem_cons (by simpa using hj2), List.take_succ_cons, List.take_zero, List.getElem_map, hp]
 ·cases h
def impl_numberOf.l0 : Nat → ByteArray → Int → Int → Int → Option (Int)
 | 0, _, _, _, _ => none
 | k + 1, x0, x3, x6, x7 => if x7 < x6 then (if 0 ≤ x7 then (if x7 < (x0.size : Int) then (impl_numberOf.l0 k x0 (Go.bits .or .i64 (wrap64 (x3 * 256)) (wrap64 (bt x0 x7))) x6 (wrap64 (x7 + 1))) else (none)) else (none)) else (some x3)
def impl_numberOf.f (k : Nat) (a0 : ByteArray) : Option (Int) := impl_numberOf.l0 k a0 0 (a0.size : Int) 0
theorem impl_numberOf.calls (k : Nat) (a0 : ByteArray) (r : Int) (w : World) (h : impl_numberOf.f k a0 = some r) :
  Calls prog 64 #[.string a0] w fun e w' => e = .returned (.int .i64 r) ∧ Drawn0 w w' := by
 have H := h
 clear h
 unfold impl_numberOf.f at H
 have H' := aM H
 clear H
 go_enter func64, ntmps64
 go_wp2
 go_loopg [3, 7] k (fun kq I J w' => ∃ (y : Int) (s : Int), I = .int .i64 y ∧ J = .int .i64 s ∧ Aside0 (impl_numberOf.l0 kq a0 y (a0.size : Int) s = some r) ∧ Aside0 (kq ≤ k) ∧ Drawn0 w w')
 case atStart => exact ⟨(0), (0), (Z3), (Z3), H', ⟨Nat.le_refl _⟩, Z9⟩
 case round =>
  clear H'
  obtain ⟨y, s, rfl, rfl, HA, HK1, ⟨m1, rfl⟩⟩ := hrel
  cases gk with
  | zero => exact absurd HA.out (by simp [impl_numberOf.l0])
  | succ M =>
   have H := HA.out
   clear HA
   simp only [impl_numberOf.l0] at H
   by_cases c2 : s < (a0.size : Int)
   ·rw [if_pos c2] at H
    have O := decide_eq_true c2
    clear c2
    obtain ⟨c3, H⟩ := ifS H
    have U := decide_eq_true c3
    clear c3
    obtain ⟨c4, H⟩ := ifS H
    have X := decide_eq_true c4
    clear c4
    have H' := aM H
    clear H
    have p5 : 0 ≤ (s : Int) := of_decide_eq_true (Z4)
    have D : s < (a0.size : Int) := of_decide_eq_true (Z4)
    have Y := bt_at a0 s
    replace p5 := eq_true p5
    replace D := eq_true D
    go_wp2
    go_roundg M
    case measure => have := HK1.out; omega
    case rel => exact ⟨(Go.bits .or .i64 (wrap64 (y * 256)) (wrap64 (bt a0 s))), (wrap64 (s + 1)), (Z3), (Z3), H', ⟨Z125⟩, Z9⟩
   ·rw [if_neg c2] at H
    have O := decide_eq_false c2
    clear c2
    obtain rfl := oI H
    go_wp2
    go_ret
    exact ⟨Z3, Z9⟩
def IsS143 (w0 W : World) (g : Nat) (f0 : ByteArray) (f1 : Bool) : Prop := W.heap[g]? = some (.cells #[.string f0, .bool f1] 143 (0, 0)) ∧ w0.heap.size ≤ g
theorem IsS143.grown {w0 W : World} {g : Nat} {f0 : ByteArray} {f1 : Bool} {W1 : World} {row : Option Nat} (h : IsS143 w0 W g f0 f1) (hw : W.grownBy W1 row) (hne : some g ≠ row) : IsS143 w0 W1 g f0 f1 := by
 obtain ⟨hb, hg⟩ := h
 exact ⟨blk_grown hb hw hne, hg⟩
theorem IsS143.kept {w0 W : World} {g : Nat} {f0 : ByteArray} {f1 : Bool} {W1 : World} {S : Nat → Prop} (h : IsS143 w0 W g f0 f1) (hk : Kept W W1 S) (hne : ¬ S g) : IsS143 w0 W1 g f0 f1 := by
 obtain ⟨hb, hg⟩ := h
 exact ⟨blk_kept hb hk hne, hg⟩
theorem IsS143.below {w0 W : World} {g : Nat} {f0 : ByteArray} {f1 : Bool} {W1 : World} (h : IsS143 w0 W g f0 f1) (hw : Below W.heap.size W W1) : IsS143 w0 W1 g f0 f1 := h.grown (grown_of_below hw none) (Z174)
theorem IsS143.alloc {w0 W : World} {g : Nat} {f0 : ByteArray} {f1 : Bool} (h : IsS143 w0 W g f0 f1) (o : Obj) : IsS143 w0 (W.alloc o) g f0 f1 := h.below (below_alloc (Below.refl _ _) o)
theorem IsS143.drewN {w0 W : World} {g : Nat} {f0 : ByteArray} {f1 : Bool} (h : IsS143 w0 W g f0 f1) (m : Nat) : IsS143 w0 (W.drewN m) g f0 f1 := h
theorem IsS143.drew {w0 W : World} {g : Nat} {f0 : ByteArray} {f1 : Bool} (h : IsS143 w0 W g f0 f1) : IsS143 w0 W.drew g f0 f1 := h
theorem IsS143.at_ {w0 W : World} {g : Nat} {f0 : ByteArray} {f1 : Bool} {w' : World} {m : Nat} (hq : W.drewN m = w') (h : IsS143 w0 W g f0 f1) : IsS143 w0 w' g f0 f1 := by subst hq; exact IsS143.drewN h m
theorem IsS143.apart {w0 W : World} {g : Nat} {f0 : ByteArray} {f1 : Bool} {α : Type} {d : Kd α} {e : Nat} {base : Nat} {ok : Nat → Prop} {v : Value} {xs : List α} (h : IsS143 w0 W g f0 f1) (ho : d.R e W base ok v xs) (ht : ∀ q, q ∈ e :: d.E → q ≠ 143) : d.R e W base (fun k => ok k ∧ k ≠ g) v xs := by
 obtain ⟨hb, hg⟩ := h
 exact Kd.R_types ho hb ht
theorem IsS143.own_ne {w0 W : World} {g : Nat} {f0 : ByteArray} {f1 : Bool} {α : Type} {d : Kd α} {e : Nat} {base : Nat} {ok : Nat → Prop} {v : Value} {xs : List α} (h : IsS143 w0 W g f0 f1) (ho : d.R e W base ok v xs) (ht : e ≠ 143) : some g ≠ v.ownBlock := by
 obtain ⟨hb, hg⟩ := h
 exact Kd.R_ne ho hb ht
theorem IsS143.lt {w0 W : World} {g : Nat} {f0 : ByteArray} {f1 : Bool} (h : IsS143 w0 W g f0 f1) : g < W.heap.size := by
 obtain ⟨hb, hg⟩ := h
 exact blk_lt hb
theorem IsS143.ge {w0 W : World} {g : Nat} {f0 : ByteArray} {f1 : Bool} (h : IsS143 w0 W g f0 f1) : w0.heap.size ≤ g := by
 obtain ⟨hb, hg⟩ := h
 exact hg
theorem IsS143.far {w0 W : World} {g : Nat} {f0 : ByteArray} {f1 : Bool} {p : Addr} (h : IsS143 w0 W g f0 f1) (hne : g ≠ p.block) (u : Value) : IsS143 w0 (W.setCell p u) g f0 f1 := by
 obtain ⟨hb, hg⟩ := h
 exact ⟨blk_far hb hne u, hg⟩
theorem cellS143_0 {W : World} {g : Nat} {f0 : ByteArray} {f1 : Bool} (h : W.heap[g]? = some (.cells #[.string f0, .bool f1] 143 (0, 0))) : W.cell? ⟨g, 0, none⟩ = some (.string f0) := (blk_cell h 0).trans rfl
theorem IsS143.set_0 {w0 W : World} {g : Nat} {f0 : ByteArray} {f1 : Bool} (h : IsS143 w0 W g f0 f1) (x : ByteArray) : IsS143 w0 (W.setCell ⟨g, 0, none⟩ (.string x)) g x f1 := by
 obtain ⟨hb, hg⟩ := h
 exact ⟨by simpa using blk_set hb 0 (.string x), hg⟩
theorem cellS143_1 {W : World} {g : Nat} {f0 : ByteArray} {f1 : Bool} (h : W.heap[g]? = some (.cells #[.string f0, .bool f1] 143 (0, 0))) : W.cell? ⟨g, 1, none⟩ = some (.bool f1) := (blk_cell h 1).trans rfl
theorem IsS143.set_1 {w0 W : World} {g : Nat} {f0 : ByteArray} {f1 : Bool} (h : IsS143 w0 W g f0 f1) (x : Bool) : IsS143 w0 (W.setCell ⟨g, 1, none⟩ (.bool x)) g f0 x := by
 obtain ⟨hb, hg⟩ := h
 exact ⟨by simpa using blk_set hb 1 (.bool x), hg⟩
theorem IsS143.new (w0 W : World) (f0 : ByteArray) (f1 : Bool) (hB : Below w0.heap.size w0 W) : IsS143 w0 (W.alloc (.cells #[.string f0, .bool f1] 143)) W.heap.size f0 f1 := ⟨by simpa using heap_alloc_new W _, hB.size⟩
def impl_taker_text.f (s : ByteArray) (y : Bool) (a1 : Int) : Option (ByteArray × ByteArray × Bool) := if a1 > (s.size : Int) then (some ((⟨#[]⟩ : ByteArray), s, true)) else (if 0 ≤ a1 then (if a1 ≤ (s.size : Int) then (some (s.extract 0 (a1 : Int).toNat, s.extract (a1 : Int).toNat s.size, y)) else (none)) else (none))
theorem impl_taker_text.calls (g : Nat) (s : ByteArray) (I : Bool) (a1 : Int) (J : ByteArray) (M : ByteArray) (O : Bool) (w0 w : World) (hI : IsS143 w0 w g s I) (hB : Below w0.heap.size w0 w) (h : impl_taker_text.f s I a1 = some (J, M, O)) :
  Calls prog 101 #[.pointer (some ⟨g, 0, none⟩), .int .i64 a1] w fun e w' => e = .returned (.string J) ∧ IsS143 w0 w' g M O ∧ Below w0.heap.size w0 w' ∧ KeepBut w w' g none := by
 have HI0 := aM hI
 have HK := aM (KeepBut.refl w g none)
 have HL := aM hB.size
 clear hI
 have Z := aM hB.size
 have HB := aM hB
 clear hB
 have H := h
 clear h
 unfold impl_taker_text.f at H
 by_cases c3 : a1 > (s.size : Int)
 ·rw [if_pos c3] at H
  have U : decide ((s.size : Int) < a1) = true := decide_eq_true c3
  clear c3
  simp only [Option.some.injEq, Prod.mk.injEq] at H
  obtain ⟨rfl, rfl, rfl⟩ := H
  obtain ⟨y, X⟩ := HI0.out
  have aA := cellS143_0 y
  have aB := cellS143_1 y
  have aC := blk_frozen y 0
  have aD := blk_frozen y 1
  clear y X
  go_enter func101, ntmps101
  go_wp2
  go_ret
  exact ⟨Z1, Z159, Z160, Z153⟩
 ·rw [if_neg c3] at H
  have U : decide ((s.size : Int) < a1) = false := decide_eq_false c3
  clear c3
  obtain ⟨c5, H⟩ := ifS H
  have aE := eq_true c5
  have aF : decide (0 ≤ a1) = true := decide_eq_true c5
  clear c5
  obtain ⟨c6, H⟩ := ifS H
  have aG := eq_true c6
  have aH : decide (a1 ≤ (s.size : Int)) = true := decide_eq_true c6
  clear c6
  have aI := eq_true (of_decide_eq_true (Z4) : 0 ≤ a1)
  have aJ := eq_true (of_decide_eq_true (Z4) : a1 ≤ (s.size : Int))
  simp only [Option.some.injEq, Prod.mk.injEq] at H
  obtain ⟨rfl, rfl, rfl⟩ := H
  obtain ⟨D, Y⟩ := HI0.out
  have aK := cellS143_0 D
  have aL := cellS143_1 D
  have aN := blk_frozen D 0
  have aO := blk_frozen D 1
  clear D Y
  go_enter func101, ntmps101
  go_wp2
  go_ret
  exact ⟨Z1, Z159, Z160, Z153⟩
def impl_taker_number.f (k : Nat) (y : ByteArray) (D : Bool) (a1 : Int) : Option (Int × ByteArray × Bool) := (impl_taker_text.f y D a1).bind fun s => ((impl_numberOf.f k s.1).bind fun I => (some (I, s.2.1, s.2.2)))
theorem impl_taker_number.calls (k : Nat) (g : Nat) (s : ByteArray) (y : Bool) (a1 : Int) (I : Int) (J : ByteArray) (M : Bool) (w0 w : World) (hI : IsS143 w0 w g s y) (hB : Below w0.heap.size w0 w) (h : impl_taker_number.f k s y a1 = some (I, J, M)) :
  Calls prog 100 #[.pointer (some ⟨g, 0, none⟩), .int .i64 a1] w fun e w' => e = .returned (.int .i64 I) ∧ IsS143 w0 w' g J M ∧ Below w0.heap.size w0 w' ∧ KeepBut w w' g none := by
 have HI0 := aM hI
 have HK := aM (KeepBut.refl w g none)
 have HL := aM hB.size
 clear hI
 have aA := aM hB.size
 have HB := aM hB
 clear hB
 have H := h
 clear h
 unfold impl_taker_number.f at H
 obtain ⟨⟨D, O, U⟩, X, H⟩ := bindA H
 try dsimp only at H
 obtain ⟨Y, Z, H⟩ := bindA H
 try dsimp only at H
 simp only [Option.some.injEq, Prod.mk.injEq] at H
 obtain ⟨rfl, rfl, rfl⟩ := H
 go_enter func100, ntmps100
 go_wp2_with (first | ((with_reducible refine gC 101 ?_); refine gL 7 func101 #[.pointer (some ⟨g, 0, none⟩), .int .i64 a1] ?_; (with_reducible refine (impl_taker_text.calls g s y a1 D O U w0 _ ?Y1 ?Y2 X.out).mono ?_); (case Y1 => repeat (first | (with_reducible first | exact HI0.out | apply IsS143.alloc | apply IsS143.drewN | apply IsS143.drew | apply IsS143.set_0 | apply IsS143.set_1) | exact HI0.out)); (case Y2 => repeat (first | (with_reducible first | exact HB.out | apply below_alloc | apply pw_below_drewN | apply below_drew1 | refine below_set ?_ (IsS143.ge HI0.out)) | exact HB.out)); rintro e w5 ⟨rfl, hi, hb, hk⟩; refine ⟨_, rfl, ?_⟩; replace HK := aM (KeepBut.trans (Z153) hk (.inl rfl)); replace HB := aM (hb); replace HI0 := aM (hi); (try clear hb); (try clear hk); (try clear hi)) | ((with_reducible refine gC 64 ?_); refine gL 8 func64 #[.string D] ?_; (with_reducible refine (impl_numberOf.calls k D Y _ Z.out).mono ?_); rintro e w' ⟨rfl, ⟨nd, rfl⟩⟩; refine ⟨_, rfl, ?_⟩))
 go_ret
 exact ⟨Z1, Z159, Z160, Z153⟩
mutual
def impl_readMutation.l0 : Nat → Int → Int → ByteArray → Bool → Int → Int → Int → Int → ByteArray → List (S130) → Option (Int × Int × Int × Int × ByteArray × (List (S130)) × Bool)
 | 0, _, _, _, _, _, _, _, _, _, _ => none
 | k + 1, x6, x8, y, s, D, I, J, M, O, U => if x8 < x6 then (impl_readMutation.j1 k x6 x8 (!s) y s D I J M O U) else (impl_readMutation.j1 k x6 x8 false y s D I J M O U)
def impl_readMutation.j1 : Nat → Int → Int → Bool → ByteArray → Bool → Int → Int → Int → Int → ByteArray → List (S130) → Option (Int × Int × Int × Int × ByteArray × (List (S130)) × Bool)
 | 0, _, _, _, _, _, _, _, _, _, _, _ => none
 | k + 1, x6, x8, aB, Z, aA, y, D, I, J, M, s => if aB = true then ((impl_taker_number.f k Z aA 2).bind fun O => ((impl_taker_number.f k O.2.1 O.2.2 2).bind fun U => ((impl_taker_text.f U.2.1 U.2.2 O.1).bind fun X => ((impl_taker_text.f X.2.1 X.2.2 U.1).bind fun Y => (if s.length < 4398046511104 then (impl_readMutation.l0 k x6 (wrap64 (x8 + 1)) Y.2.1 Y.2.2 y D I J M (s ++ [(⟨X.1, Y.1⟩ : S130)])) else (none)))))) else (if aA = true then (some (y, D, I, J, M, s, false)) else (if Z.toList = ([] : List UInt8) then ((impl_MutationOK.f k y D I J M s).bind fun aC => (some (y, D, I, J, M, s, aC))) else (some (y, D, I, J, M, s, false))))
end
def impl_readMutation.f (k : Nat) (a0 : ByteArray) : Option (Int × Int × Int × Int × ByteArray × (List (S130)) × Bool) := if (a0.size : Int) > 20000 then (some (0, 0, 0, 0, (⟨#[]⟩ : ByteArray), ([] : List (S130)), false)) else ((impl_taker_number.f k a0 false 1).bind fun s => ((impl_taker_number.f k s.2.1 s.2.2 1).bind fun y => ((impl_taker_number.f k y.2.1 y.2.2 1).bind fun D => ((impl_taker_number.f k D.2.1 D.2.2 1).bind fun I => ((impl_taker_number.f k I.2.1 I.2.2 1).bind fun J => ((impl_taker_number.f k J.2.1 J.2.2 2).bind fun M => ((impl_taker_text.f M.2.1 M.2.2 J.1).bind fun O => (impl_readMutation.l0 k I.1 0 O.2.1 O.2.2 s.1 M.1 y.1 D.1 O.1 ([] : List (S130))))))))))
def impl_readMutation.T12 : Bool × List (List Nat × List Nat) := (true, [([], []), ([0], [0]), ([], []), ([2], [2]), ([], []), ([4, 3], [4]), ([3, 5], [3, 5]), ([6], [6]), ([1, 7, 5], [1, 7]), ([0, 1, 2, 3, 4, 5, 6, 7, 8], []), ([9, 8, 8, 0, 1, 2, 3, 4, 5, 6, 7, 8], [8, 9])])
def impl_readMutation.B12 : List Nat := [0, 1, 0, 4, 0, 28, 60, 124, 255, 511, 1023]
theorem impl_readMutation.tab12 : rtab .any (opsOf Tryz.f67 12) = impl_readMutation.T12 := by kernel_rfl
theorem impl_readMutation.bits12 : waitsOk impl_readMutation.T12.2 impl_readMutation.B12 = true := by kernel_rfl
def impl_readMutation.T13 : Bool × List (List Nat × List Nat) := (true, [([], []), ([], []), ([1], [1]), ([2], [2]), ([3], [3]), ([4], [4]), ([5, 4], [4, 5]), ([6, 4], [4, 6]), ([4, 7], [4, 7]), ([8, 4], [8]), ([9], [9]), ([10, 9, 9], [9, 10]), ([9, 11], [9, 11]), ([0, 11, 0], [0]), ([12, 13, 0, 1, 2, 3, 4, 5, 6, 7, 8, 9, 10, 11, 12, 13], [12])])
def impl_readMutation.B13 : List Nat := [0, 0, 2, 6, 14, 30, 62, 126, 254, 510, 1022, 2046, 4094, 4095, 16383]
theorem impl_readMutation.tab13 : rtab .any (opsOf Tryz.f67 13) = impl_readMutation.T13 := by kernel_rfl
theorem impl_readMutation.bits13 : waitsOk impl_readMutation.T13.2 impl_readMutation.B13 = true := by kernel_rfl
theorem impl_readMutation.calls (k : Nat) (a0 : ByteArray) (r1 : Int) (r2 : Int) (r3 : Int) (r4 : Int) (r5 : ByteArray) (r6 : List (S130)) (r7 : Bool) (w : World) (h : impl_readMutation.f k a0 = some (r1, r2, r3, r4, r5, r6, r7)) :
  Calls prog 67 #[.string a0] w fun e w' => ∃ v5_ : Value, e = .returned (.tuple #[.agg #[.int .i64 r1, .int .i64 r2, .int .i64 r3, .int .i64 r4, .string r5, v5_], .bool r7]) ∧ Kd.R k130 130 w' w.heap.size (fun _ => True) v5_ r6 ∧ Below w.heap.size w w' := by
 have dK := underlying103
 have dL := underlying143
 have dM := underlying130
 have HB := aM (Below.refl w.heap.size w)
 have H := h
 clear h
 unfold impl_readMutation.f at H
 by_cases c2 : (a0.size : Int) > 20000
 ·rw [if_pos c2] at H
  have a8 : decide (20000 < (a0.size : Int)) = true := decide_eq_true c2
  have a9 : decide (20000 < a0.size) = true := decide_eq_true (Z42)
  clear c2
  simp only [Option.some.injEq, Prod.mk.injEq] at H
  obtain ⟨rfl, rfl, rfl, rfl, rfl, rfl, rfl⟩ := H
  go_enter func67, ntmps67
  go_wp2_with (first | ((with_reducible refine gD 2 ?_); refine bxF w 2 #[.int .i64 0, .int .i64 0, .int .i64 0, .int .i64 0, .string (⟨#[]⟩ : ByteArray), .slice none 0 0] 103 (Z0) ?_; intro y hg w3 BK397 cH GE397 HB hb; clear hb hg; refine bD6 BK397 ?_; intros))
  refine bodyPost_ret (results_ct rfl _ _ y 103 #[.int .i64 0, .int .i64 0, .int .i64 0, .int .i64 0, .string (⟨#[]⟩ : ByteArray), .slice none 0 0] (0, 0) _ rfl zB underlying103 rfl (Z18)) rfl ?_
  exact ⟨_, Z1, Z135, Z115⟩
 ·rw [if_neg c2] at H
  have a8 : decide (20000 < (a0.size : Int)) = false := decide_eq_false c2
  have a9 : decide (20000 < a0.size) = false := decide_eq_false (Z42)
  clear c2
  obtain ⟨⟨t399, bP, bQ⟩, A5, H⟩ := bindA H
  try dsimp only at H
  obtain ⟨⟨t402, bR, bS⟩, A6, H⟩ := bindA H
  try dsimp only at H
  obtain ⟨⟨t405, a2, a3⟩, A7, H⟩ := bindA H
  try dsimp only at H
  obtain ⟨⟨aR, bT, bU⟩, A8, H⟩ := bindA H
  try dsimp only at H
  obtain ⟨⟨bA, bV, bW⟩, A9, H⟩ := bindA H
  try dsimp only at H
  obtain ⟨⟨t415, bX, bY⟩, cN, H⟩ := bindA H
  try dsimp only at H
  obtain ⟨⟨t418, M, O⟩, cO, H⟩ := bindA H
  try dsimp only at H
  have H' := aM H
  clear H
  go_enter func67, ntmps67
  go_wp2_with (first | ((with_reducible refine gD 2 ?_); refine bxF w 2 #[.int .i64 0, .int .i64 0, .int .i64 0, .int .i64 0, .string (⟨#[]⟩ : ByteArray), .slice none 0 0] 103 (Z0) ?_; intro y hg dN BK397 cH GE397 HB hb; clear hb hg) | ((with_reducible refine gD 4 ?_); refine bxE 4 #[.string (⟨#[]⟩ : ByteArray), .bool false] 143 ?_; intro D hg dO hbox hb; have HI398 := aM ((show IsS143 w _ D (⟨#[]⟩ : ByteArray) false from ⟨hbox, (szE w hg (Z115))⟩)); have dP := aM ((szE w hg (Z115))); have dQ := aM ((szE w hg (Z115))); replace HB := aM (below_step (Z115) hb); have U := aM ((nL BK397 hg (Z44))); have NB398_397 := aM ((nG BK397 hg (Z44))); replace BK397 := aM (kB BK397 (Z44) hb); clear hb hbox hg; obtain ⟨aT, cP⟩ := HI398.out; have dR := cellS143_0 aT; have dS := cellS143_1 aT; have dT := blk_frozen aT 0; have dU := blk_frozen aT 1; clear aT cP) | ((with_reducible refine gC 100 ?_); refine gL 17 func100 #[.pointer (some ⟨D, 0, none⟩), .int .i64 1] ?_; (with_reducible refine (impl_taker_number.calls k D a0 false 1 t399 bP bQ w _ ?Y1 ?Y2 A5.out).mono ?_); (case Y1 => repeat (first | (with_reducible first | exact HI398.out | apply IsS143.alloc | apply IsS143.drewN | apply IsS143.drew | apply IsS143.set_0 | apply IsS143.set_1 | refine IsS143.far ?_ NB398_397.out _) | exact HI398.out)); (case Y2 => repeat (first | (with_reducible first | exact HB.out | apply below_alloc | apply pw_below_drewN | apply below_drew1 | refine below_set ?_ (IsS143.ge HI398.out) | refine below_set ?_ GE397.out) | exact HB.out)); rintro e dV ⟨rfl, hi, hb, hk⟩; refine ⟨_, rfl, ?_⟩; replace BK397 := aM (KeepBut.blk hk (g' := y) (o := .cells #[.int .i64 0, .int .i64 0, .int .i64 0, .int .i64 0, .string (⟨#[]⟩ : ByteArray), .slice none 0 0] 103 (0, 0)) zB U.out (Z174)); replace HB := aM (hb); replace HI398 := aM (hi); (try clear hb); (try clear hk); (try clear hi)) | ((with_reducible refine gC 100 ?_); refine gL 18 func100 #[.pointer (some ⟨D, 0, none⟩), .int .i64 1] ?_; (with_reducible refine (impl_taker_number.calls k D bP bQ 1 t402 bR bS w _ ?Y1 ?Y2 A6.out).mono ?_); (case Y1 => repeat (first | (with_reducible first | exact HI398.out | apply IsS143.alloc | apply IsS143.drewN | apply IsS143.drew | apply IsS143.set_0 | apply IsS143.set_1 | refine IsS143.far ?_ NB398_397.out _) | exact HI398.out)); (case Y2 => repeat (first | (with_reducible first | exact HB.out | apply below_alloc | apply pw_below_drewN | apply below_drew1 | refine below_set ?_ (IsS143.ge HI398.out) | refine below_set ?_ GE397.out) | exact HB.out)); rintro e dW ⟨rfl, hi, hb, hk⟩; refine ⟨_, rfl, ?_⟩; replace BK397 := aM (KeepBut.blk hk (g' := y) (o := .cells #[.int .i64 0, .int .i64 0, .int .i64 0, .int .i64 0, .string (⟨#[]⟩ : ByteArray), .slice none 0 0] 103 (0, 0)) (Z44) U.out (Z174)); replace HB := aM (hb); replace HI398 := aM (hi); (try clear hb); (try clear hk); (try clear hi)) | ((with_reducible refine gC 100 ?_); refine gL 19 func100 #[.pointer (some ⟨D, 0, none⟩), .int .i64 1] ?_; (with_reducible refine (impl_taker_number.calls k D bR bS 1 t405 a2 a3 w _ ?Y1 ?Y2 A7.out).mono ?_); (case Y1 => repeat (first | (with_reducible first | exact HI398.out | apply IsS143.alloc | apply IsS143.drewN | apply IsS143.drew | apply IsS143.set_0 | apply IsS143.set_1 | refine IsS143.far ?_ NB398_397.out _) | exact HI398.out)); (case Y2 => repeat (first | (with_reducible first | exact HB.out | apply below_alloc | apply pw_below_drewN | apply below_drew1 | refine below_set ?_ (IsS143.ge HI398.out) | refine below_set ?_ GE397.out) | exact HB.out)); rintro e dX ⟨rfl, hi, hb, hk⟩; refine ⟨_, rfl, ?_⟩; replace BK397 := aM (KeepBut.blk hk (g' := y) (o := .cells #[.int .i64 0, .int .i64 0, .int .i64 0, .int .i64 0, .string (⟨#[]⟩ : ByteArray), .slice none 0 0] 103 (0, 0)) (Z44) U.out (Z174)); replace HB := aM (hb); replace HI398 := aM (hi); (try clear hb); (try clear hk); (try clear hi)) | ((with_reducible refine gD 5 ?_); refine bxF w 5 #[.int .i64 0, .int .i64 0, .int .i64 0, .int .i64 0, .string (⟨#[]⟩ : ByteArray), .slice none 0 0] 103 (Z138) ?_; intro I hg dY BK408 dZ GE408 HB hb; have NB397_408 := aM ((nL BK397 hg (Z44))); have s := aM ((nG BK397 hg (Z44))); replace BK397 := aM (kB BK397 (Z44) hb); have NB398_408 := aM ((by rw [hg]; exact Nat.ne_of_lt (IsS143.lt (show IsS143 w _ D a2 a3 from by repeat (first | (with_reducible first | exact HI398.out | apply IsS143.alloc | apply IsS143.drewN | apply IsS143.drew | apply IsS143.set_0 | apply IsS143.set_1 | refine IsS143.far ?_ NB398_397.out _) | exact HI398.out))) : D ≠ I)); have X := aM ((by rw [hg]; exact Nat.ne_of_gt (IsS143.lt (show IsS143 w _ D a2 a3 from by repeat (first | (with_reducible first | exact HI398.out | apply IsS143.alloc | apply IsS143.drewN | apply IsS143.drew | apply IsS143.set_0 | apply IsS143.set_1 | refine IsS143.far ?_ NB398_397.out _) | exact HI398.out))) : I ≠ D)); replace HI398 := aM (IsS143.below (by repeat (first | (with_reducible first | exact HI398.out | apply IsS143.alloc | apply IsS143.drewN | apply IsS143.drew | apply IsS143.set_0 | apply IsS143.set_1 | refine IsS143.far ?_ NB398_397.out _) | exact HI398.out)) hb); clear hb hg; have d0 := s.out; have d1 := NB397_408.out; have d2 := X.out; have d3 := NB398_408.out; refine bD6 BK408 ?_; intros) | ((with_reducible refine gC 100 ?_); refine gL 21 func100 #[.pointer (some ⟨D, 0, none⟩), .int .i64 1] ?_; (with_reducible refine (impl_taker_number.calls k D a2 a3 1 aR bT bU w _ ?Y1 ?Y2 A8.out).mono ?_); (case Y1 => repeat (first | (with_reducible first | exact HI398.out | apply IsS143.alloc | apply IsS143.drewN | apply IsS143.drew | apply IsS143.set_0 | apply IsS143.set_1 | refine IsS143.far ?_ NB398_397.out _ | refine IsS143.far ?_ NB398_408.out _) | exact HI398.out)); (case Y2 => repeat (first | (with_reducible first | exact HB.out | apply below_alloc | apply pw_below_drewN | apply below_drew1 | refine below_set ?_ (IsS143.ge HI398.out) | refine below_set ?_ GE397.out | refine below_set ?_ GE408.out) | exact HB.out)); rintro e d4 ⟨rfl, hi, hb, hk⟩; refine ⟨_, rfl, ?_⟩; replace BK397 := aM (KeepBut.blk hk (g' := y) (o := .cells #[.int .i64 0, .int .i64 0, .int .i64 0, .int .i64 0, .string (⟨#[]⟩ : ByteArray), .slice none 0 0] 103 (0, 0)) zB U.out (Z174)); replace BK408 := aM (KeepBut.blk hk (g' := I) (o := .cells #[.int .i64 t399, .int .i64 0, .int .i64 t402, .int .i64 t405, .string (⟨#[]⟩ : ByteArray), .slice none 0 0] 103 (0, 0)) zB X.out (Z174)); replace HB := aM (hb); replace HI398 := aM (hi); (try clear hb); (try clear hk); (try clear hi)) | ((with_reducible refine gC 100 ?_); refine gL 22 func100 #[.pointer (some ⟨D, 0, none⟩), .int .i64 1] ?_; (with_reducible refine (impl_taker_number.calls k D bT bU 1 bA bV bW w _ ?Y1 ?Y2 A9.out).mono ?_); (case Y1 => repeat (first | (with_reducible first | exact HI398.out | apply IsS143.alloc | apply IsS143.drewN | apply IsS143.drew | apply IsS143.set_0 | apply IsS143.set_1 | refine IsS143.far ?_ NB398_397.out _ | refine IsS143.far ?_ NB398_408.out _) | exact HI398.out)); (case Y2 => repeat (first | (with_reducible first | exact HB.out | apply below_alloc | apply pw_below_drewN | apply below_drew1 | refine below_set ?_ (IsS143.ge HI398.out) | refine below_set ?_ GE397.out | refine below_set ?_ GE408.out) | exact HB.out)); rintro e d5 ⟨rfl, hi, hb, hk⟩; refine ⟨_, rfl, ?_⟩; replace BK397 := aM (KeepBut.blk hk (g' := y) (o := .cells #[.int .i64 0, .int .i64 0, .int .i64 0, .int .i64 0, .string (⟨#[]⟩ : ByteArray), .slice none 0 0] 103 (0, 0)) (Z44) U.out (Z174)); replace BK408 := aM (KeepBut.blk hk (g' := I) (o := .cells #[.int .i64 t399, .int .i64 0, .int .i64 t402, .int .i64 t405, .string (⟨#[]⟩ : ByteArray), .slice none 0 0] 103 (0, 0)) (Z86) X.out (Z174)); replace HB := aM (hb); replace HI398 := aM (hi); (try clear hb); (try clear hk); (try clear hi)) | ((with_reducible refine gC 100 ?_); refine gL 23 func100 #[.pointer (some ⟨D, 0, none⟩), .int .i64 2] ?_; (with_reducible refine (impl_taker_number.calls k D bV bW 2 t415 bX bY w _ ?Y1 ?Y2 cN.out).mono ?_); (case Y1 => repeat (first | (with_reducible first | exact HI398.out | apply IsS143.alloc | apply IsS143.drewN | apply IsS143.drew | apply IsS143.set_0 | apply IsS143.set_1 | refine IsS143.far ?_ NB398_397.out _ | refine IsS143.far ?_ NB398_408.out _) | exact HI398.out)); (case Y2 => repeat (first | (with_reducible first | exact HB.out | apply below_alloc | apply pw_below_drewN | apply below_drew1 | refine below_set ?_ (IsS143.ge HI398.out) | refine below_set ?_ GE397.out | refine below_set ?_ GE408.out) | exact HB.out)); rintro e d6 ⟨rfl, hi, hb, hk⟩; refine ⟨_, rfl, ?_⟩; replace BK397 := aM (KeepBut.blk hk (g' := y) (o := .cells #[.int .i64 0, .int .i64 0, .int .i64 0, .int .i64 0, .string (⟨#[]⟩ : ByteArray), .slice none 0 0] 103 (0, 0)) (Z44) U.out (Z174)); replace BK408 := aM (KeepBut.blk hk (g' := I) (o := .cells #[.int .i64 t399, .int .i64 0, .int .i64 t402, .int .i64 t405, .string (⟨#[]⟩ : ByteArray), .slice none 0 0] 103 (0, 0)) (Z86) X.out (Z174)); replace HB := aM (hb); replace HI398 := aM (hi); (try clear hb); (try clear hk); (try clear hi); refine bD6 BK408 ?_; intros) | ((with_reducible refine gC 101 ?_); refine gL 26 func101 #[.pointer (some ⟨D, 0, none⟩), .int .i64 bA] ?_; (with_reducible refine (impl_taker_text.calls D bX bY bA t418 M O w _ ?Y1 ?Y2 cO.out).mono ?_); (case Y1 => repeat (first | (with_reducible first | exact HI398.out | apply IsS143.alloc | apply IsS143.drewN | apply IsS143.drew | apply IsS143.set_0 | apply IsS143.set_1 | refine IsS143.far ?_ NB398_397.out _ | refine IsS143.far ?_ NB398_408.out _) | exact HI398.out)); (case Y2 => repeat (first | (with_reducible first | exact HB.out | apply below_alloc | apply pw_below_drewN | apply below_drew1 | refine below_set ?_ (IsS143.ge HI398.out) | refine below_set ?_ GE397.out | refine below_set ?_ GE408.out) | exact HB.out)); rintro e eA ⟨rfl, hi, hb, hk⟩; refine ⟨_, rfl, ?_⟩; replace BK397 := aM (KeepBut.blk hk (g' := y) (o := .cells #[.int .i64 0, .int .i64 0, .int .i64 0, .int .i64 0, .string (⟨#[]⟩ : ByteArray), .slice none 0 0] 103 (0, 0)) (Z123) U.out (Z174)); replace BK408 := aM (KeepBut.blk hk (g' := I) (o := .cells #[.int .i64 t399, .int .i64 t415, .int .i64 t402, .int .i64 t405, .string (⟨#[]⟩ : ByteArray), .slice none 0 0] 103 (0, 0)) zB X.out (Z174)); replace HB := aM (hb); replace HI398 := aM (hi); (try clear hb); (try clear hk); (try clear hi); refine bD6 BK408 ?_; intros))
  go_loopg [8] k (fun kq v8 w' => ∃ (Y : Int) (J : List (S130)) (u409005 : Value) (M : ByteArray) (O : Bool), v8 = .int .i64 Y ∧ Aside0 (impl_readMutation.l0 kq aR Y M O t399 t415 t402 t405 t418 J = some (r1, r2, r3, r4, r5, r6, r7)) ∧ Aside0 (kq ≤ k) ∧ Aside0 (Kd.R k130 130 w' w.heap.size (fun _ => True) u409005 J) ∧ Aside0 (w'.heap[y]? = some (.cells #[.int .i64 0, .int .i64 0, .int .i64 0, .int .i64 0, .string (⟨#[]⟩ : ByteArray), (.slice none 0 0)] 103 (0, 0))) ∧ Aside0 (w'.heap[I]? = some (.cells #[.int .i64 t399, .int .i64 t415, .int .i64 t402, .int .i64 t405, .string t418, u409005] 103 (0, 0))) ∧ Aside0 (IsS143 w w' D M O) ∧ Aside0 (Below w.heap.size w w'))
  case atStart => exact ⟨(0), (([] : List (S130))), (.slice none 0 0), (M), (O), (Z3), H', ⟨Nat.le_refl _⟩, ⟨Z135⟩, ⟨Z123⟩, ⟨zB⟩, ⟨Z70⟩, ⟨Z40⟩⟩
  case round =>
   clear H'
   (try clear c2); (try clear a8); (try clear a9)
   obtain ⟨Y, J, u409005, M, O, rfl, HA, HK1, HO_409005, BK397, BK408, HI398, HB⟩ := hrel
   cases gk with
   | zero => exact absurd HA.out (by simp [impl_readMutation.l0])
   | succ k1 =>
    have H := HA.out
    clear HA
    simp only [impl_readMutation.l0] at H
    have bB := aM H
    clear H
    go_upto_region 9 with (fail)
    go_cut [35] (fun cS wc => ∃ (kq : Nat) (a5 : Bool), cS = .bool a5 ∧ Aside0 (impl_readMutation.j1 kq aR Y a5 M O t399 t415 t402 t405 t418 J = some (r1, r2, r3, r4, r5, r6, r7)) ∧ Aside0 (kq ≤ k1) ∧ Aside0 (Kd.R k130 130 wc w.heap.size (fun _ => True) u409005 J) ∧ Aside0 (wc.heap[y]? = some (.cells #[.int .i64 0, .int .i64 0, .int .i64 0, .int .i64 0, .string (⟨#[]⟩ : ByteArray), (.slice none 0 0)] 103 (0, 0))) ∧ Aside0 (wc.heap[I]? = some (.cells #[.int .i64 t399, .int .i64 t415, .int .i64 t402, .int .i64 t405, .string t418, u409005] 103 (0, 0))) ∧ Aside0 (IsS143 w wc D M O) ∧ Aside0 (Below w.heap.size w wc))
    case first =>
     have H := bB.out
     clear bB
     by_cases aA : Y < aR
     ·rw [if_pos aA] at H
      have aU := decide_eq_true aA
      clear aA
      (first | rw [aU] | rw [cT] | (simp only [i64_w, i32_w]; rw [aU]) | skip)
      have H' := aM H
      clear H
      obtain ⟨aV, cU⟩ := HI398.out
      have eB := cellS143_0 aV
      have eC := cellS143_1 aV
      have eD := blk_frozen aV 0
      have eE := blk_frozen aV 1
      clear aV cU
      go_wp2
      go_meet
      case rel => exact ⟨_, (!O), (Z3), H', ⟨Z184⟩, ⟨Z109⟩, ⟨Z44⟩, ⟨Z86⟩, ⟨Z70⟩, ⟨Z40⟩⟩
     ·rw [if_neg aA] at H
      have aU := decide_eq_false aA
      clear aA
      (first | rw [aU] | rw [cT] | (simp only [i64_w, i32_w]; rw [aU]) | skip)
      have H' := aM H
      clear H
      go_wp2
      go_meet
      case rel => exact ⟨_, (false), (Z3), H', ⟨Z184⟩, ⟨Z109⟩, ⟨Z44⟩, ⟨Z86⟩, ⟨Z70⟩, ⟨Z40⟩⟩
    case rest =>
     clear bB
     (try clear c2); (try clear a8); (try clear a9)
     obtain ⟨kq, a5, rfl, HA, bZ, HO_409005, BK397, BK408, HI398, HB⟩ := hcut
     cases kq with
     | zero => exact absurd HA.out (by simp [impl_readMutation.j1])
     | succ aW =>
      have H := HA.out
      clear HA
      simp only [impl_readMutation.j1] at H
      by_cases a6 : a5 = true
      ·subst a6
       replace H := ifT H
       obtain ⟨⟨bC, bD, bE⟩, cV, H⟩ := bindA H
       try dsimp only at H
       obtain ⟨⟨bF, bG, bH⟩, cX, H⟩ := bindA H
       try dsimp only at H
       obtain ⟨⟨aX, bI, bJ⟩, cY, H⟩ := bindA H
       try dsimp only at H
       obtain ⟨⟨aY, bK, bL⟩, cZ, H⟩ := bindA H
       try dsimp only at H
       obtain ⟨b0, H⟩ := ifS H
       have dA := aM b0
       clear b0
       obtain ⟨bM, aZ⟩ : ∃ y_ : List (S130), y_ = (J ++ [(⟨aX, aY⟩ : S130)]) := ⟨_, rfl⟩
       replace H : (impl_readMutation.l0 aW aR (wrap64 (Y + 1)) bK bL t399 t415 t402 t405 t418 bM) = some (r1, r2, r3, r4, r5, r6, r7) := by first | (rw [aZ]; with_reducible exact H) | (have H2_ := (Option.bind_some _ _).symm.trans H; rw [aZ]; with_reducible exact H2_) | (have H2_ := (Option.bind_some _ _).symm.trans H; with_reducible exact H2_) | with_reducible exact H | (rw [aZ]; exact H) | exact H
       have dB := aM aZ
       clear aZ
       have H' := aM H
       clear H
       try go_wp2_with (first | ((with_reducible refine gC 100 ?_); refine gL 38 func100 #[.pointer (some ⟨D, 0, none⟩), .int .i64 2] ?_; (with_reducible refine (impl_taker_number.calls aW D M O 2 bC bD bE w _ ?Y1 ?Y2 cV.out).mono ?_); (case Y1 => repeat (first | (with_reducible first | exact HI398.out | apply IsS143.alloc | apply IsS143.drewN | apply IsS143.drew | apply IsS143.set_0 | apply IsS143.set_1 | refine IsS143.far ?_ NB398_397.out _ | refine IsS143.far ?_ NB398_408.out _) | exact HI398.out)); (case Y2 => repeat (first | (with_reducible first | exact HB.out | apply below_alloc | apply pw_below_drewN | apply below_drew1 | refine below_set ?_ (IsS143.ge HI398.out) | refine below_set ?_ GE397.out | refine below_set ?_ GE408.out) | exact HB.out)); rintro e eF ⟨rfl, hi, hb, hk⟩; refine ⟨_, rfl, ?_⟩; replace HO_409005 := aM (Kd.R_mono (Kd.R_keep (IsS143.apart (show IsS143 w _ D M O from by repeat (first | (with_reducible first | exact HI398.out | apply IsS143.alloc | apply IsS143.drewN | apply IsS143.drew | apply IsS143.set_0 | apply IsS143.set_1 | refine IsS143.far ?_ NB398_397.out _ | refine IsS143.far ?_ NB398_408.out _) | exact HI398.out)) (Z109) (Z101)) hk (fun _ h => h.2)) (fun _ h => h.1)); replace BK397 := aM (KeepBut.blk hk (g' := y) (o := .cells #[.int .i64 0, .int .i64 0, .int .i64 0, .int .i64 0, .string (⟨#[]⟩ : ByteArray), .slice none 0 0] 103 (0, 0)) (Z44) U.out (Z174)); replace BK408 := aM (KeepBut.blk hk (g' := I) (o := .cells #[.int .i64 t399, .int .i64 t415, .int .i64 t402, .int .i64 t405, .string t418, u409005] 103 (0, 0)) (Z86) X.out (Z174)); replace HB := aM (hb); replace HI398 := aM (hi); (try clear hb); (try clear hk); (try clear hi)) | ((with_reducible refine gC 100 ?_); refine gL 39 func100 #[.pointer (some ⟨D, 0, none⟩), .int .i64 2] ?_; (with_reducible refine (impl_taker_number.calls aW D bD bE 2 bF bG bH w _ ?Y1 ?Y2 cX.out).mono ?_); (case Y1 => repeat (first | (with_reducible first | exact HI398.out | apply IsS143.alloc | apply IsS143.drewN | apply IsS143.drew | apply IsS143.set_0 | apply IsS143.set_1 | refine IsS143.far ?_ NB398_397.out _ | refine IsS143.far ?_ NB398_408.out _) | exact HI398.out)); (case Y2 => repeat (first | (with_reducible first | exact HB.out | apply below_alloc | apply pw_below_drewN | apply below_drew1 | refine below_set ?_ (IsS143.ge HI398.out) | refine below_set ?_ GE397.out | refine below_set ?_ GE408.out) | exact HB.out)); rintro e dC ⟨rfl, hi, hb, hk⟩; refine ⟨_, rfl, ?_⟩; replace HO_409005 := aM (Kd.R_mono (Kd.R_keep (IsS143.apart (show IsS143 w _ D bD bE from by repeat (first | (with_reducible first | exact HI398.out | apply IsS143.alloc | apply IsS143.drewN | apply IsS143.drew | apply IsS143.set_0 | apply IsS143.set_1 | refine IsS143.far ?_ NB398_397.out _ | refine IsS143.far ?_ NB398_408.out _) | exact HI398.out)) (Z109) (Z101)) hk (fun _ h => h.2)) (fun _ h => h.1)); replace BK397 := aM (KeepBut.blk hk (g' := y) (o := .cells #[.int .i64 0, .int .i64 0, .int .i64 0, .int .i64 0, .string (⟨#[]⟩ : ByteArray), .slice none 0 0] 103 (0, 0)) (Z44) U.out (Z174)); replace BK408 := aM (KeepBut.blk hk (g' := I) (o := .cells #[.int .i64 t399, .int .i64 t415, .int .i64 t402, .int .i64 t405, .string t418, u409005] 103 (0, 0)) (Z86) X.out (Z174)); replace HB := aM (hb); replace HI398 := aM (hi); (try clear hb); (try clear hk); (try clear hi)))
       replace HO_409005 := aM (Kd.R_drew HO_409005.out)
       replace BK397 := aM (blk_drew BK397.out)
       replace BK408 := aM (blk_drew BK408.out)
       replace HI398 := aM (IsS143.drew HI398.out)
       replace HB := aM (below_drew1 HB.out)
       refine start_ (n := 11) (S := fun w' => qc6 I (.int .i64 t399) (.int .i64 t415) (.int .i64 t402) (.int .i64 t405) (.string t418) (u409005) w') (ds := [10]) #[false, false, false, false, false, false, false, false, false, false, false] (Z18) rfl rfl (bc6 BK408.out) (fun hHeld => ?_); refine with_tabW impl_readMutation.tab12 impl_readMutation.bits12 (fun HT_ HW_ => ?_)
       generalize dC.drew = eG at HO_409005 BK397 BK408 HI398 HB hHeld ⊢
       refine pA 0 40 ?_
       refine pA 2 42 ?_
       refine pA 4 44 ?_
       refine tA 1 41 ?_
       refine oA 3 43 (fun K hK => ?_)
       refine goes_ func101 (Z18) rfl #[.pointer (some ⟨D, 0, none⟩), .int .i64 bC] (Z117) rfl rfl (Z2) ?_
       with_reducible refine (impl_taker_text.calls D bG bH bC aX bI bJ w _ ?Y1 ?Y2 cY.out).mono ?_
       (case Y1 => repeat (first | (with_reducible first | exact HI398.out | apply IsS143.alloc | apply IsS143.drewN | apply IsS143.drew | apply IsS143.set_0 | apply IsS143.set_1 | refine IsS143.far ?_ NB398_397.out _ | refine IsS143.far ?_ NB398_408.out _) | exact HI398.out))
       (case Y2 => repeat (first | (with_reducible first | exact HB.out | apply below_alloc | apply pw_below_drewN | apply below_drew1 | refine below_set ?_ (IsS143.ge HI398.out) | refine below_set ?_ GE397.out | refine below_set ?_ GE408.out) | exact HB.out))
       rintro e eH ⟨rfl, hi, hb, hk⟩
       refine ⟨_, rfl, ?_⟩
       replace HO_409005 := aM (Kd.R_mono (Kd.R_keep (IsS143.apart (show IsS143 w _ D bG bH from by repeat (first | (with_reducible first | exact HI398.out | apply IsS143.alloc | apply IsS143.drewN | apply IsS143.drew | apply IsS143.set_0 | apply IsS143.set_1 | refine IsS143.far ?_ NB398_397.out _ | refine IsS143.far ?_ NB398_408.out _) | exact HI398.out)) (Z109) (Z101)) hk (fun _ h => h.2)) (fun _ h => h.1))
       replace BK397 := aM (KeepBut.blk hk (g' := y) (o := .cells #[.int .i64 0, .int .i64 0, .int .i64 0, .int .i64 0, .string (⟨#[]⟩ : ByteArray), .slice none 0 0] 103 (0, 0)) (Z44) U.out (Z174))
       replace BK408 := aM (KeepBut.blk hk (g' := I) (o := .cells #[.int .i64 t399, .int .i64 t415, .int .i64 t402, .int .i64 t405, .string t418, u409005] 103 (0, 0)) (Z86) X.out (Z174))
       replace HB := aM (hb)
       replace HI398 := aM (hi)
       (try clear hb); (try clear b1); (try clear hk); (try clear hi)
       refine hK.out _ _ (bc6 BK408.out) (fun hHeld => ?_)
       clear hK K
       refine nB 43 ?_
       refine oA 5 45 (fun K hK => ?_)
       refine goes_ func101 (Z18) rfl #[.pointer (some ⟨D, 0, none⟩), .int .i64 bF] (Z117) rfl rfl (Z2) ?_
       with_reducible refine (impl_taker_text.calls D bI bJ bF aY bK bL w _ ?Y1 ?Y2 cZ.out).mono ?_
       (case Y1 => repeat (first | (with_reducible first | exact HI398.out | apply IsS143.alloc | apply IsS143.drewN | apply IsS143.drew | apply IsS143.set_0 | apply IsS143.set_1 | refine IsS143.far ?_ NB398_397.out _ | refine IsS143.far ?_ NB398_408.out _) | exact HI398.out))
       (case Y2 => repeat (first | (with_reducible first | exact HB.out | apply below_alloc | apply pw_below_drewN | apply below_drew1 | refine below_set ?_ (IsS143.ge HI398.out) | refine below_set ?_ GE397.out | refine below_set ?_ GE408.out) | exact HB.out))
       rintro e eI ⟨rfl, hi, hb, hk⟩
       refine ⟨_, rfl, ?_⟩
       replace HO_409005 := aM (Kd.R_mono (Kd.R_keep (IsS143.apart (show IsS143 w _ D bI bJ from by repeat (first | (with_reducible first | exact HI398.out | apply IsS143.alloc | apply IsS143.drewN | apply IsS143.drew | apply IsS143.set_0 | apply IsS143.set_1 | refine IsS143.far ?_ NB398_397.out _ | refine IsS143.far ?_ NB398_408.out _) | exact HI398.out)) (Z109) (Z101)) hk (fun _ h => h.2)) (fun _ h => h.1))
       replace BK397 := aM (KeepBut.blk hk (g' := y) (o := .cells #[.int .i64 0, .int .i64 0, .int .i64 0, .int .i64 0, .string (⟨#[]⟩ : ByteArray), .slice none 0 0] 103 (0, 0)) (Z44) U.out (Z174))
       replace BK408 := aM (KeepBut.blk hk (g' := I) (o := .cells #[.int .i64 t399, .int .i64 t415, .int .i64 t402, .int .i64 t405, .string t418, u409005] 103 (0, 0)) (Z86) X.out (Z174))
       replace HB := aM (hb)
       replace HI398 := aM (hi)
       (try clear hb); (try clear b1); (try clear hk); (try clear hi)
       refine hK.out _ _ (bc6 BK408.out) (fun hHeld => ?_)
       clear hK K
       refine nB 45 ?_
       refine pA 6 46 ?_
       refine oA 7 47 (fun K hK => ?_)
       refine value_ (w1 := ?_) (v := ?_) (Z117) rfl ?_ ?_
       rotate_left 2
       ·go_simp
        constructor
        ·rfl
        ·rfl
       refine hK.out _ _ (bc6 (blk_alloc BK408.out _)) (fun hHeld => ?_)
       clear hK K
       refine nB 47 ?_
       refine oA 8 48 (fun K hK => ?_)
       refine Kd.R_append_step k130 (w0 := w) w.heap.size (Z117) (.tmp 41) (.tmp 47) 101 130 (.agg #[(.string ⟨#[]⟩), (.string ⟨#[]⟩)]) 32 rfl underlying101 info130 rfl (Z101) (Z42) u409005 J (⟨aX, aY⟩ : S130) [.string aX, .string aY] (fun _ => True) (fun _ => False) rfl rfl ?aP (fun _ hk => hk.elim) ?aF ?aO ?aB ?aS ?aL ?_
       (case aP => exact k130_mkM _ _ _ (⟨aX, aY⟩ : S130))
       (case aB => exact (Z40))
       (case aF => exact (fun _ _ => trivial))
       (case aO => exact (Z109))
       (case aS => exact (below_size (Z40)))
       (case aL => have := dA.out; omega)
       intro eJ dD ho hb hg hat
       rw [← dB.out] at ho
       have n0_ := aM (blk_grown (g := y) (o := .cells #[.int .i64 0, .int .i64 0, .int .i64 0, .int .i64 0, .string (⟨#[]⟩ : ByteArray), .slice none 0 0] 103 (0, 0)) (Z44) hg (Kd.R_ne HO_409005.out BK397.out (Z101)))
       have n1_ := aM (blk_grown (g := I) (o := .cells #[.int .i64 t399, .int .i64 t415, .int .i64 t402, .int .i64 t405, .string t418, u409005] 103 (0, 0)) (Z86) hg (Kd.R_ne HO_409005.out BK408.out (Z101)))
       have n2_ := aM (IsS143.grown (Z70) hg (IsS143.own_ne HI398.out HO_409005.out (Z101)))
       have n3_ := aM (hb)
       have n4_ := aM (ho)
       clear BK397
       clear BK408
       clear HI398
       clear HB
       clear HO_409005
       have BK397 := n0_
       have BK408 := n1_
       have HI398 := n2_
       have HB := n3_
       have b2 := n4_
       clear n0_ n1_ n2_ n3_ n4_
       clear ho hb hg hat
       obtain ⟨dE, dF, b6⟩ := Kd.R_slice b2.out
       (first | subst b6 | (injection b6 with f1_ f2_ f3_; have f4_ := f1_.symm; have f5_ := f3_.symm; clear f1_ f2_ f3_; subst f4_; subst f5_))
       refine hK.out _ _ (bc6 BK408.out) (fun hHeld => ?_)
       clear hK K
       refine nB 48 ?_
       refine pA 9 49 ?_
       refine last_ (i := 10) (N := none) #[true, true, true, true, true, true, true, true, true, true, true] rfl rfl (one_of HT_.out (Z18)) (Z101) (fun K hK => ?_)
       have eK : dD.cell? ⟨I, 5, none⟩ = some (u409005) := (blk_cell BK408.out 5).trans rfl
       have eL := blk_frozen BK408.out 5
       have eM := NB397_408.out
       have eN := s.out
       refine skip_ (w1 := ?_) (Z117) rfl ?_ ?_
       rotate_left
       ·go_simp
        rfl
       refine hK.out _ _ ?_
       clear hK K
       refine done_ (done_of HT_.out (Z18)) ?_
       try go_wp2
       go_roundg aW
       case measure => have := HK1.out; have := bZ.out; omega
       case rel => exact ⟨(wrap64 (Y + 1)), (bM), (.slice dE bM.length dF), (bK), (bL), (Z3), H', ⟨by have := HK1.out; have := bZ.out; omega⟩, ⟨by (with_reducible repeat (first | apply Kd.R_alloc | apply Kd.R_drewN | apply Kd.R_drew)); exact Kd.R_mono (rF 5 (Kd.R_types b2.out BK408.out (Z101))) (fun _ hk => trivial)⟩, ⟨Z123⟩, ⟨zB⟩, ⟨Z70⟩, ⟨Z40⟩⟩
      ·replace a6 := Bool.eq_false_iff.mpr a6
       subst a6
       replace H := ifF H
       by_cases a7 : O = true
       ·subst a7
        replace H := ifT H
        simp only [Option.some.injEq, Prod.mk.injEq] at H
        obtain ⟨rfl, rfl, rfl, rfl, rfl, rfl, rfl⟩ := H
        try go_wp2
        replace HO_409005 := aM (Kd.R_drew HO_409005.out)
        replace BK397 := aM (blk_drew BK397.out)
        replace BK408 := aM (blk_drew BK408.out)
        replace HI398 := aM (IsS143.drew HI398.out)
        replace HB := aM (below_drew1 HB.out)
        obtain ⟨b7, b8, b9⟩ := Kd.R_slice HO_409005.out
        (first | subst b9 | (injection b9 with f1_ f2_ f3_; have f4_ := f1_.symm; have f5_ := f3_.symm; clear f1_ f2_ f3_; subst f4_; subst f5_))
        refine start_ (n := 15) (S := fun w' => Qc6 I (.int .i64 t399) (.int .i64 t415) (.int .i64 t402) (.int .i64 t405) (.string t418) (.slice b7 J.length b8) (qc2 D (.string M) (.bool true) w') w') (ds := []) #[false, false, false, false, false, false, false, false, false, false, false, false, false, false, false] (Z18) rfl rfl (bk6 BK408.out (bc2 (aM HI398.out.1).out)) (fun hHeld => ?_); refine with_tabW impl_readMutation.tab13 impl_readMutation.bits13 (fun HT_ HW_ => ?_)
        generalize wc.drew = aC at HO_409005 BK397 BK408 HI398 HB hHeld ⊢
        refine pA 1 51 ?_
        refine tA 0 50 ?_
        refine tA 2 52 ?_
        refine pA 3 53 ?_
        refine pA 4 54 ?_
        refine pU 5 55 ?_
        refine pU 6 56 ?_
        refine pU 7 57 ?_
        refine pA 8 58 ?_
        refine pA 9 59 ?_
        refine pU 10 60 ?_
        refine pU 11 61 ?_
        refine pA 12 62 ?_
        refine one_ (i := 13) (N := none) #[true, true, true, true, true, true, true, true, true, true, true, true, true, true, false] rfl rfl (one_of HT_.out (Z18)) (Z101) (fun K hK => ?_)
        have eO : aC.cell? ⟨y, 0, none⟩ = some (.int .i64 0) := (blk_cell BK397.out 0).trans rfl
        have eP := blk_frozen BK397.out 0
        have eQ := s.out
        have eR := NB397_408.out
        have eS : aC.cell? ⟨y, 1, none⟩ = some (.int .i64 0) := (blk_cell BK397.out 1).trans rfl
        have eT := blk_frozen BK397.out 1
        have eU := s.out
        have eV := NB397_408.out
        have eW : aC.cell? ⟨y, 2, none⟩ = some (.int .i64 0) := (blk_cell BK397.out 2).trans rfl
        have eX := blk_frozen BK397.out 2
        have eY := s.out
        have eZ := NB397_408.out
        have e0 : aC.cell? ⟨y, 3, none⟩ = some (.int .i64 0) := (blk_cell BK397.out 3).trans rfl
        have e1 := blk_frozen BK397.out 3
        have e2 := s.out
        have e3 := NB397_408.out
        have e4 : aC.cell? ⟨y, 4, none⟩ = some (.string (⟨#[]⟩ : ByteArray)) := (blk_cell BK397.out 4).trans rfl
        have e5 := blk_frozen BK397.out 4
        have e6 := s.out
        have e7 := NB397_408.out
        have e8 : aC.cell? ⟨y, 5, none⟩ = some (.slice none 0 0) := (blk_cell BK397.out 5).trans rfl
        have e9 := blk_frozen BK397.out 5
        have fA := s.out
        have fB := NB397_408.out
        refine skip_ (w1 := ?_) (Z117) rfl ?_ ?_
        rotate_left
        ·go_simp
         rfl
        refine hK.out _ _ ⟨(cF s ((cF s ((cF s ((cF s ((cF s ((cF s (hHeld.1)))))))))))), ⟨(cF s ((cF s ((cF s ((cF s ((cF s ((cF s (hHeld.2.1)))))))))))), ⟨(cF s ((cF s ((cF s ((cF s ((cF s ((cF s (hHeld.2.2.1)))))))))))), ⟨(cF s ((cF s ((cF s ((cF s ((cF s ((cF s (hHeld.2.2.2.1)))))))))))), ⟨(cF s ((cF s ((cF s ((cF s ((cF s ((cF s (hHeld.2.2.2.2.1)))))))))))), ⟨(cF s ((cF s ((cF s ((cF s ((cF s ((cF s (hHeld.2.2.2.2.2.1)))))))))))), ⟨(cF NB398_397 ((cF NB398_397 ((cF NB398_397 ((cF NB398_397 ((cF NB398_397 ((cF NB398_397 (hHeld.2.2.2.2.2.2.1)))))))))))), (cF NB398_397 ((cF NB398_397 ((cF NB398_397 ((cF NB398_397 ((cF NB398_397 ((cF NB398_397 (hHeld.2.2.2.2.2.2.2))))))))))))⟩⟩⟩⟩⟩⟩⟩ (fun hHeld => ?_)
        clear hK K
        refine pA 14 3 ?_
        refine done_ (done_of HT_.out (Z18)) ?_
        try go_wp2
        refine bodyPost_ret (results_ct rfl _ _ y 103 #[.int .i64 t399, .int .i64 t415, .int .i64 t402, .int .i64 t405, .string t418, .slice b7 J.length b8] (0, 0) _ rfl (Z16) underlying103 rfl (Z18)) rfl ?_
        exact ⟨_, Z1, by (with_reducible repeat (first | apply Kd.R_alloc | apply Kd.R_drewN | apply Kd.R_drew)); exact Kd.R_mono (rF 5 (rF 4 (rF 3 (rF 2 (rF 1 (rF 0 (Kd.R_types HO_409005.out BK397.out (Z101)))))))) (fun _ hk => trivial), Z40⟩
       ·replace a7 := Bool.eq_false_iff.mpr a7
        subst a7
        replace H := ifF H
        by_cases Z : M.toList = ([] : List UInt8)
        ·rw [if_pos Z] at H
         have dG := beq_iff_eq.mpr Z
         have dH := bne_eq_false_iff_eq.mpr Z
         clear Z
         obtain ⟨dI, dJ, H⟩ := bindA H
         try dsimp only at H
         simp only [Option.some.injEq, Prod.mk.injEq] at H
         obtain ⟨rfl, rfl, rfl, rfl, rfl, rfl, rfl⟩ := H
         try go_wp2
         replace HO_409005 := aM (Kd.R_drew HO_409005.out)
         replace BK397 := aM (blk_drew BK397.out)
         replace BK408 := aM (blk_drew BK408.out)
         replace HI398 := aM (IsS143.drew HI398.out)
         replace HB := aM (below_drew1 HB.out)
         obtain ⟨bN, bO, cA⟩ := Kd.R_slice HO_409005.out
         (first | subst cA | (injection cA with f1_ f2_ f3_; have f4_ := f1_.symm; have f5_ := f3_.symm; clear f1_ f2_ f3_; subst f4_; subst f5_))
         refine start_ (n := 15) (S := fun w' => Qc6 I (.int .i64 t399) (.int .i64 t415) (.int .i64 t402) (.int .i64 t405) (.string t418) (.slice bN J.length bO) (qc2 D (.string M) (.bool false) w') w') (ds := []) #[false, false, false, false, false, false, false, false, false, false, false, false, false, false, false] (Z18) rfl rfl (bk6 BK408.out (bc2 (aM HI398.out.1).out)) (fun hHeld => ?_); refine with_tabW impl_readMutation.tab13 impl_readMutation.bits13 (fun HT_ HW_ => ?_)
         generalize wc.drew = fC at HO_409005 BK397 BK408 HI398 HB hHeld ⊢
         refine pA 1 51 ?_
         refine tA 0 50 ?_
         refine tA 2 52 ?_
         refine pA 3 53 ?_
         refine pA 4 54 ?_
         refine pA 5 55 ?_
         refine tA 6 56 ?_
         refine pA 7 57 ?_
         refine pA 8 58 ?_
         refine pA 9 59 ?_
         refine tA 10 60 ?_
         refine oA 11 61 (fun K hK => ?_)
         refine goes_ func102 (Z18) rfl #[.agg #[.int .i64 t399, .int .i64 t415, .int .i64 t402, .int .i64 t405, .string t418, .slice bN J.length bO]] (Z117) rfl rfl (Z2) ?_
         with_reducible refine (impl_MutationOK.calls aW t399 t415 t402 t405 t418 _ _ J dI _ ?Y1 ?Y2 dJ.out).mono ?_
         (case Y1 => have h_ := (Kd.R_reads' HO_409005.out).2.2; exact tC)
         (case Y2 => exact (Kd.R_reads' HO_409005.out).2.1)
         rintro e aD ⟨rfl, hb⟩
         refine ⟨_, rfl, ?_⟩
         replace HO_409005 := aM (Kd.R_below (Z109) hb)
         replace BK397 := aM (kB BK397 (Z44) hb)
         replace BK408 := aM (kB BK408 (Z86) hb)
         replace HB := aM (below_step (Z40) hb)
         replace HI398 := aM (IsS143.below (Z70) hb)
         (try clear hb); (try clear b1); (try clear hk); (try clear hi)
         refine hK.out _ _ (bk6 BK408.out (bc2 (aM HI398.out.1).out)) (fun hHeld => ?_)
         clear hK K
         refine nB 61 ?_
         refine pA 12 62 ?_
         refine one_ (i := 13) (N := none) #[true, true, true, true, true, true, true, true, true, true, true, true, true, true, false] rfl rfl (one_of HT_.out (Z18)) (Z101) (fun K hK => ?_)
         have fD : aD.cell? ⟨y, 0, none⟩ = some (.int .i64 0) := (blk_cell BK397.out 0).trans rfl
         have fE := blk_frozen BK397.out 0
         have fF := s.out
         have fG := NB397_408.out
         have fH : aD.cell? ⟨y, 1, none⟩ = some (.int .i64 0) := (blk_cell BK397.out 1).trans rfl
         have fJ := blk_frozen BK397.out 1
         have fK := s.out
         have fL := NB397_408.out
         have fM : aD.cell? ⟨y, 2, none⟩ = some (.int .i64 0) := (blk_cell BK397.out 2).trans rfl
         have fN := blk_frozen BK397.out 2
         have fO := s.out
         have fP := NB397_408.out
         have fQ : aD.cell? ⟨y, 3, none⟩ = some (.int .i64 0) := (blk_cell BK397.out 3).trans rfl
         have fR := blk_frozen BK397.out 3
         have fS := s.out
         have fU := NB397_408.out
         have fV : aD.cell? ⟨y, 4, none⟩ = some (.string (⟨#[]⟩ : ByteArray)) := (blk_cell BK397.out 4).trans rfl
         have fW := blk_frozen BK397.out 4
         have fX := s.out
         have fY := NB397_408.out
         have fZ : aD.cell? ⟨y, 5, none⟩ = some (.slice none 0 0) := (blk_cell BK397.out 5).trans rfl
         have f4 := blk_frozen BK397.out 5
         have f5 := s.out
         have f6 := NB397_408.out
         refine skip_ (w1 := ?_) (Z117) rfl ?_ ?_
         rotate_left
         ·go_simp
          rfl
         refine hK.out _ _ ⟨(cF s ((cF s ((cF s ((cF s ((cF s ((cF s (hHeld.1)))))))))))), ⟨(cF s ((cF s ((cF s ((cF s ((cF s ((cF s (hHeld.2.1)))))))))))), ⟨(cF s ((cF s ((cF s ((cF s ((cF s ((cF s (hHeld.2.2.1)))))))))))), ⟨(cF s ((cF s ((cF s ((cF s ((cF s ((cF s (hHeld.2.2.2.1)))))))))))), ⟨(cF s ((cF s ((cF s ((cF s ((cF s ((cF s (hHeld.2.2.2.2.1)))))))))))), ⟨(cF s ((cF s ((cF s ((cF s ((cF s ((cF s (hHeld.2.2.2.2.2.1)))))))))))), ⟨(cF NB398_397 ((cF NB398_397 ((cF NB398_397 ((cF NB398_397 ((cF NB398_397 ((cF NB398_397 (hHeld.2.2.2.2.2.2.1)))))))))))), (cF NB398_397 ((cF NB398_397 ((cF NB398_397 ((cF NB398_397 ((cF NB398_397 ((cF NB398_397 (hHeld.2.2.2.2.2.2.2))))))))))))⟩⟩⟩⟩⟩⟩⟩ (fun hHeld => ?_)
         clear hK K
         refine pA 14 3 ?_
         refine done_ (done_of HT_.out (Z18)) ?_
         try go_wp2
         refine bodyPost_ret (results_ct rfl _ _ y 103 #[.int .i64 t399, .int .i64 t415, .int .i64 t402, .int .i64 t405, .string t418, .slice bN J.length bO] (0, 0) _ rfl (Z16) underlying103 rfl (Z18)) rfl ?_
         exact ⟨_, Z1, by (with_reducible repeat (first | apply Kd.R_alloc | apply Kd.R_drewN | apply Kd.R_drew)); exact Kd.R_mono (rF 5 (rF 4 (rF 3 (rF 2 (rF 1 (rF 0 (Kd.R_types HO_409005.out BK397.out (Z101)))))))) (fun _ hk => trivial), Z40⟩
        ·rw [if_neg Z] at H
         have dG := beq_eq_false_iff_ne.mpr Z
         have dH := bne_iff_ne.mpr Z
         simp only [Option.some.injEq, Prod.mk.injEq] at H
         obtain ⟨rfl, rfl, rfl, rfl, rfl, rfl, rfl⟩ := H
         try go_wp2
         replace HO_409005 := aM (Kd.R_drew HO_409005.out)
         replace BK397 := aM (blk_drew BK397.out)
         replace BK408 := aM (blk_drew BK408.out)
         replace HI398 := aM (IsS143.drew HI398.out)
         replace HB := aM (below_drew1 HB.out)
         obtain ⟨cC, cD, cG⟩ := Kd.R_slice HO_409005.out
         (first | subst cG | (injection cG with f1_ f2_ f3_; have f4_ := f1_.symm; have f5_ := f3_.symm; clear f1_ f2_ f3_; subst f4_; subst f5_))
         refine start_ (n := 15) (S := fun w' => Qc6 I (.int .i64 t399) (.int .i64 t415) (.int .i64 t402) (.int .i64 t405) (.string t418) (.slice cC J.length cD) (qc2 D (.string M) (.bool false) w') w') (ds := []) #[false, false, false, false, false, false, false, false, false, false, false, false, false, false, false] (Z18) rfl rfl (bk6 BK408.out (bc2 (aM HI398.out.1).out)) (fun hHeld => ?_); refine with_tabW impl_readMutation.tab13 impl_readMutation.bits13 (fun HT_ HW_ => ?_)
         generalize wc.drew = aE at HO_409005 BK397 BK408 HI398 HB hHeld ⊢
         refine pA 1 51 ?_
         refine tA 0 50 ?_
         refine tA 2 52 ?_
         refine pA 3 53 ?_
         refine pA 4 54 ?_
         refine pA 5 55 ?_
         refine tA 6 56 ?_
         refine pA 7 57 ?_
         refine pA 8 58 ?_
         refine pA 9 59 ?_
         refine pU 10 60 ?_
         refine pU 11 61 ?_
         refine pA 12 62 ?_
         refine one_ (i := 13) (N := none) #[true, true, true, true, true, true, true, true, true, true, true, true, true, true, false] rfl rfl (one_of HT_.out (Z18)) (Z101) (fun K hK => ?_)
         have f7 : aE.cell? ⟨y, 0, none⟩ = some (.int .i64 0) := (blk_cell BK397.out 0).trans rfl
         have f8 := blk_frozen BK397.out 0
         have f9 := s.out
         have gA := NB397_408.out
         have gB : aE.cell? ⟨y, 1, none⟩ = some (.int .i64 0) := (blk_cell BK397.out 1).trans rfl
         have gG := blk_frozen BK397.out 1
         have gI := s.out
         have gJ := NB397_408.out
         have gK : aE.cell? ⟨y, 2, none⟩ = some (.int .i64 0) := (blk_cell BK397.out 2).trans rfl
         have gP := blk_frozen BK397.out 2
         have gQ := s.out
         have gR := NB397_408.out
         have gU : aE.cell? ⟨y, 3, none⟩ = some (.int .i64 0) := (blk_cell BK397.out 3).trans rfl
         have gV := blk_frozen BK397.out 3
         have gW := s.out
         have gX := NB397_408.out
         have gY : aE.cell? ⟨y, 4, none⟩ = some (.string (⟨#[]⟩ : ByteArray)) := (blk_cell BK397.out 4).trans rfl
         have gZ := blk_frozen BK397.out 4
         have g0 := s.out
         have g1 := NB397_408.out
         have g3 : aE.cell? ⟨y, 5, none⟩ = some (.slice none 0 0) := (blk_cell BK397.out 5).trans rfl
         have g4 := blk_frozen BK397.out 5
         have g5 := s.out
         have g6 := NB397_408.out
         refine skip_ (w1 := ?_) (Z117) rfl ?_ ?_
         rotate_left
         ·go_simp
          rfl
         refine hK.out _ _ ⟨(cF s ((cF s ((cF s ((cF s ((cF s ((cF s (hHeld.1)))))))))))), ⟨(cF s ((cF s ((cF s ((cF s ((cF s ((cF s (hHeld.2.1)))))))))))), ⟨(cF s ((cF s ((cF s ((cF s ((cF s ((cF s (hHeld.2.2.1)))))))))))), ⟨(cF s ((cF s ((cF s ((cF s ((cF s ((cF s (hHeld.2.2.2.1)))))))))))), ⟨(cF s ((cF s ((cF s ((cF s ((cF s ((cF s (hHeld.2.2.2.2.1)))))))))))), ⟨(cF s ((cF s ((cF s ((cF s ((cF s ((cF s (hHeld.2.2.2.2.2.1)))))))))))), ⟨(cF NB398_397 ((cF NB398_397 ((cF NB398_397 ((cF NB398_397 ((cF NB398_397 ((cF NB398_397 (hHeld.2.2.2.2.2.2.1)))))))))))), (cF NB398_397 ((cF NB398_397 ((cF NB398_397 ((cF NB398_397 ((cF NB398_397 ((cF NB398_397 (hHeld.2.2.2.2.2.2.2))))))))))))⟩⟩⟩⟩⟩⟩⟩ (fun hHeld => ?_)
         clear hK K
         refine pA 14 3 ?_
         refine done_ (done_of HT_.out (Z18)) ?_
         try go_wp2
         refine bodyPost_ret (results_ct rfl _ _ y 103 #[.int .i64 t399, .int .i64 t415, .int .i64 t402, .int .i64 t405, .string t418, .slice cC J.length cD] (0, 0) _ rfl (Z16) underlying103 rfl (Z18)) rfl ?_
         exact ⟨_, Z1, by (with_reducible repeat (first | apply Kd.R_alloc | apply Kd.R_drewN | apply Kd.R_drew)); exact Kd.R_mono (rF 5 (rF 4 (rF 3 (rF 2 (rF 1 (rF 0 (Kd.R_types HO_409005.out BK397.out (Z101)))))))) (fun _ hk => trivial), Z40⟩
end Go.Proofs.YtifkmkiljpeaaacGreat.PFnExactWorldOK
