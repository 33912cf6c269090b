/- Contracts of functions that a statement reaches (wip/x/xprint.py, short.py, compact.py). -/
import Derived.Test.YtcmnndnigjkldaaGreatDoorPFnExactFetchTextxA
import Derived.Test.YtcmnndnigjkldaaGreatDoorPFnExactFetchTextxB
namespace Go.Proofs.YtcmnndnigjkldaaGreatDoor.PFnExactFetchText
open Go.RowKit Go.Proofs.YtcmnndnigjkldaaGreatDoorW.PrintWords Go.Proofs.YtcmnndnigjkldaaGreatDoorW.PrintLast Go.Proofs.YtcmnndnigjkldaaGreatDoorW.PrintMore Go.Proofs.YtcmnndnigjkldaaGreatDoor.Mac
attribute [local go_sem] max2_int min2_int max_two min_two max_three min_three max_four min_four
set_option linter.unusedVariables false
set_option linter.unusedSimpArgs false

/-! ### spec_l13Fetch: function 12 -/
mutual
def spec_l13Fetch.l0 : Nat → Int → List ByteArray → Bool → List ByteArray → Bool → Bool → Int → Int → Int → ByteArray → Option (ByteArray × Bool × Bool)
 | 0, _, _, _, _, _, _, _, _, _, _ => none
 | k + 1, x1, x2, x3, x11, x12, x13, x14, x162000, x162001, x162002 => if x14 < (x2.length : Int) then (if 0 ≤ x14 then ((spec_l11Upper.f (rdOf ByteArray.empty x2 x14)).bind fun t166 => (if t166.toList = ([70, 76, 65, 71, 83] : List UInt8) then ((spec_l11Flags.f k x162001).bind fun t167 => (if 6 + t167.size ≤ 9223372036854775807 then (if x11.length < 8796093022208 then (spec_l13Fetch.l0 k x1 x2 x3 (x11 ++ [(⟨#[70, 76, 65, 71, 83, 32]⟩ : ByteArray) ++ t167]) x12 x13 (wrap64 (x14 + 1)) x162000 x162001 x162002) else (none)) else (none))) else (if t166.toList = ([85, 73, 68] : List UInt8) then ((spec_l00Digits.f k x162000).bind fun t171 => (if 4 + t171.size ≤ 9223372036854775807 then (if x11.length < 8796093022208 then (spec_l13Fetch.l0 k x1 x2 x3 (x11 ++ [(⟨#[85, 73, 68, 32]⟩ : ByteArray) ++ t171]) x12 true (wrap64 (x14 + 1)) x162000 x162001 x162002) else (none)) else (none))) else (if t166.toList = ([82, 70, 67, 56, 50, 50, 46, 83, 73, 90, 69] : List UInt8) then ((spec_l00Digits.f k (x162002.size : Int)).bind fun t175 => (if 12 + t175.size ≤ 9223372036854775807 then (if x11.length < 8796093022208 then (spec_l13Fetch.l0 k x1 x2 x3 (x11 ++ [(⟨#[82, 70, 67, 56, 50, 50, 46, 83, 73, 90, 69, 32]⟩ : ByteArray) ++ t175]) x12 x13 (wrap64 (x14 + 1)) x162000 x162001 x162002) else (none)) else (none))) else (if (t166.size : Int) > 10 then (if 0 ≤ 10 then (if 10 ≤ (t166.size : Int) then (spec_l13Fetch.j1 k x1 x2 x3 x11 x12 x13 x14 t166 (⟨#[66, 79, 68, 89, 91]⟩ : ByteArray) ((t166.extract 0 10).toList == ([66, 79, 68, 89, 46, 80, 69, 69, 75, 91] : List UInt8)) x162000 x162001 x162002) else (none)) else (none)) else (spec_l13Fetch.j1 k x1 x2 x3 x11 x12 x13 x14 t166 (⟨#[66, 79, 68, 89, 91]⟩ : ByteArray) false x162000 x162001 x162002)))))) else (none)) else (if x3 = true then (spec_l13Fetch.j4 k x1 x11 x12 (!x13) x162000 x162001 x162002) else (spec_l13Fetch.j4 k x1 x11 x12 false x162000 x162001 x162002))
def spec_l13Fetch.j1 : Nat → Int → List ByteArray → Bool → List ByteArray → Bool → Bool → Int → ByteArray → ByteArray → Bool → Int → Int → ByteArray → Option (ByteArray × Bool × Bool)
 | 0, _, _, _, _, _, _, _, _, _, _, _, _, _ => none
 | k + 1, x1, x2, x3, x11, x12, x13, x14, x15, x16, x39, x162000, x162001, x162002 => if x39 = true then (spec_l13Fetch.j2 k x1 x2 x3 x11 x12 x13 x14 x15 (⟨#[66, 79, 68, 89, 46, 80, 69, 69, 75, 91]⟩ : ByteArray) x162000 x162001 x162002) else (spec_l13Fetch.j2 k x1 x2 x3 x11 x12 x13 x14 x15 x16 x162000 x162001 x162002)
def spec_l13Fetch.j2 : Nat → Int → List ByteArray → Bool → List ByteArray → Bool → Bool → Int → ByteArray → ByteArray → Int → Int → ByteArray → Option (ByteArray × Bool × Bool)
 | 0, _, _, _, _, _, _, _, _, _, _, _, _ => none
 | k + 1, x1, x2, x3, x11, x12, x13, x14, x15, x16, x162000, x162001, x162002 => if (x15.size : Int) ≤ (x16.size : Int) then (spec_l13Fetch.j3 k x1 x2 x3 x11 x12 x13 x14 x15 x16 true x162000 x162001 x162002) else (if 0 ≤ (x16.size : Int) then (if (x16.size : Int) ≤ (x15.size : Int) then (if (x15.extract 0 ((x16.size : Int) : Int).toNat).toList = x16.toList then (if 0 ≤ (wrap64 ((x15.size : Int) - 1)) then (if (wrap64 ((x15.size : Int) - 1)) < (x15.size : Int) then (spec_l13Fetch.j3 k x1 x2 x3 x11 x12 x13 x14 x15 x16 ((bt x15 (wrap64 ((x15.size : Int) - 1))) != 93) x162000 x162001 x162002) else (none)) else (none)) else (spec_l13Fetch.j3 k x1 x2 x3 x11 x12 x13 x14 x15 x16 true x162000 x162001 x162002)) else (none)) else (none))
def spec_l13Fetch.j3 : Nat → Int → List ByteArray → Bool → List ByteArray → Bool → Bool → Int → ByteArray → ByteArray → Bool → Int → Int → ByteArray → Option (ByteArray × Bool × Bool)
 | 0, _, _, _, _, _, _, _, _, _, _, _, _, _ => none
 | k + 1, x1, x2, x3, x11, x12, x13, x14, x15, x16, x60, x162000, x162001, x162002 => if x60 = true then (some ((⟨#[]⟩ : ByteArray), false, false)) else (if 0 ≤ (x16.size : Int) then (if (x16.size : Int) ≤ (wrap64 ((x15.size : Int) - 1)) then (if (wrap64 ((x15.size : Int) - 1)) ≤ (x15.size : Int) then ((spec_l07Part.f k x162002 (x15.extract ((x16.size : Int) : Int).toNat ((wrap64 ((x15.size : Int) - 1)) : Int).toNat)).bind fun bt179 => (if bt179.2 = true then (if x12 = true then (if 5 + (x15.extract ((x16.size : Int) : Int).toNat ((wrap64 ((x15.size : Int) - 1)) : Int).toNat).size ≤ 9223372036854775807 then (if ((⟨#[66, 79, 68, 89, 91]⟩ : ByteArray) ++ (x15.extract ((x16.size : Int) : Int).toNat ((wrap64 ((x15.size : Int) - 1)) : Int).toNat)).size + 3 ≤ 9223372036854775807 then ((spec_l00Digits.f k (bt179.1.size : Int)).bind fun t181 => (if (((⟨#[66, 79, 68, 89, 91]⟩ : ByteArray) ++ (x15.extract ((x16.size : Int) : Int).toNat ((wrap64 ((x15.size : Int) - 1)) : Int).toNat)) ++ (⟨#[93, 32, 123]⟩ : ByteArray)).size + t181.size ≤ 9223372036854775807 then (if ((((⟨#[66, 79, 68, 89, 91]⟩ : ByteArray) ++ (x15.extract ((x16.size : Int) : Int).toNat ((wrap64 ((x15.size : Int) - 1)) : Int).toNat)) ++ (⟨#[93, 32, 123]⟩ : ByteArray)) ++ t181).size + 3 ≤ 9223372036854775807 then (if (((((⟨#[66, 79, 68, 89, 91]⟩ : ByteArray) ++ (x15.extract ((x16.size : Int) : Int).toNat ((wrap64 ((x15.size : Int) - 1)) : Int).toNat)) ++ (⟨#[93, 32, 123]⟩ : ByteArray)) ++ t181) ++ (⟨#[125, 13, 10]⟩ : ByteArray)).size + bt179.1.size ≤ 9223372036854775807 then (if x11.length < 8796093022208 then (spec_l13Fetch.l0 k x1 x2 x3 (x11 ++ [(((((⟨#[66, 79, 68, 89, 91]⟩ : ByteArray) ++ (x15.extract ((x16.size : Int) : Int).toNat ((wrap64 ((x15.size : Int) - 1)) : Int).toNat)) ++ (⟨#[93, 32, 123]⟩ : ByteArray)) ++ t181) ++ (⟨#[125, 13, 10]⟩ : ByteArray)) ++ bt179.1]) true x13 (wrap64 (x14 + 1)) x162000 x162001 x162002) else (none)) else (none)) else (none)) else (none))) else (none)) else (none)) else (if 5 + (x15.extract ((x16.size : Int) : Int).toNat ((wrap64 ((x15.size : Int) - 1)) : Int).toNat).size ≤ 9223372036854775807 then (if ((⟨#[66, 79, 68, 89, 91]⟩ : ByteArray) ++ (x15.extract ((x16.size : Int) : Int).toNat ((wrap64 ((x15.size : Int) - 1)) : Int).toNat)).size + 3 ≤ 9223372036854775807 then ((spec_l00Digits.f k (bt179.1.size : Int)).bind fun t185 => (if (((⟨#[66, 79, 68, 89, 91]⟩ : ByteArray) ++ (x15.extract ((x16.size : Int) : Int).toNat ((wrap64 ((x15.size : Int) - 1)) : Int).toNat)) ++ (⟨#[93, 32, 123]⟩ : ByteArray)).size + t185.size ≤ 9223372036854775807 then (if ((((⟨#[66, 79, 68, 89, 91]⟩ : ByteArray) ++ (x15.extract ((x16.size : Int) : Int).toNat ((wrap64 ((x15.size : Int) - 1)) : Int).toNat)) ++ (⟨#[93, 32, 123]⟩ : ByteArray)) ++ t185).size + 3 ≤ 9223372036854775807 then (if (((((⟨#[66, 79, 68, 89, 91]⟩ : ByteArray) ++ (x15.extract ((x16.size : Int) : Int).toNat ((wrap64 ((x15.size : Int) - 1)) : Int).toNat)) ++ (⟨#[93, 32, 123]⟩ : ByteArray)) ++ t185) ++ (⟨#[125, 13, 10]⟩ : ByteArray)).size + bt179.1.size ≤ 9223372036854775807 then (if x11.length < 8796093022208 then (spec_l13Fetch.l0 k x1 x2 x3 (x11 ++ [(((((⟨#[66, 79, 68, 89, 91]⟩ : ByteArray) ++ (x15.extract ((x16.size : Int) : Int).toNat ((wrap64 ((x15.size : Int) - 1)) : Int).toNat)) ++ (⟨#[93, 32, 123]⟩ : ByteArray)) ++ t185) ++ (⟨#[125, 13, 10]⟩ : ByteArray)) ++ bt179.1]) (x16.toList == ([66, 79, 68, 89, 91] : List UInt8)) x13 (wrap64 (x14 + 1)) x162000 x162001 x162002) else (none)) else (none)) else (none)) else (none))) else (none)) else (none))) else (some ((⟨#[]⟩ : ByteArray), false, false)))) else (none)) else (none)) else (none))
def spec_l13Fetch.j4 : Nat → Int → List ByteArray → Bool → Bool → Int → Int → ByteArray → Option (ByteArray × Bool × Bool)
 | 0, _, _, _, _, _, _, _ => none
 | k + 1, x1, x11, x12, x130, x162000, x162001, x162002 => if x130 = true then ((spec_l00Digits.f k x162000).bind fun t189 => (if 4 + t189.size ≤ 9223372036854775807 then ((some (([(⟨#[85, 73, 68, 32]⟩ : ByteArray) ++ t189] : List ByteArray) : List ByteArray)).bind fun y190 => (if y190.length + x11.length < 8796093022208 then ((spec_l00Digits.f k x1).bind fun t196 => (if 2 + t196.size ≤ 9223372036854775807 then (if ((⟨#[42, 32]⟩ : ByteArray) ++ t196).size + 8 ≤ 9223372036854775807 then ((spec_l00Join.f k (y190 ++ x11) (⟨#[32]⟩ : ByteArray)).bind fun t197 => (if (((⟨#[42, 32]⟩ : ByteArray) ++ t196) ++ (⟨#[32, 70, 69, 84, 67, 72, 32, 40]⟩ : ByteArray)).size + t197.size ≤ 9223372036854775807 then (if ((((⟨#[42, 32]⟩ : ByteArray) ++ t196) ++ (⟨#[32, 70, 69, 84, 67, 72, 32, 40]⟩ : ByteArray)) ++ t197).size + 3 ≤ 9223372036854775807 then (some (((((⟨#[42, 32]⟩ : ByteArray) ++ t196) ++ (⟨#[32, 70, 69, 84, 67, 72, 32, 40]⟩ : ByteArray)) ++ t197) ++ (⟨#[41, 13, 10]⟩ : ByteArray), x12, true)) else (none)) else (none))) else (none)) else (none))) else (none))) else (none))) else ((spec_l00Digits.f k x1).bind fun t198 => (if 2 + t198.size ≤ 9223372036854775807 then (if ((⟨#[42, 32]⟩ : ByteArray) ++ t198).size + 8 ≤ 9223372036854775807 then ((spec_l00Join.f k x11 (⟨#[32]⟩ : ByteArray)).bind fun t199 => (if (((⟨#[42, 32]⟩ : ByteArray) ++ t198) ++ (⟨#[32, 70, 69, 84, 67, 72, 32, 40]⟩ : ByteArray)).size + t199.size ≤ 9223372036854775807 then (if ((((⟨#[42, 32]⟩ : ByteArray) ++ t198) ++ (⟨#[32, 70, 69, 84, 67, 72, 32, 40]⟩ : ByteArray)) ++ t199).size + 3 ≤ 9223372036854775807 then (some (((((⟨#[42, 32]⟩ : ByteArray) ++ t198) ++ (⟨#[32, 70, 69, 84, 67, 72, 32, 40]⟩ : ByteArray)) ++ t199) ++ (⟨#[41, 13, 10]⟩ : ByteArray), x12, true)) else (none)) else (none))) else (none)) else (none)))
end
def spec_l13Fetch.f (k : Nat) (a0_0 : Int) (a0_1 : Int) (a0_2 : ByteArray) (a1 : Int) (l2 : List ByteArray) (a3 : Bool) : Option (ByteArray × Bool × Bool) := spec_l13Fetch.l0 k a1 l2 a3 (([] : List ByteArray)) false false 0 a0_0 a0_1 a0_2
theorem spec_l13Fetch.mono_l : ∀ k, (∀ y0 y1 y2 y3 y4 y5 y6 y7 y8 y9, LeO (spec_l13Fetch.l0 k y0 y1 y2 y3 y4 y5 y6 y7 y8 y9) (spec_l13Fetch.l0 (k + 1) y0 y1 y2 y3 y4 y5 y6 y7 y8 y9)) ∧ (∀ y0 y1 y2 y3 y4 y5 y6 y7 y8 y9 y10 y11 y12, LeO (spec_l13Fetch.j1 k y0 y1 y2 y3 y4 y5 y6 y7 y8 y9 y10 y11 y12) (spec_l13Fetch.j1 (k + 1) y0 y1 y2 y3 y4 y5 y6 y7 y8 y9 y10 y11 y12)) ∧ (∀ y0 y1 y2 y3 y4 y5 y6 y7 y8 y9 y10 y11, LeO (spec_l13Fetch.j2 k y0 y1 y2 y3 y4 y5 y6 y7 y8 y9 y10 y11) (spec_l13Fetch.j2 (k + 1) y0 y1 y2 y3 y4 y5 y6 y7 y8 y9 y10 y11)) ∧ (∀ y0 y1 y2 y3 y4 y5 y6 y7 y8 y9 y10 y11 y12, LeO (spec_l13Fetch.j3 k y0 y1 y2 y3 y4 y5 y6 y7 y8 y9 y10 y11 y12) (spec_l13Fetch.j3 (k + 1) y0 y1 y2 y3 y4 y5 y6 y7 y8 y9 y10 y11 y12)) ∧ (∀ y0 y1 y2 y3 y4 y5 y6, LeO (spec_l13Fetch.j4 k y0 y1 y2 y3 y4 y5 y6) (spec_l13Fetch.j4 (k + 1) y0 y1 y2 y3 y4 y5 y6))
 | 0 => ⟨fun _ _ _ _ _ _ _ _ _ _ r h => by simp [spec_l13Fetch.l0] at h, fun _ _ _ _ _ _ _ _ _ _ _ _ _ r h => by simp [spec_l13Fetch.j1] at h, fun _ _ _ _ _ _ _ _ _ _ _ _ r h => by simp [spec_l13Fetch.j2] at h, fun _ _ _ _ _ _ _ _ _ _ _ _ _ r h => by simp [spec_l13Fetch.j3] at h, fun _ _ _ _ _ _ _ r h => by simp [spec_l13Fetch.j4] at h⟩
 | k + 1 => by
  obtain ⟨ih0, ih1, ih2, ih3, ih4⟩ := spec_l13Fetch.mono_l k
  refine ⟨?_, ?_, ?_, ?_, ?_⟩
  ·intro y0 y1 y2 y3 y4 y5 y6 y7 y8 y9
   unfold spec_l13Fetch.l0
   have m0 := @spec_l00Digits.mono
   have m1 := @spec_l00Join.mono
   have m2 := @spec_l07Part.mono
   have m3 := @spec_l11Flags.mono
   exact tM
  ·intro y0 y1 y2 y3 y4 y5 y6 y7 y8 y9 y10 y11 y12
   unfold spec_l13Fetch.j1
   have m0 := @spec_l00Digits.mono
   have m1 := @spec_l00Join.mono
   have m2 := @spec_l07Part.mono
   have m3 := @spec_l11Flags.mono
   exact tM
  ·intro y0 y1 y2 y3 y4 y5 y6 y7 y8 y9 y10 y11
   unfold spec_l13Fetch.j2
   have m0 := @spec_l00Digits.mono
   have m1 := @spec_l00Join.mono
   have m2 := @spec_l07Part.mono
   have m3 := @spec_l11Flags.mono
   exact tM
  ·intro y0 y1 y2 y3 y4 y5 y6 y7 y8 y9 y10 y11 y12
   unfold spec_l13Fetch.j3
   have m0 := @spec_l00Digits.mono
   have m1 := @spec_l00Join.mono
   have m2 := @spec_l07Part.mono
   have m3 := @spec_l11Flags.mono
   exact tM
  ·intro y0 y1 y2 y3 y4 y5 y6
   unfold spec_l13Fetch.j4
   have m0 := @spec_l00Digits.mono
   have m1 := @spec_l00Join.mono
   have m2 := @spec_l07Part.mono
   have m3 := @spec_l11Flags.mono
   exact tM
theorem spec_l13Fetch.mono : ∀ a0 a1 a2 a3 a4 a5 k, LeO (spec_l13Fetch.f k a0 a1 a2 a3 a4 a5) (spec_l13Fetch.f (k + 1) a0 a1 a2 a3 a4 a5) := by
 intro a0 a1 a2 a3 a4 a5 k
 obtain ⟨ih0, ih1, ih2, ih3, ih4⟩ := spec_l13Fetch.mono_l k
 unfold spec_l13Fetch.f
 have m0 := @spec_l00Digits.mono
 have m1 := @spec_l00Join.mono
 have m2 := @spec_l07Part.mono
 have m3 := @spec_l11Flags.mono
 exact tM
set_option maxHeartbeats 40000000 in
set_option maxRecDepth 100000 in
theorem spec_l13Fetch.calls (k : Nat) (a0_0 : Int) (a0_1 : Int) (a0_2 : ByteArray) (a1 : Int) (A2 : Option Addr) (c2 : Nat) (l2 : List ByteArray) (a3 : Bool) (r1 : ByteArray) (r2 : Bool) (r3 : Bool) (w : World) (hr2 : Kd.C Kd.string w A2 l2.length l2) (hc2 : l2.length ≤ c2) (h : spec_l13Fetch.f k a0_0 a0_1 a0_2 a1 l2 a3 = some (r1, r2, r3)) :
  Calls Tryz.prog 12 #[.agg #[.int .i64 a0_0, .int .i64 a0_1, .string a0_2], .int .i64 a1, .slice A2 l2.length c2, .bool a3] w fun e w' => e = .returned (.tuple #[.string r1, .bool r2, .bool r3]) ∧ Below w.heap.size w w' := by
 have hu29 := Tryz.underlying29
 have HR2 := Aside0.mk hr2
 have HC2 := Aside0.mk hc2
 clear hr2 hc2
 have HB := Aside0.mk (Below.refl w.heap.size w)
 have H : (spec_l13Fetch.l0 k a1 l2 a3 (([] : List ByteArray)) false false 0 a0_0 a0_1 a0_2) = some (r1, r2, r3) := h
 clear h
 obtain ⟨y162, hy162⟩ : ∃ y_ : List ByteArray, y_ = (([] : List ByteArray)) := ⟨_, rfl⟩
 replace H : (spec_l13Fetch.l0 k a1 l2 a3 y162 false false 0 a0_0 a0_1 a0_2) = some (r1, r2, r3) := by first | (rw [hy162]; with_reducible exact H) | (have H2_ := (Option.bind_some _ _).symm.trans H; rw [hy162]; with_reducible exact H2_) | (have H2_ := (Option.bind_some _ _).symm.trans H; with_reducible exact H2_) | with_reducible exact H | (rw [hy162]; exact H) | exact H
 have Ny162 := Aside0.mk hy162
 clear hy162
 have H' := Aside0.mk H
 clear H
 go_enter Tryz.func12, Tryz.ntmps12
 go_wp2_with (first | ((with_reducible refine gate_dst (N := 4) rfl ?_); (try (refine gate_guard (by rfl) ?_; dsimp only)); refine bxE 4 #[.int .i64 a0_0, .int .i64 a0_1, .string a0_2] 29 ?_; intro gb161 hg w5 hbox hb; have BK161 := Aside0.mk (hbox); have GW161 := Aside0.mk ((szE w hg (Z0))); have GE161 := Aside0.mk ((szE w hg (Z0))); replace HB := Aside0.mk (below_step (Z0) hb); clear hb hbox hg) | ((with_reducible refine gate_dst (N := 20) rfl ?_); (try (refine gate_guard (by rfl) ?_; dsimp only)); refine Kd.R_lit Kd.string _ 9 ?hg (N := 20) ?hd (xs := ([] : List ByteArray)) (inner := []) (ok := fun _ => True) (okp := fun _ => True) ?hr ?hp (fun _ hk => hk) trivial (Below.refl _ _) (Nat.le_refl _) (by simp) ?_; (case hd => rfl); (case hg => rfl); (case hr => first | (go_simp; done) | (go_simp; rfl)); (case hp => exact (Reps.none _ _)); intro v163 w6 ho7 hb hg_ hnew_; clear hg_ hnew_; (first | rw [← Ny162.out] at ho7 | (simp only [Int.reduceToNat] at ho7; rw [← Ny162.out] at ho7)); have HO164 := Aside0.mk (Kd.R_lower ho7 (below_size (Z5))); replace BK161 := Aside0.mk (kB BK161 (Z10) hb); replace HB := Aside0.mk (below_step (Z5) hb); clear hb ho7))
 go_loopg [11, 12, 13, 14] k (fun kq v11 v12 v13 v14 w' => ∃ (x11_1 : List ByteArray) (x12_1 : Bool) (x13_1 : Bool) (x14_1 : Int), v12 = .bool x12_1 ∧ v13 = .bool x13_1 ∧ v14 = .int .i64 x14_1 ∧ Aside0 (spec_l13Fetch.l0 kq a1 l2 a3 x11_1 x12_1 x13_1 x14_1 a0_0 a0_1 a0_2 = some (r1, r2, r3)) ∧ Aside0 (kq ≤ k) ∧ Aside0 (Kd.R Kd.string 9 w' w.heap.size (fun _ => True) v11 x11_1) ∧ Aside0 (w'.heap[gb161]? = some (.cells #[.int .i64 a0_0, .int .i64 a0_1, .string a0_2] 29 (0, 0))) ∧ Aside0 (Below w.heap.size w w'))
 case atStart => exact ⟨(y162), (false), (false), (0), (Z2), (Z2), (Z2), H', ⟨Nat.le_refl _⟩, ⟨by (with_reducible repeat (first | apply Kd.R_alloc | apply Kd.R_drewN | apply Kd.R_drew)); exact HO164.out⟩, ⟨Z10⟩, ⟨Z5⟩⟩
 case round =>
  clear H'
  (try clear c2)
  obtain ⟨x11_1, x12_1, x13_1, x14_1, rfl, rfl, rfl, HA, HK1, HO_11, BK161, HB⟩ := hrel
  cases gk with
  | zero => exact absurd HA.out (by simp [spec_l13Fetch.l0])
  | succ k1 =>
   have H := HA.out
   clear HA
   simp only [spec_l13Fetch.l0] at H
   by_cases c8 : x14_1 < (l2.length : Int)
   ·rw [if_pos c8] at H
    have c8b0 := decide_eq_true c8
    clear c8
    obtain ⟨c9, H⟩ := ifS H
    have c9b0 := decide_eq_true c9
    clear c9
    obtain ⟨t166, A10, H⟩ := bindA H
    try dsimp only at H
    by_cases c11 : t166.toList = ([70, 76, 65, 71, 83] : List UInt8)
    ·rw [if_pos c11] at H
     have c11b0 := beq_iff_eq.mpr c11
     have c11b1 := bne_eq_false_iff_eq.mpr c11
     clear c11
     obtain ⟨t167, A12, H⟩ := bindA H
     try dsimp only at H
     obtain ⟨c13, H⟩ := ifS H
     have c13b0 := eq_true c13
     have c13b1 : decide (6 + t167.size ≤ 9223372036854775807) = true := decide_eq_true c13
     try have c13b2 : (9223372036854775807 < 6 + t167.size) = False := eq_false (Nat.not_lt.2 c13)
     obtain ⟨c14, H⟩ := ifS H
     have LMc14 := Aside0.mk c14
     clear c14
     obtain ⟨y168, hy168⟩ : ∃ y_ : List ByteArray, y_ = (x11_1 ++ [(⟨#[70, 76, 65, 71, 83, 32]⟩ : ByteArray) ++ t167]) := ⟨_, rfl⟩
     replace H : (spec_l13Fetch.l0 k1 a1 l2 a3 y168 x12_1 x13_1 (wrap64 (x14_1 + 1)) a0_0 a0_1 a0_2) = some (r1, r2, r3) := by first | (rw [hy168]; with_reducible exact H) | (have H2_ := (Option.bind_some _ _).symm.trans H; rw [hy168]; with_reducible exact H2_) | (have H2_ := (Option.bind_some _ _).symm.trans H; with_reducible exact H2_) | with_reducible exact H | (rw [hy168]; exact H) | exact H
     have Ny168 := Aside0.mk hy168
     clear hy168
     have H' := Aside0.mk H
     clear H
     have p165 : 0 ≤ (x14_1 : Int) := of_decide_eq_true (Z4)
     have q165 : x14_1 < (l2.length : Int) := of_decide_eq_true (Z4)
     obtain ⟨ad165, e165, hx165_0⟩ := Kd.at_string HR2.out x14_1 p165 q165
     cases e165
     replace hx165_0 := cB HB.out hx165_0
     replace p165 := eq_true p165
     replace q165 := eq_true q165
     go_wp2_with (first | ((with_reducible refine gate_callee (f := 17) rfl ?_); refine goesL_ (some 31) rfl rfl Tryz.func17 (Z20) rfl #[.string (rdOf ByteArray.empty l2 x14_1)] rfl (Z1) ?_; (with_reducible refine (spec_l11Upper.calls (rdOf ByteArray.empty l2 x14_1) t166 _ A10.out).mono ?_); rintro e w15 ⟨rfl, hb⟩; refine ⟨_, rfl, ?_⟩; replace HO_11 := Aside0.mk (Kd.R_below (Z17) hb); replace BK161 := Aside0.mk (kB BK161 (Z10) hb); replace HB := Aside0.mk (below_step (Z5) hb); (try clear hb); obtain ⟨hcz16_0, hcz16_1, hcz16_2⟩ := bc3 BK161.out; obtain ⟨hfz16_0, hfz16_1, hfz16_2⟩ := bf3 BK161.out) | ((with_reducible refine gate_callee (f := 18) rfl ?_); refine goesL_ (some 101) rfl rfl Tryz.func18 (Z20) rfl #[.int .i64 a0_1] rfl (Z1) ?_; (with_reducible refine (spec_l11Flags.calls k1 a0_1 t167 _ A12.out).mono ?_); rintro e w17 ⟨rfl, hb⟩; refine ⟨_, rfl, ?_⟩; replace HO_11 := Aside0.mk (Kd.R_below (Z17) hb); replace BK161 := Aside0.mk (kB BK161 (Z10) hb); replace HB := Aside0.mk (below_step (Z5) hb); (try clear hb)) | ((with_reducible refine gate_builtin (b := .append) (xs := #[.tmp 98, .tmp 103]) rfl ?_); (try (refine gate_guard (by rfl) ?_; dsimp only)); at_builtin; refine Kd.R_append Kd.string (w0 := w) w.heap.size rfl (.tmp 98) (.tmp 103) 24 9 (.string ⟨#[]⟩) 16 rfl Tryz.underlying24 info9 rfl (Z63) (Z46) u11 x11_1 ((⟨#[70, 76, 65, 71, 83, 32]⟩ : ByteArray) ++ t167) [.string ((⟨#[70, 76, 65, 71, 83, 32]⟩ : ByteArray) ++ t167)] (fun _ => True) (fun _ => False) rfl rfl ?aP (fun _ hk => hk.elim) ?aF ?aO ?aB ?aS ?aL ?_; (case aP => exact rfl); (case aB => exact (Z5)); (case aF => exact (fun _ _ => trivial)); (case aO => exact (Z17)); (case aS => exact (below_size (Z5))); (case aL => have := LMc14.out; omega); intro v169 w18 ho hb hg hat; rw [← Ny168.out] at ho; have n0_ := Aside0.mk (blk_grown (g := gb161) (o := .cells #[.int .i64 a0_0, .int .i64 a0_1, .string a0_2] 29 (0, 0)) (Z10) hg (Kd.R_ne HO_11.out BK161.out (Z63))); have n1_ := Aside0.mk (hb); have n2_ := Aside0.mk (ho); clear BK161; clear HB; clear HO_11; have BK161 := n0_; have HB := n1_; have HO170 := n2_; clear n0_ n1_ n2_; clear ho hb hg hat))
     go_roundg k1
     case measure => have := HK1.out; omega
     case rel => exact ⟨(y168), (x12_1), (x13_1), (wrap64 (x14_1 + 1)), (Z2), (Z2), (Z2), H', ⟨Z59⟩, ⟨by (with_reducible repeat (first | apply Kd.R_alloc | apply Kd.R_drewN | apply Kd.R_drew)); exact HO170.out⟩, ⟨Z10⟩, ⟨Z5⟩⟩
    ·rw [if_neg c11] at H
     have c11b0 := beq_eq_false_iff_ne.mpr c11
     have c11b1 := bne_iff_ne.mpr c11
     by_cases c19 : t166.toList = ([85, 73, 68] : List UInt8)
     ·rw [if_pos c19] at H
      have c19b0 := beq_iff_eq.mpr c19
      have c19b1 := bne_eq_false_iff_eq.mpr c19
      clear c19
      obtain ⟨t171, A20, H⟩ := bindA H
      try dsimp only at H
      obtain ⟨c21, H⟩ := ifS H
      have c21b0 := eq_true c21
      have c21b1 : decide (4 + t171.size ≤ 9223372036854775807) = true := decide_eq_true c21
      try have c21b2 : (9223372036854775807 < 4 + t171.size) = False := eq_false (Nat.not_lt.2 c21)
      obtain ⟨c22, H⟩ := ifS H
      have LMc22 := Aside0.mk c22
      clear c22
      obtain ⟨y172, hy172⟩ : ∃ y_ : List ByteArray, y_ = (x11_1 ++ [(⟨#[85, 73, 68, 32]⟩ : ByteArray) ++ t171]) := ⟨_, rfl⟩
      replace H : (spec_l13Fetch.l0 k1 a1 l2 a3 y172 x12_1 true (wrap64 (x14_1 + 1)) a0_0 a0_1 a0_2) = some (r1, r2, r3) := by first | (rw [hy172]; with_reducible exact H) | (have H2_ := (Option.bind_some _ _).symm.trans H; rw [hy172]; with_reducible exact H2_) | (have H2_ := (Option.bind_some _ _).symm.trans H; with_reducible exact H2_) | with_reducible exact H | (rw [hy172]; exact H) | exact H
      have Ny172 := Aside0.mk hy172
      clear hy172
      have H' := Aside0.mk H
      clear H
      have p165 : 0 ≤ (x14_1 : Int) := of_decide_eq_true (Z4)
      have q165 : x14_1 < (l2.length : Int) := of_decide_eq_true (Z4)
      obtain ⟨ad165, e165, hx165_0⟩ := Kd.at_string HR2.out x14_1 p165 q165
      cases e165
      replace hx165_0 := cB HB.out hx165_0
      replace p165 := eq_true p165
      replace q165 := eq_true q165
      go_wp2_with (first | ((with_reducible refine gate_callee (f := 17) rfl ?_); refine goesL_ (some 31) rfl rfl Tryz.func17 (Z20) rfl #[.string (rdOf ByteArray.empty l2 x14_1)] rfl (Z1) ?_; (with_reducible refine (spec_l11Upper.calls (rdOf ByteArray.empty l2 x14_1) t166 _ A10.out).mono ?_); rintro e w23 ⟨rfl, hb⟩; refine ⟨_, rfl, ?_⟩; replace HO_11 := Aside0.mk (Kd.R_below (Z17) hb); replace BK161 := Aside0.mk (kB BK161 (Z10) hb); replace HB := Aside0.mk (below_step (Z5) hb); (try clear hb); obtain ⟨hcz24_0, hcz24_1, hcz24_2⟩ := bc3 BK161.out; obtain ⟨hfz24_0, hfz24_1, hfz24_2⟩ := bf3 BK161.out) | ((with_reducible refine gate_callee (f := 19) rfl ?_); refine goesL_ (some 111) rfl rfl Tryz.func19 (Z20) rfl #[.int .i64 a0_0] rfl (Z1) ?_; (with_reducible refine (spec_l00Digits.calls k1 a0_0 t171 _ A20.out).mono ?_); rintro e w25 ⟨rfl, hb⟩; refine ⟨_, rfl, ?_⟩; replace HO_11 := Aside0.mk (Kd.R_below (Z17) hb); replace BK161 := Aside0.mk (kB BK161 (Z10) hb); replace HB := Aside0.mk (below_step (Z5) hb); (try clear hb)) | ((with_reducible refine gate_builtin (b := .append) (xs := #[.tmp 108, .tmp 113]) rfl ?_); (try (refine gate_guard (by rfl) ?_; dsimp only)); at_builtin; refine Kd.R_append Kd.string (w0 := w) w.heap.size rfl (.tmp 108) (.tmp 113) 24 9 (.string ⟨#[]⟩) 16 rfl Tryz.underlying24 info9 rfl (Z63) (Z46) u11 x11_1 ((⟨#[85, 73, 68, 32]⟩ : ByteArray) ++ t171) [.string ((⟨#[85, 73, 68, 32]⟩ : ByteArray) ++ t171)] (fun _ => True) (fun _ => False) rfl rfl ?aP (fun _ hk => hk.elim) ?aF ?aO ?aB ?aS ?aL ?_; (case aP => exact rfl); (case aB => exact (Z5)); (case aF => exact (fun _ _ => trivial)); (case aO => exact (Z17)); (case aS => exact (below_size (Z5))); (case aL => have := LMc22.out; omega); intro v173 w26 ho hb hg hat; rw [← Ny172.out] at ho; have n0_ := Aside0.mk (blk_grown (g := gb161) (o := .cells #[.int .i64 a0_0, .int .i64 a0_1, .string a0_2] 29 (0, 0)) (Z10) hg (Kd.R_ne HO_11.out BK161.out (Z63))); have n1_ := Aside0.mk (hb); have n2_ := Aside0.mk (ho); clear BK161; clear HB; clear HO_11; have BK161 := n0_; have HB := n1_; have HO174 := n2_; clear n0_ n1_ n2_; clear ho hb hg hat))
      go_roundg k1
      case measure => have := HK1.out; omega
      case rel => exact ⟨(y172), (x12_1), (true), (wrap64 (x14_1 + 1)), (Z2), (Z2), (Z2), H', ⟨Z59⟩, ⟨by (with_reducible repeat (first | apply Kd.R_alloc | apply Kd.R_drewN | apply Kd.R_drew)); exact HO174.out⟩, ⟨Z10⟩, ⟨Z5⟩⟩
     ·rw [if_neg c19] at H
      have c19b0 := beq_eq_false_iff_ne.mpr c19
      have c19b1 := bne_iff_ne.mpr c19
      by_cases c27 : t166.toList = ([82, 70, 67, 56, 50, 50, 46, 83, 73, 90, 69] : List UInt8)
      ·rw [if_pos c27] at H
       have c27b0 := beq_iff_eq.mpr c27
       have c27b1 := bne_eq_false_iff_eq.mpr c27
       clear c27
       obtain ⟨t175, A28, H⟩ := bindA H
       try dsimp only at H
       obtain ⟨c29, H⟩ := ifS H
       have c29b0 := eq_true c29
       have c29b1 : decide (12 + t175.size ≤ 9223372036854775807) = true := decide_eq_true c29
       try have c29b2 : (9223372036854775807 < 12 + t175.size) = False := eq_false (Nat.not_lt.2 c29)
       obtain ⟨c30, H⟩ := ifS H
       have LMc30 := Aside0.mk c30
       clear c30
       obtain ⟨y176, hy176⟩ : ∃ y_ : List ByteArray, y_ = (x11_1 ++ [(⟨#[82, 70, 67, 56, 50, 50, 46, 83, 73, 90, 69, 32]⟩ : ByteArray) ++ t175]) := ⟨_, rfl⟩
       replace H : (spec_l13Fetch.l0 k1 a1 l2 a3 y176 x12_1 x13_1 (wrap64 (x14_1 + 1)) a0_0 a0_1 a0_2) = some (r1, r2, r3) := by first | (rw [hy176]; with_reducible exact H) | (have H2_ := (Option.bind_some _ _).symm.trans H; rw [hy176]; with_reducible exact H2_) | (have H2_ := (Option.bind_some _ _).symm.trans H; with_reducible exact H2_) | with_reducible exact H | (rw [hy176]; exact H) | exact H
       have Ny176 := Aside0.mk hy176
       clear hy176
       have H' := Aside0.mk H
       clear H
       have p165 : 0 ≤ (x14_1 : Int) := of_decide_eq_true (Z4)
       have q165 : x14_1 < (l2.length : Int) := of_decide_eq_true (Z4)
       obtain ⟨ad165, e165, hx165_0⟩ := Kd.at_string HR2.out x14_1 p165 q165
       cases e165
       replace hx165_0 := cB HB.out hx165_0
       replace p165 := eq_true p165
       replace q165 := eq_true q165
       go_wp2_with (first | ((with_reducible refine gate_callee (f := 17) rfl ?_); refine goesL_ (some 31) rfl rfl Tryz.func17 (Z20) rfl #[.string (rdOf ByteArray.empty l2 x14_1)] rfl (Z1) ?_; (with_reducible refine (spec_l11Upper.calls (rdOf ByteArray.empty l2 x14_1) t166 _ A10.out).mono ?_); rintro e w31 ⟨rfl, hb⟩; refine ⟨_, rfl, ?_⟩; replace HO_11 := Aside0.mk (Kd.R_below (Z17) hb); replace BK161 := Aside0.mk (kB BK161 (Z10) hb); replace HB := Aside0.mk (below_step (Z5) hb); (try clear hb); obtain ⟨hcz32_0, hcz32_1, hcz32_2⟩ := bc3 BK161.out; obtain ⟨hfz32_0, hfz32_1, hfz32_2⟩ := bf3 BK161.out) | ((with_reducible refine gate_callee (f := 19) rfl ?_); refine goesL_ (some 122) rfl rfl Tryz.func19 (Z20) rfl #[.int .i64 (a0_2.size : Int)] rfl (Z1) ?_; (with_reducible refine (spec_l00Digits.calls k1 (a0_2.size : Int) t175 _ A28.out).mono ?_); rintro e w33 ⟨rfl, hb⟩; refine ⟨_, rfl, ?_⟩; replace HO_11 := Aside0.mk (Kd.R_below (Z17) hb); replace BK161 := Aside0.mk (kB BK161 (Z10) hb); replace HB := Aside0.mk (below_step (Z5) hb); (try clear hb)) | ((with_reducible refine gate_builtin (b := .append) (xs := #[.tmp 118, .tmp 124]) rfl ?_); (try (refine gate_guard (by rfl) ?_; dsimp only)); at_builtin; refine Kd.R_append Kd.string (w0 := w) w.heap.size rfl (.tmp 118) (.tmp 124) 24 9 (.string ⟨#[]⟩) 16 rfl Tryz.underlying24 info9 rfl (Z63) (Z46) u11 x11_1 ((⟨#[82, 70, 67, 56, 50, 50, 46, 83, 73, 90, 69, 32]⟩ : ByteArray) ++ t175) [.string ((⟨#[82, 70, 67, 56, 50, 50, 46, 83, 73, 90, 69, 32]⟩ : ByteArray) ++ t175)] (fun _ => True) (fun _ => False) rfl rfl ?aP (fun _ hk => hk.elim) ?aF ?aO ?aB ?aS ?aL ?_; (case aP => exact rfl); (case aB => exact (Z5)); (case aF => exact (fun _ _ => trivial)); (case aO => exact (Z17)); (case aS => exact (below_size (Z5))); (case aL => have := LMc30.out; omega); intro v177 w34 ho hb hg hat; rw [← Ny176.out] at ho; have n0_ := Aside0.mk (blk_grown (g := gb161) (o := .cells #[.int .i64 a0_0, .int .i64 a0_1, .string a0_2] 29 (0, 0)) (Z10) hg (Kd.R_ne HO_11.out BK161.out (Z63))); have n1_ := Aside0.mk (hb); have n2_ := Aside0.mk (ho); clear BK161; clear HB; clear HO_11; have BK161 := n0_; have HB := n1_; have HO178 := n2_; clear n0_ n1_ n2_; clear ho hb hg hat))
       go_roundg k1
       case measure => have := HK1.out; omega
       case rel => exact ⟨(y176), (x12_1), (x13_1), (wrap64 (x14_1 + 1)), (Z2), (Z2), (Z2), H', ⟨Z59⟩, ⟨by (with_reducible repeat (first | apply Kd.R_alloc | apply Kd.R_drewN | apply Kd.R_drew)); exact HO178.out⟩, ⟨Z10⟩, ⟨Z5⟩⟩
      ·rw [if_neg c27] at H
       have c27b0 := beq_eq_false_iff_ne.mpr c27
       have c27b1 := bne_iff_ne.mpr c27
       have HC35 := Aside0.mk H
       clear H
       have p165 : 0 ≤ (x14_1 : Int) := of_decide_eq_true (Z4)
       have q165 : x14_1 < (l2.length : Int) := of_decide_eq_true (Z4)
       obtain ⟨ad165, e165, hx165_0⟩ := Kd.at_string HR2.out x14_1 p165 q165
       cases e165
       replace hx165_0 := cB HB.out hx165_0
       replace p165 := eq_true p165
       replace q165 := eq_true q165
       go_upto_region 9 with (first | ((with_reducible refine gate_callee (f := 17) rfl ?_); refine goesL_ (some 31) rfl rfl Tryz.func17 (Z20) rfl #[.string (rdOf ByteArray.empty l2 x14_1)] rfl (Z1) ?_; (with_reducible refine (spec_l11Upper.calls (rdOf ByteArray.empty l2 x14_1) t166 _ A10.out).mono ?_); rintro e w36 ⟨rfl, hb⟩; refine ⟨_, rfl, ?_⟩; replace HO_11 := Aside0.mk (Kd.R_below (Z17) hb); replace BK161 := Aside0.mk (kB BK161 (Z10) hb); replace HB := Aside0.mk (below_step (Z5) hb); (try clear hb)))
       (try simp only [Act.put, List.setIfInBounds_toArray, List.set_cons_zero, List.set_cons_succ])
       go_cut [39] (fun v39 wc => ∃ (kq : Nat) (x39_34 : Bool), v39 = .bool x39_34 ∧ Aside0 (spec_l13Fetch.j1 kq a1 l2 a3 x11_1 x12_1 x13_1 x14_1 t166 (⟨#[66, 79, 68, 89, 91]⟩ : ByteArray) x39_34 a0_0 a0_1 a0_2 = some (r1, r2, r3)) ∧ Aside0 (kq ≤ k1) ∧ Aside0 (Kd.R Kd.string 9 wc w.heap.size (fun _ => True) u11 x11_1) ∧ Aside0 (wc.heap[gb161]? = some (.cells #[.int .i64 a0_0, .int .i64 a0_1, .string a0_2] 29 (0, 0))) ∧ Aside0 (Below w.heap.size w wc))
       case first =>
        have H := HC35.out
        clear HC35
        by_cases c37 : (t166.size : Int) > 10
        ·rw [if_pos c37] at H
         have c37b0 : decide (10 < (t166.size : Int)) = true := decide_eq_true c37
         have c37b1 : decide (10 < t166.size) = true := decide_eq_true (Z46)
         clear c37
         (first | rw [c37b0] | rw [c37b1] | (simp only [i64_w, i32_w]; rw [c37b0]) | skip)
         obtain ⟨c38, H⟩ := ifS H
         have c38b0 := eq_true c38
         have c38b1 : decide (0 ≤ 10) = true := decide_eq_true c38
         clear c38
         obtain ⟨c39, H⟩ := ifS H
         have c39b0 := eq_true c39
         have c39b1 : decide (10 ≤ (t166.size : Int)) = true := decide_eq_true c39
         clear c39
         have H' := Aside0.mk H
         clear H
         go_wp2
         go_meet
         case rel => exact ⟨_, (((t166.extract 0 10).toList == ([66, 79, 68, 89, 46, 80, 69, 69, 75, 91] : List UInt8))), (Z2), H', ⟨Z47⟩, ⟨Z17⟩, ⟨Z10⟩, ⟨Z5⟩⟩
        ·rw [if_neg c37] at H
         have c37b0 : decide (10 < (t166.size : Int)) = false := decide_eq_false c37
         have c37b1 : decide (10 < t166.size) = false := decide_eq_false (Z46)
         clear c37
         (first | rw [c37b0] | rw [c37b1] | (simp only [i64_w, i32_w]; rw [c37b0]) | skip)
         have H' := Aside0.mk H
         clear H
         go_wp2
         go_meet
         case rel => exact ⟨_, (false), (Z2), H', ⟨Z47⟩, ⟨Z17⟩, ⟨Z10⟩, ⟨Z5⟩⟩
       case rest =>
        clear HC35
        (try clear c2); (try clear c8); (try clear c8b0); (try clear c9); (try clear c9b0); (try clear c11); (try clear c11b0); (try clear c11b1); (try clear c19); (try clear c19b0); (try clear c19b1); (try clear c27); (try clear c27b0); (try clear c27b1); (try clear hx165_0); (try clear p165); (try clear q165)
        obtain ⟨kq, x39_34, rfl, HA, HJ34, HO_11, BK161, HB⟩ := hcut
        cases kq with
        | zero => exact absurd HA.out (by simp [spec_l13Fetch.j1])
        | succ kj34 =>
         have H := HA.out
         clear HA
         simp only [spec_l13Fetch.j1] at H
         have HC40 := Aside0.mk H
         clear H
         go_upto_if 39 with (fail)
         go_cut [16] (fun v16 wc => ∃ (kq : Nat) (x16_39 : ByteArray), v16 = .string x16_39 ∧ Aside0 (spec_l13Fetch.j2 kq a1 l2 a3 x11_1 x12_1 x13_1 x14_1 t166 x16_39 a0_0 a0_1 a0_2 = some (r1, r2, r3)) ∧ Aside0 (kq ≤ kj34) ∧ Aside0 (Kd.R Kd.string 9 wc w.heap.size (fun _ => True) u11 x11_1) ∧ Aside0 (wc.heap[gb161]? = some (.cells #[.int .i64 a0_0, .int .i64 a0_1, .string a0_2] 29 (0, 0))) ∧ Aside0 (Below w.heap.size w wc))
         case first =>
          have H := HC40.out
          clear HC40
          by_cases c41 : x39_34 = true
          ·subst c41
           replace H := ifT H
           have H' := Aside0.mk H
           clear H
           go_wp2
           go_meet
           case rel => exact ⟨_, ((⟨#[66, 79, 68, 89, 46, 80, 69, 69, 75, 91]⟩ : ByteArray)), (Z2), H', ⟨by have := HK1.out; have := HJ34.out; first | omega | exact Nat.le_refl _⟩, ⟨Z17⟩, ⟨Z10⟩, ⟨Z5⟩⟩
          ·replace c41 := Bool.eq_false_iff.mpr c41
           subst c41
           replace H := ifF H
           have H' := Aside0.mk H
           clear H
           go_wp2
           go_meet
           case rel => exact ⟨_, ((⟨#[66, 79, 68, 89, 91]⟩ : ByteArray)), (Z2), H', ⟨by have := HK1.out; have := HJ34.out; first | omega | exact Nat.le_refl _⟩, ⟨Z17⟩, ⟨Z10⟩, ⟨Z5⟩⟩
         case rest =>
          clear HC40
          (try clear c2); (try clear c8); (try clear c8b0); (try clear c9); (try clear c9b0); (try clear c11); (try clear c11b0); (try clear c11b1); (try clear c19); (try clear c19b0); (try clear c19b1); (try clear c27); (try clear c27b0); (try clear c27b1); (try clear hx165_0); (try clear p165); (try clear q165)
          obtain ⟨kq, x16_39, rfl, HA, HJ39, HO_11, BK161, HB⟩ := hcut
          cases kq with
          | zero => exact absurd HA.out (by simp [spec_l13Fetch.j2])
          | succ kj39 =>
           have H := HA.out
           clear HA
           simp only [spec_l13Fetch.j2] at H
           have HC42 := Aside0.mk H
           clear H
           go_upto_region 11 with (fail)
           go_cut [60] (fun v60 wc => ∃ (kq : Nat) (x60_41 : Bool), v60 = .bool x60_41 ∧ Aside0 (spec_l13Fetch.j3 kq a1 l2 a3 x11_1 x12_1 x13_1 x14_1 t166 x16_39 x60_41 a0_0 a0_1 a0_2 = some (r1, r2, r3)) ∧ Aside0 (kq ≤ kj39) ∧ Aside0 (Kd.R Kd.string 9 wc w.heap.size (fun _ => True) u11 x11_1) ∧ Aside0 (wc.heap[gb161]? = some (.cells #[.int .i64 a0_0, .int .i64 a0_1, .string a0_2] 29 (0, 0))) ∧ Aside0 (Below w.heap.size w wc))
           case first =>
            have H := HC42.out
            clear HC42
            by_cases c43 : (t166.size : Int) ≤ (x16_39.size : Int)
            ·rw [if_pos c43] at H
             have c43b0 := decide_eq_true c43
             have c43b1 : decide (t166.size ≤ x16_39.size) = true := decide_eq_true (Int.ofNat_le.mp c43)
             clear c43
             (first | rw [c43b0] | rw [c43b1] | (simp only [i64_w, i32_w]; rw [c43b0]) | skip)
             have H' := Aside0.mk H
             clear H
             go_wp2
             go_meet
             case rel => exact ⟨_, (true), (Z2), H', ⟨Z72⟩, ⟨Z17⟩, ⟨Z10⟩, ⟨Z5⟩⟩
            ·rw [if_neg c43] at H
             have c43b0 := decide_eq_false c43
             have c43b1 : decide (t166.size ≤ x16_39.size) = false := decide_eq_false (fun h => c43 (Int.ofNat_le.mpr h))
             clear c43
             (first | rw [c43b0] | rw [c43b1] | (simp only [i64_w, i32_w]; rw [c43b0]) | skip)
             obtain ⟨c44, H⟩ := ifS H
             have c44b0 := eq_true c44
             have c44b1 : decide (0 ≤ (x16_39.size : Int)) = true := decide_eq_true c44
             clear c44
             obtain ⟨c45, H⟩ := ifS H
             have c45b0 := eq_true c45
             have c45b1 : decide ((x16_39.size : Int) ≤ (t166.size : Int)) = true := decide_eq_true c45
             clear c45
             by_cases c46 : (t166.extract 0 ((x16_39.size : Int) : Int).toNat).toList = x16_39.toList
             ·rw [if_pos c46] at H
              have c46b0 := beq_iff_eq.mpr c46
              have c46b1 := bne_eq_false_iff_eq.mpr c46
              have c46b6 : ((t166.extract 0 x16_39.size).toList == x16_39.toList) = true := c46b0
              have c46b7 : ((t166.extract 0 x16_39.size).toList != x16_39.toList) = false := c46b1
              have c46b8 := (beq_iff_eq.mp c46b6)
              clear c46
              obtain ⟨ji47, hji47⟩ : ∃ j_ : Int, (wrap64 ((t166.size : Int) - 1)) = j_ := ⟨_, rfl⟩
              replace H : (if 0 ≤ (ji47) then (if (ji47) < (t166.size : Int) then (spec_l13Fetch.j3 kj39 a1 l2 a3 x11_1 x12_1 x13_1 x14_1 t166 x16_39 ((bt t166 (ji47)) != 93) a0_0 a0_1 a0_2) else (none)) else (none)) = some (r1, r2, r3) := by first | (rw [hji47] at H; exact H) | (simp only [hji47] at H ⊢; exact H)
              have hji47w : (IntKind.i64.wrap ((t166.size : Int) - 1)) = ji47 := (i64_w _).trans hji47
              obtain ⟨c48, H⟩ := ifS H
              have c48b0 := decide_eq_true c48
              clear c48
              obtain ⟨c49, H⟩ := ifS H
              have c49b0 := decide_eq_true c49
              clear c49
              have H' := Aside0.mk H
              clear H
              have p50 : 0 ≤ ((ji47) : Int) := of_decide_eq_true (Z4)
              have q50 : (ji47) < (t166.size : Int) := of_decide_eq_true (Z4)
              have hx50 := bt_at t166 (ji47)
              replace p50 := eq_true p50
              replace q50 := eq_true q50
              go_wp2
              go_meet
              case rel => exact ⟨_, (((bt t166 (ji47)) != 93)), (by first | rfl | (simp; done) | (simp only [← hji47] <;> (first | rfl | simp)) | (simp [*]; done)), H', ⟨Z72⟩, ⟨Z17⟩, ⟨Z10⟩, ⟨Z5⟩⟩
             ·rw [if_neg c46] at H
              have c46b0 := beq_eq_false_iff_ne.mpr c46
              have c46b1 := bne_iff_ne.mpr c46
              have c46b6 : ((t166.extract 0 x16_39.size).toList == x16_39.toList) = false := c46b0
              have c46b7 : ((t166.extract 0 x16_39.size).toList != x16_39.toList) = true := c46b1
              have c46b8 := (beq_eq_false_iff_ne.mp c46b6)
              have H' := Aside0.mk H
              clear H
              go_wp2
              go_meet
              case rel => exact ⟨_, (true), (Z2), H', ⟨Z72⟩, ⟨Z17⟩, ⟨Z10⟩, ⟨Z5⟩⟩
           case rest =>
            clear HC42
            (try clear c2); (try clear c8); (try clear c8b0); (try clear c9); (try clear c9b0); (try clear c11); (try clear c11b0); (try clear c11b1); (try clear c19); (try clear c19b0); (try clear c19b1); (try clear c27); (try clear c27b0); (try clear c27b1); (try clear hx165_0); (try clear p165); (try clear q165)
            obtain ⟨kq, x60_41, rfl, HA, HJ41, HO_11, BK161, HB⟩ := hcut
            cases kq with
            | zero => exact absurd HA.out (by simp [spec_l13Fetch.j3])
            | succ kj41 =>
             have H := HA.out
             clear HA
             simp only [spec_l13Fetch.j3] at H
             by_cases c51 : x60_41 = true
             ·subst c51
              replace H := ifT H
              simp only [Option.some.injEq, Prod.mk.injEq] at H
              obtain ⟨rfl, rfl, rfl⟩ := H
              go_wp2
              go_ret3
              exact ⟨Z3, Z5⟩
             ·replace c51 := Bool.eq_false_iff.mpr c51
              subst c51
              replace H := ifF H
              obtain ⟨c52, H⟩ := ifS H
              have c52b0 := eq_true c52
              have c52b1 : decide (0 ≤ (x16_39.size : Int)) = true := decide_eq_true c52
              clear c52
              obtain ⟨c53, H⟩ := ifS H
              have c53b0 := eq_true c53
              have c53b1 : decide ((x16_39.size : Int) ≤ (wrap64 ((t166.size : Int) - 1))) = true := decide_eq_true c53
              clear c53
              obtain ⟨c54, H⟩ := ifS H
              have c54b0 := eq_true c54
              have c54b1 : decide ((wrap64 ((t166.size : Int) - 1)) ≤ (t166.size : Int)) = true := decide_eq_true c54
              clear c54
              obtain ⟨z17, hz17⟩ : ∃ z_ : ByteArray, (t166.extract ((x16_39.size : Int) : Int).toNat ((wrap64 ((t166.size : Int) - 1)) : Int).toNat) = z_ := ⟨_, rfl⟩
              rw [hz17] at H
              have hz17w : t166.extract x16_39.size (wrap64 ((t166.size : Int) - 1)).toNat = z17 := hz17
              clear hz17
              obtain ⟨⟨t179, t180⟩, A55, H⟩ := bindA H
              try dsimp only at H
              by_cases c56 : t180 = true
              ·subst c56
               replace H := ifT H
               by_cases c57 : x12_1 = true
               ·subst c57
                replace H := ifT H
                obtain ⟨c58, H⟩ := ifS H
                have c58b0 := eq_true c58
                have c58b1 : decide (5 + z17.size ≤ 9223372036854775807) = true := decide_eq_true c58
                try have c58b2 : (9223372036854775807 < 5 + z17.size) = False := eq_false (Nat.not_lt.2 c58)
                obtain ⟨c59, H⟩ := ifS H
                have c59b0 := eq_true c59
                have c59b1 : decide (((⟨#[66, 79, 68, 89, 91]⟩ : ByteArray) ++ z17).size + 3 ≤ 9223372036854775807) = true := decide_eq_true c59
                try have c59b2 : (9223372036854775807 < ((⟨#[66, 79, 68, 89, 91]⟩ : ByteArray) ++ z17).size + 3) = False := eq_false (Nat.not_lt.2 c59); try (have c59b3 := c59b2; simp only [ByteArray.size_append, show (⟨#[66, 79, 68, 89, 91]⟩ : ByteArray).size = 5 from rfl] at c59b3)
                obtain ⟨t181, A60, H⟩ := bindA H
                try dsimp only at H
                obtain ⟨c61, H⟩ := ifS H
                have c61b0 := eq_true c61
                have c61b1 : decide ((((⟨#[66, 79, 68, 89, 91]⟩ : ByteArray) ++ z17) ++ (⟨#[93, 32, 123]⟩ : ByteArray)).size + t181.size ≤ 9223372036854775807) = true := decide_eq_true c61
                try have c61b2 : (9223372036854775807 < (((⟨#[66, 79, 68, 89, 91]⟩ : ByteArray) ++ z17) ++ (⟨#[93, 32, 123]⟩ : ByteArray)).size + t181.size) = False := eq_false (Nat.not_lt.2 c61); try (have c61b3 := c61b2; simp only [ByteArray.size_append, show (⟨#[66, 79, 68, 89, 91]⟩ : ByteArray).size = 5 from rfl, show (⟨#[93, 32, 123]⟩ : ByteArray).size = 3 from rfl] at c61b3)
                obtain ⟨c62, H⟩ := ifS H
                have c62b0 := eq_true c62
                have c62b1 : decide (((((⟨#[66, 79, 68, 89, 91]⟩ : ByteArray) ++ z17) ++ (⟨#[93, 32, 123]⟩ : ByteArray)) ++ t181).size + 3 ≤ 9223372036854775807) = true := decide_eq_true c62
                try have c62b2 : (9223372036854775807 < ((((⟨#[66, 79, 68, 89, 91]⟩ : ByteArray) ++ z17) ++ (⟨#[93, 32, 123]⟩ : ByteArray)) ++ t181).size + 3) = False := eq_false (Nat.not_lt.2 c62); try (have c62b3 := c62b2; simp only [ByteArray.size_append, show (⟨#[66, 79, 68, 89, 91]⟩ : ByteArray).size = 5 from rfl, show (⟨#[93, 32, 123]⟩ : ByteArray).size = 3 from rfl] at c62b3)
                obtain ⟨c63, H⟩ := ifS H
                have c63b0 := eq_true c63
                have c63b1 : decide ((((((⟨#[66, 79, 68, 89, 91]⟩ : ByteArray) ++ z17) ++ (⟨#[93, 32, 123]⟩ : ByteArray)) ++ t181) ++ (⟨#[125, 13, 10]⟩ : ByteArray)).size + t179.size ≤ 9223372036854775807) = true := decide_eq_true c63
                try have c63b2 : (9223372036854775807 < (((((⟨#[66, 79, 68, 89, 91]⟩ : ByteArray) ++ z17) ++ (⟨#[93, 32, 123]⟩ : ByteArray)) ++ t181) ++ (⟨#[125, 13, 10]⟩ : ByteArray)).size + t179.size) = False := eq_false (Nat.not_lt.2 c63); try (have c63b3 := c63b2; simp only [ByteArray.size_append, show (⟨#[66, 79, 68, 89, 91]⟩ : ByteArray).size = 5 from rfl, show (⟨#[93, 32, 123]⟩ : ByteArray).size = 3 from rfl, show (⟨#[125, 13, 10]⟩ : ByteArray).size = 3 from rfl] at c63b3)
                obtain ⟨c64, H⟩ := ifS H
                have LMc64 := Aside0.mk c64
                clear c64
                obtain ⟨y182, hy182⟩ : ∃ y_ : List ByteArray, y_ = (x11_1 ++ [(((((⟨#[66, 79, 68, 89, 91]⟩ : ByteArray) ++ z17) ++ (⟨#[93, 32, 123]⟩ : ByteArray)) ++ t181) ++ (⟨#[125, 13, 10]⟩ : ByteArray)) ++ t179]) := ⟨_, rfl⟩
                replace H : (spec_l13Fetch.l0 kj41 a1 l2 a3 y182 true x13_1 (wrap64 (x14_1 + 1)) a0_0 a0_1 a0_2) = some (r1, r2, r3) := by first | (rw [hy182]; with_reducible exact H) | (have H2_ := (Option.bind_some _ _).symm.trans H; rw [hy182]; with_reducible exact H2_) | (have H2_ := (Option.bind_some _ _).symm.trans H; with_reducible exact H2_) | with_reducible exact H | (rw [hy182]; exact H) | exact H
                have Ny182 := Aside0.mk hy182
                clear hy182
                have H' := Aside0.mk H
                clear H
                obtain ⟨hcz65_0, hcz65_1, hcz65_2⟩ := bc3 BK161.out
                obtain ⟨hfz65_0, hfz65_1, hfz65_2⟩ := bf3 BK161.out
                go_wp2_with (first | ((with_reducible refine gate_callee (f := 20) rfl ?_); refine goesL_ (some 72) rfl rfl Tryz.func20 (Z20) rfl #[.string a0_2, .string z17] rfl (Z1) ?_; (with_reducible refine (spec_l07Part.calls kj41 a0_2 z17 t179 true _ A55.out).mono ?_); rintro e w66 ⟨rfl, hb⟩; refine ⟨_, rfl, ?_⟩; replace HO_11 := Aside0.mk (Kd.R_below (Z17) hb); replace BK161 := Aside0.mk (kB BK161 (Z10) hb); replace HB := Aside0.mk (below_step (Z5) hb); (try clear hb)) | ((with_reducible refine gate_callee (f := 19) rfl ?_); refine goesL_ (some 88) rfl rfl Tryz.func19 (Z20) rfl #[.int .i64 (t179.size : Int)] rfl (Z1) ?_; (with_reducible refine (spec_l00Digits.calls kj41 (t179.size : Int) t181 _ A60.out).mono ?_); rintro e w67 ⟨rfl, hb⟩; refine ⟨_, rfl, ?_⟩; replace HO_11 := Aside0.mk (Kd.R_below (Z17) hb); replace BK161 := Aside0.mk (kB BK161 (Z10) hb); replace HB := Aside0.mk (below_step (Z5) hb); (try clear hb)) | ((with_reducible refine gate_builtin (b := .append) (xs := #[.tmp 82, .tmp 93]) rfl ?_); (try (refine gate_guard (by rfl) ?_; dsimp only)); at_builtin; refine Kd.R_append Kd.string (w0 := w) w.heap.size rfl (.tmp 82) (.tmp 93) 24 9 (.string ⟨#[]⟩) 16 rfl Tryz.underlying24 info9 rfl (Z63) (Z46) u11 x11_1 ((((((⟨#[66, 79, 68, 89, 91]⟩ : ByteArray) ++ z17) ++ (⟨#[93, 32, 123]⟩ : ByteArray)) ++ t181) ++ (⟨#[125, 13, 10]⟩ : ByteArray)) ++ t179) [.string ((((((⟨#[66, 79, 68, 89, 91]⟩ : ByteArray) ++ z17) ++ (⟨#[93, 32, 123]⟩ : ByteArray)) ++ t181) ++ (⟨#[125, 13, 10]⟩ : ByteArray)) ++ t179)] (fun _ => True) (fun _ => False) rfl rfl ?aP (fun _ hk => hk.elim) ?aF ?aO ?aB ?aS ?aL ?_; (case aP => exact rfl); (case aB => exact (Z5)); (case aF => exact (fun _ _ => trivial)); (case aO => exact (Z17)); (case aS => exact (below_size (Z5))); (case aL => have := LMc64.out; omega); intro v183 w68 ho hb hg hat; rw [← Ny182.out] at ho; have n0_ := Aside0.mk (blk_grown (g := gb161) (o := .cells #[.int .i64 a0_0, .int .i64 a0_1, .string a0_2] 29 (0, 0)) (Z10) hg (Kd.R_ne HO_11.out BK161.out (Z63))); have n1_ := Aside0.mk (hb); have n2_ := Aside0.mk (ho); clear BK161; clear HB; clear HO_11; have BK161 := n0_; have HB := n1_; have HO184 := n2_; clear n0_ n1_ n2_; clear ho hb hg hat))
                go_roundg kj41
                case measure => have := HK1.out; have := HJ34.out; have := HJ39.out; have := HJ41.out; omega
                case rel => exact ⟨(y182), (true), (x13_1), (wrap64 (x14_1 + 1)), (Z2), (Z2), (Z2), H', ⟨by have := HK1.out; have := HJ34.out; have := HJ39.out; have := HJ41.out; omega⟩, ⟨by (with_reducible repeat (first | apply Kd.R_alloc | apply Kd.R_drewN | apply Kd.R_drew)); exact HO184.out⟩, ⟨Z10⟩, ⟨Z5⟩⟩
               ·replace c57 := Bool.eq_false_iff.mpr c57
                subst c57
                replace H := ifF H
                obtain ⟨c69, H⟩ := ifS H
                have c69b0 := eq_true c69
                have c69b1 : decide (5 + z17.size ≤ 9223372036854775807) = true := decide_eq_true c69
                try have c69b2 : (9223372036854775807 < 5 + z17.size) = False := eq_false (Nat.not_lt.2 c69)
                obtain ⟨c70, H⟩ := ifS H
                have c70b0 := eq_true c70
                have c70b1 : decide (((⟨#[66, 79, 68, 89, 91]⟩ : ByteArray) ++ z17).size + 3 ≤ 9223372036854775807) = true := decide_eq_true c70
                try have c70b2 : (9223372036854775807 < ((⟨#[66, 79, 68, 89, 91]⟩ : ByteArray) ++ z17).size + 3) = False := eq_false (Nat.not_lt.2 c70); try (have c70b3 := c70b2; simp only [ByteArray.size_append, show (⟨#[66, 79, 68, 89, 91]⟩ : ByteArray).size = 5 from rfl] at c70b3)
                obtain ⟨t185, A71, H⟩ := bindA H
                try dsimp only at H
                obtain ⟨c72, H⟩ := ifS H
                have c72b0 := eq_true c72
                have c72b1 : decide ((((⟨#[66, 79, 68, 89, 91]⟩ : ByteArray) ++ z17) ++ (⟨#[93, 32, 123]⟩ : ByteArray)).size + t185.size ≤ 9223372036854775807) = true := decide_eq_true c72
                try have c72b2 : (9223372036854775807 < (((⟨#[66, 79, 68, 89, 91]⟩ : ByteArray) ++ z17) ++ (⟨#[93, 32, 123]⟩ : ByteArray)).size + t185.size) = False := eq_false (Nat.not_lt.2 c72); try (have c72b3 := c72b2; simp only [ByteArray.size_append, show (⟨#[66, 79, 68, 89, 91]⟩ : ByteArray).size = 5 from rfl, show (⟨#[93, 32, 123]⟩ : ByteArray).size = 3 from rfl] at c72b3)
                obtain ⟨c73, H⟩ := ifS H
                have c73b0 := eq_true c73
                have c73b1 : decide (((((⟨#[66, 79, 68, 89, 91]⟩ : ByteArray) ++ z17) ++ (⟨#[93, 32, 123]⟩ : ByteArray)) ++ t185).size + 3 ≤ 9223372036854775807) = true := decide_eq_true c73
                try have c73b2 : (9223372036854775807 < ((((⟨#[66, 79, 68, 89, 91]⟩ : ByteArray) ++ z17) ++ (⟨#[93, 32, 123]⟩ : ByteArray)) ++ t185).size + 3) = False := eq_false (Nat.not_lt.2 c73); try (have c73b3 := c73b2; simp only [ByteArray.size_append, show (⟨#[66, 79, 68, 89, 91]⟩ : ByteArray).size = 5 from rfl, show (⟨#[93, 32, 123]⟩ : ByteArray).size = 3 from rfl] at c73b3)
                obtain ⟨c74, H⟩ := ifS H
                have c74b0 := eq_true c74
                have c74b1 : decide ((((((⟨#[66, 79, 68, 89, 91]⟩ : ByteArray) ++ z17) ++ (⟨#[93, 32, 123]⟩ : ByteArray)) ++ t185) ++ (⟨#[125, 13, 10]⟩ : ByteArray)).size + t179.size ≤ 9223372036854775807) = true := decide_eq_true c74
                try have c74b2 : (9223372036854775807 < (((((⟨#[66, 79, 68, 89, 91]⟩ : ByteArray) ++ z17) ++ (⟨#[93, 32, 123]⟩ : ByteArray)) ++ t185) ++ (⟨#[125, 13, 10]⟩ : ByteArray)).size + t179.size) = False := eq_false (Nat.not_lt.2 c74); try (have c74b3 := c74b2; simp only [ByteArray.size_append, show (⟨#[66, 79, 68, 89, 91]⟩ : ByteArray).size = 5 from rfl, show (⟨#[93, 32, 123]⟩ : ByteArray).size = 3 from rfl, show (⟨#[125, 13, 10]⟩ : ByteArray).size = 3 from rfl] at c74b3)
                obtain ⟨c75, H⟩ := ifS H
                have LMc75 := Aside0.mk c75
                clear c75
                obtain ⟨y186, hy186⟩ : ∃ y_ : List ByteArray, y_ = (x11_1 ++ [(((((⟨#[66, 79, 68, 89, 91]⟩ : ByteArray) ++ z17) ++ (⟨#[93, 32, 123]⟩ : ByteArray)) ++ t185) ++ (⟨#[125, 13, 10]⟩ : ByteArray)) ++ t179]) := ⟨_, rfl⟩
                replace H : (spec_l13Fetch.l0 kj41 a1 l2 a3 y186 (x16_39.toList == ([66, 79, 68, 89, 91] : List UInt8)) x13_1 (wrap64 (x14_1 + 1)) a0_0 a0_1 a0_2) = some (r1, r2, r3) := by first | (rw [hy186]; with_reducible exact H) | (have H2_ := (Option.bind_some _ _).symm.trans H; rw [hy186]; with_reducible exact H2_) | (have H2_ := (Option.bind_some _ _).symm.trans H; with_reducible exact H2_) | with_reducible exact H | (rw [hy186]; exact H) | exact H
                have Ny186 := Aside0.mk hy186
                clear hy186
                have H' := Aside0.mk H
                clear H
                obtain ⟨hcz76_0, hcz76_1, hcz76_2⟩ := bc3 BK161.out
                obtain ⟨hfz76_0, hfz76_1, hfz76_2⟩ := bf3 BK161.out
                go_wp2_with (first | ((with_reducible refine gate_callee (f := 20) rfl ?_); refine goesL_ (some 72) rfl rfl Tryz.func20 (Z20) rfl #[.string a0_2, .string z17] rfl (Z1) ?_; (with_reducible refine (spec_l07Part.calls kj41 a0_2 z17 t179 true _ A55.out).mono ?_); rintro e w77 ⟨rfl, hb⟩; refine ⟨_, rfl, ?_⟩; replace HO_11 := Aside0.mk (Kd.R_below (Z17) hb); replace BK161 := Aside0.mk (kB BK161 (Z10) hb); replace HB := Aside0.mk (below_step (Z5) hb); (try clear hb)) | ((with_reducible refine gate_callee (f := 19) rfl ?_); refine goesL_ (some 88) rfl rfl Tryz.func19 (Z20) rfl #[.int .i64 (t179.size : Int)] rfl (Z1) ?_; (with_reducible refine (spec_l00Digits.calls kj41 (t179.size : Int) t185 _ A71.out).mono ?_); rintro e w78 ⟨rfl, hb⟩; refine ⟨_, rfl, ?_⟩; replace HO_11 := Aside0.mk (Kd.R_below (Z17) hb); replace BK161 := Aside0.mk (kB BK161 (Z10) hb); replace HB := Aside0.mk (below_step (Z5) hb); (try clear hb)) | ((with_reducible refine gate_builtin (b := .append) (xs := #[.tmp 82, .tmp 93]) rfl ?_); (try (refine gate_guard (by rfl) ?_; dsimp only)); at_builtin; refine Kd.R_append Kd.string (w0 := w) w.heap.size rfl (.tmp 82) (.tmp 93) 24 9 (.string ⟨#[]⟩) 16 rfl Tryz.underlying24 info9 rfl (Z63) (Z46) u11 x11_1 ((((((⟨#[66, 79, 68, 89, 91]⟩ : ByteArray) ++ z17) ++ (⟨#[93, 32, 123]⟩ : ByteArray)) ++ t185) ++ (⟨#[125, 13, 10]⟩ : ByteArray)) ++ t179) [.string ((((((⟨#[66, 79, 68, 89, 91]⟩ : ByteArray) ++ z17) ++ (⟨#[93, 32, 123]⟩ : ByteArray)) ++ t185) ++ (⟨#[125, 13, 10]⟩ : ByteArray)) ++ t179)] (fun _ => True) (fun _ => False) rfl rfl ?aP (fun _ hk => hk.elim) ?aF ?aO ?aB ?aS ?aL ?_; (case aP => exact rfl); (case aB => exact (Z5)); (case aF => exact (fun _ _ => trivial)); (case aO => exact (Z17)); (case aS => exact (below_size (Z5))); (case aL => have := LMc75.out; omega); intro v187 w79 ho hb hg hat; rw [← Ny186.out] at ho; have n0_ := Aside0.mk (blk_grown (g := gb161) (o := .cells #[.int .i64 a0_0, .int .i64 a0_1, .string a0_2] 29 (0, 0)) (Z10) hg (Kd.R_ne HO_11.out BK161.out (Z63))); have n1_ := Aside0.mk (hb); have n2_ := Aside0.mk (ho); clear BK161; clear HB; clear HO_11; have BK161 := n0_; have HB := n1_; have HO188 := n2_; clear n0_ n1_ n2_; clear ho hb hg hat))
                go_roundg kj41
                case measure => have := HK1.out; have := HJ34.out; have := HJ39.out; have := HJ41.out; omega
                case rel => exact ⟨(y186), ((x16_39.toList == ([66, 79, 68, 89, 91] : List UInt8))), (x13_1), (wrap64 (x14_1 + 1)), (Z2), (Z2), (Z2), H', ⟨by have := HK1.out; have := HJ34.out; have := HJ39.out; have := HJ41.out; omega⟩, ⟨by (with_reducible repeat (first | apply Kd.R_alloc | apply Kd.R_drewN | apply Kd.R_drew)); exact HO188.out⟩, ⟨Z10⟩, ⟨Z5⟩⟩
              ·replace c56 := Bool.eq_false_iff.mpr c56
               subst c56
               replace H := ifF H
               simp only [Option.some.injEq, Prod.mk.injEq] at H
               obtain ⟨rfl, rfl, rfl⟩ := H
               obtain ⟨hcz80_0, hcz80_1, hcz80_2⟩ := bc3 BK161.out
               obtain ⟨hfz80_0, hfz80_1, hfz80_2⟩ := bf3 BK161.out
               go_wp2_with (first | ((with_reducible refine gate_callee (f := 20) rfl ?_); refine goesL_ (some 72) rfl rfl Tryz.func20 (Z20) rfl #[.string a0_2, .string z17] rfl (Z1) ?_; (with_reducible refine (spec_l07Part.calls kj41 a0_2 z17 t179 false _ A55.out).mono ?_); rintro e w81 ⟨rfl, hb⟩; refine ⟨_, rfl, ?_⟩; replace HO_11 := Aside0.mk (Kd.R_below (Z17) hb); replace BK161 := Aside0.mk (kB BK161 (Z10) hb); replace HB := Aside0.mk (below_step (Z5) hb); (try clear hb)))
               go_ret3
               exact ⟨Z3, Z5⟩
   ·rw [if_neg c8] at H
    have c8b0 := decide_eq_false c8
    clear c8
    have HC82 := Aside0.mk H
    clear H
    go_upto_region 26 with (fail)
    go_cut [130] (fun v130 wc => ∃ (kq : Nat) (x130_81 : Bool), v130 = .bool x130_81 ∧ Aside0 (spec_l13Fetch.j4 kq a1 x11_1 x12_1 x130_81 a0_0 a0_1 a0_2 = some (r1, r2, r3)) ∧ Aside0 (kq ≤ k1) ∧ Aside0 (Kd.R Kd.string 9 wc w.heap.size (fun _ => True) u11 x11_1) ∧ Aside0 (wc.heap[gb161]? = some (.cells #[.int .i64 a0_0, .int .i64 a0_1, .string a0_2] 29 (0, 0))) ∧ Aside0 (Below w.heap.size w wc))
    case first =>
     have H := HC82.out
     clear HC82
     by_cases c83 : a3 = true
     ·subst c83
      replace H := ifT H
      have H' := Aside0.mk H
      clear H
      go_wp2
      go_meet
      case rel => exact ⟨_, (!x13_1), (Z2), H', ⟨Z47⟩, ⟨Z17⟩, ⟨Z10⟩, ⟨Z5⟩⟩
     ·replace c83 := Bool.eq_false_iff.mpr c83
      subst c83
      replace H := ifF H
      have H' := Aside0.mk H
      clear H
      go_wp2
      go_meet
      case rel => exact ⟨_, (false), (Z2), H', ⟨Z47⟩, ⟨Z17⟩, ⟨Z10⟩, ⟨Z5⟩⟩
    case rest =>
     clear HC82
     (try clear c2); (try clear c8); (try clear c8b0)
     obtain ⟨kq, x130_81, rfl, HA, HJ81, HO_11, BK161, HB⟩ := hcut
     cases kq with
     | zero => exact absurd HA.out (by simp [spec_l13Fetch.j4])
     | succ kj81 =>
      have H := HA.out
      clear HA
      simp only [spec_l13Fetch.j4] at H
      by_cases c84 : x130_81 = true
      ·subst c84
       replace H := ifT H
       obtain ⟨t189, A85, H⟩ := bindA H
       try dsimp only at H
       obtain ⟨c86, H⟩ := ifS H
       have c86b0 := eq_true c86
       have c86b1 : decide (4 + t189.size ≤ 9223372036854775807) = true := decide_eq_true c86
       try have c86b2 : (9223372036854775807 < 4 + t189.size) = False := eq_false (Nat.not_lt.2 c86)
       obtain ⟨y190, hy190⟩ : ∃ y_ : List ByteArray, y_ = (([(⟨#[85, 73, 68, 32]⟩ : ByteArray) ++ t189] : List ByteArray)) := ⟨_, rfl⟩
       replace H : (if y190.length + x11_1.length < 8796093022208 then ((spec_l00Digits.f kj81 a1).bind fun t196 => (if 2 + t196.size ≤ 9223372036854775807 then (if ((⟨#[42, 32]⟩ : ByteArray) ++ t196).size + 8 ≤ 9223372036854775807 then ((spec_l00Join.f kj81 (y190 ++ x11_1) (⟨#[32]⟩ : ByteArray)).bind fun t197 => (if (((⟨#[42, 32]⟩ : ByteArray) ++ t196) ++ (⟨#[32, 70, 69, 84, 67, 72, 32, 40]⟩ : ByteArray)).size + t197.size ≤ 9223372036854775807 then (if ((((⟨#[42, 32]⟩ : ByteArray) ++ t196) ++ (⟨#[32, 70, 69, 84, 67, 72, 32, 40]⟩ : ByteArray)) ++ t197).size + 3 ≤ 9223372036854775807 then (some (((((⟨#[42, 32]⟩ : ByteArray) ++ t196) ++ (⟨#[32, 70, 69, 84, 67, 72, 32, 40]⟩ : ByteArray)) ++ t197) ++ (⟨#[41, 13, 10]⟩ : ByteArray), x12_1, true)) else (none)) else (none))) else (none)) else (none))) else (none)) = some (r1, r2, r3) := by first | (rw [hy190]; with_reducible exact H) | (have H2_ := (Option.bind_some _ _).symm.trans H; rw [hy190]; with_reducible exact H2_) | (have H2_ := (Option.bind_some _ _).symm.trans H; with_reducible exact H2_) | with_reducible exact H | (rw [hy190]; exact H) | exact H
       have Ny190 := Aside0.mk hy190
       clear hy190
       obtain ⟨c87, H⟩ := ifS H
       have LMc87 := Aside0.mk c87
       clear c87
       obtain ⟨y193, hy193⟩ : ∃ y_ : List ByteArray, y_ = (y190 ++ x11_1) := ⟨_, rfl⟩
       replace H : ((spec_l00Digits.f kj81 a1).bind fun t196 => (if 2 + t196.size ≤ 9223372036854775807 then (if ((⟨#[42, 32]⟩ : ByteArray) ++ t196).size + 8 ≤ 9223372036854775807 then ((spec_l00Join.f kj81 y193 (⟨#[32]⟩ : ByteArray)).bind fun t197 => (if (((⟨#[42, 32]⟩ : ByteArray) ++ t196) ++ (⟨#[32, 70, 69, 84, 67, 72, 32, 40]⟩ : ByteArray)).size + t197.size ≤ 9223372036854775807 then (if ((((⟨#[42, 32]⟩ : ByteArray) ++ t196) ++ (⟨#[32, 70, 69, 84, 67, 72, 32, 40]⟩ : ByteArray)) ++ t197).size + 3 ≤ 9223372036854775807 then (some (((((⟨#[42, 32]⟩ : ByteArray) ++ t196) ++ (⟨#[32, 70, 69, 84, 67, 72, 32, 40]⟩ : ByteArray)) ++ t197) ++ (⟨#[41, 13, 10]⟩ : ByteArray), x12_1, true)) else (none)) else (none))) else (none)) else (none))) = some (r1, r2, r3) := by first | (rw [hy193]; with_reducible exact H) | (have H2_ := (Option.bind_some _ _).symm.trans H; rw [hy193]; with_reducible exact H2_) | (have H2_ := (Option.bind_some _ _).symm.trans H; with_reducible exact H2_) | with_reducible exact H | (rw [hy193]; exact H) | exact H
       have Ny193 := Aside0.mk hy193
       clear hy193
       obtain ⟨t196, A88, H⟩ := bindA H
       try dsimp only at H
       obtain ⟨c89, H⟩ := ifS H
       have c89b0 := eq_true c89
       have c89b1 : decide (2 + t196.size ≤ 9223372036854775807) = true := decide_eq_true c89
       try have c89b2 : (9223372036854775807 < 2 + t196.size) = False := eq_false (Nat.not_lt.2 c89)
       obtain ⟨c90, H⟩ := ifS H
       have c90b0 := eq_true c90
       have c90b1 : decide (((⟨#[42, 32]⟩ : ByteArray) ++ t196).size + 8 ≤ 9223372036854775807) = true := decide_eq_true c90
       try have c90b2 : (9223372036854775807 < ((⟨#[42, 32]⟩ : ByteArray) ++ t196).size + 8) = False := eq_false (Nat.not_lt.2 c90); try (have c90b3 := c90b2; simp only [ByteArray.size_append, show (⟨#[42, 32]⟩ : ByteArray).size = 2 from rfl] at c90b3)
       obtain ⟨t197, A91, H⟩ := bindA H
       try dsimp only at H
       obtain ⟨c92, H⟩ := ifS H
       have c92b0 := eq_true c92
       have c92b1 : decide ((((⟨#[42, 32]⟩ : ByteArray) ++ t196) ++ (⟨#[32, 70, 69, 84, 67, 72, 32, 40]⟩ : ByteArray)).size + t197.size ≤ 9223372036854775807) = true := decide_eq_true c92
       try have c92b2 : (9223372036854775807 < (((⟨#[42, 32]⟩ : ByteArray) ++ t196) ++ (⟨#[32, 70, 69, 84, 67, 72, 32, 40]⟩ : ByteArray)).size + t197.size) = False := eq_false (Nat.not_lt.2 c92); try (have c92b3 := c92b2; simp only [ByteArray.size_append, show (⟨#[42, 32]⟩ : ByteArray).size = 2 from rfl, show (⟨#[32, 70, 69, 84, 67, 72, 32, 40]⟩ : ByteArray).size = 8 from rfl] at c92b3)
       obtain ⟨c93, H⟩ := ifS H
       have c93b0 := eq_true c93
       have c93b1 : decide (((((⟨#[42, 32]⟩ : ByteArray) ++ t196) ++ (⟨#[32, 70, 69, 84, 67, 72, 32, 40]⟩ : ByteArray)) ++ t197).size + 3 ≤ 9223372036854775807) = true := decide_eq_true c93
       try have c93b2 : (9223372036854775807 < ((((⟨#[42, 32]⟩ : ByteArray) ++ t196) ++ (⟨#[32, 70, 69, 84, 67, 72, 32, 40]⟩ : ByteArray)) ++ t197).size + 3) = False := eq_false (Nat.not_lt.2 c93); try (have c93b3 := c93b2; simp only [ByteArray.size_append, show (⟨#[42, 32]⟩ : ByteArray).size = 2 from rfl, show (⟨#[32, 70, 69, 84, 67, 72, 32, 40]⟩ : ByteArray).size = 8 from rfl] at c93b3)
       simp only [Option.some.injEq, Prod.mk.injEq] at H
       obtain ⟨rfl, rfl, rfl⟩ := H
       obtain ⟨hcz94_0, hcz94_1, hcz94_2⟩ := bc3 BK161.out
       obtain ⟨hfz94_0, hfz94_1, hfz94_2⟩ := bf3 BK161.out
       go_wp2_with (first | ((with_reducible refine gate_callee (f := 19) rfl ?_); refine goesL_ (some 133) rfl rfl Tryz.func19 (Z20) rfl #[.int .i64 a0_0] rfl (Z1) ?_; (with_reducible refine (spec_l00Digits.calls kj81 a0_0 t189 _ A85.out).mono ?_); rintro e w95 ⟨rfl, hb⟩; refine ⟨_, rfl, ?_⟩; replace HO_11 := Aside0.mk (Kd.R_below (Z17) hb); replace BK161 := Aside0.mk (kB BK161 (Z10) hb); replace HB := Aside0.mk (below_step (Z5) hb); (try clear hb)) | ((with_reducible refine gate_dst (N := 135) rfl ?_); (try (refine gate_guard (by rfl) ?_; dsimp only)); refine Kd.R_lit Kd.string _ 9 ?hg (N := 135) ?hd (xs := ([(⟨#[85, 73, 68, 32]⟩ : ByteArray) ++ t189] : List ByteArray)) (inner := [.string ((⟨#[85, 73, 68, 32]⟩ : ByteArray) ++ t189)]) (ok := fun _ => True) (okp := fun _ => True) ?hr ?hp (fun _ hk => hk) trivial (Below.refl _ _) (Nat.le_refl _) (by simp) ?_; (case hd => rfl); (case hg => rfl); (case hr => first | (go_simp; done) | (go_simp; rfl)); (case hp => exact (Reps.one (show Kd.M Kd.string _ _ _ ((⟨#[85, 73, 68, 32]⟩ : ByteArray) ++ t189) [.string ((⟨#[85, 73, 68, 32]⟩ : ByteArray) ++ t189)] from rfl) (Reps.none _ _))); intro v191 w96 ho97 hb hg_ hnew_; clear hg_ hnew_; (first | rw [← Ny190.out] at ho97 | (simp only [Int.reduceToNat] at ho97; rw [← Ny190.out] at ho97)); have HO192 := Aside0.mk (Kd.R_lower (Kd.R_new' ho97 (Kd.R_lt (Z17))) (below_size (Z5))); replace HO_11 := Aside0.mk (Kd.R_elder' (Z17) (Kd.R_base ho97) hb); replace BK161 := Aside0.mk (kB BK161 (Z10) hb); replace HB := Aside0.mk (below_step (Z5) hb); clear hb ho97; obtain ⟨Ao99, co99, eo99⟩ := Kd.R_slice HO_11.out; subst eo99) | ((with_reducible refine gate_builtin (b := .append) (xs := #[.tmp 135, .tmp 136]) rfl ?_); (try (refine gate_guard (by rfl) ?_; dsimp only)); at_builtin; refine Kd.R_append_rows Kd.string (w0 := w) w.heap.size rfl (.tmp 135) (.tmp 136) 24 9 (.string ⟨#[]⟩) 16 rfl Tryz.underlying24 info9 rfl (Z63) (Z46) v191 y190 x11_1 _ _ _ (fun k_ => some k_ ≠ (.slice Ao99 x11_1.length co99 : Value).ownBlock) (fun _ => False) rfl rfl ?aO ?aR (fun _ _ h => h) (fun _ h => h.elim) ?aF ?aB ?aS ?aL ?_; (case aR => repeat (first | exact (Kd.R_reads' HO_11.out).2.2 | (with_reducible refine Kd.C_alloc ?_ _) | (with_reducible refine Kd.C_drewN ?_ _) | (with_reducible refine Kd.C_drew ?_))); (case aB => exact (Z5)); (case aF => exact (fun k_ hk => Kd.fresh' (Kd.R_lt (Z17)) k_ hk)); (case aO => exact (by (with_reducible repeat (first | apply Kd.R_alloc | apply Kd.R_drewN | apply Kd.R_drew)); exact Kd.R_mono HO192.out (fun _ hk => hk.2))); (case aS => exact (below_size (Z5))); (case aL => have := LMc87.out; omega); intro v194 w98 ho hb hg hat; rw [← Ny193.out] at ho; have n0_ := Aside0.mk (Kd.R_after (ok := (fun _ => True)) (Z17) hg hat); have n1_ := Aside0.mk (blk_grown (g := gb161) (o := .cells #[.int .i64 a0_0, .int .i64 a0_1, .string a0_2] 29 (0, 0)) (Z10) hg (Kd.R_ne HO192.out BK161.out (Z63))); have n2_ := Aside0.mk (hb); have n3_ := Aside0.mk (ho); clear HO_11; clear BK161; clear HB; clear HO192; have HO_11 := n0_; have BK161 := n1_; have HB := n2_; have HO195 := n3_; clear n0_ n1_ n2_ n3_; clear ho hb hg hat) | ((with_reducible refine gate_callee (f := 19) rfl ?_); refine goesL_ (some 139) rfl rfl Tryz.func19 (Z20) rfl #[.int .i64 a1] rfl (Z1) ?_; (with_reducible refine (spec_l00Digits.calls kj81 a1 t196 _ A88.out).mono ?_); rintro e w100 ⟨rfl, hb⟩; refine ⟨_, rfl, ?_⟩; replace HO_11 := Aside0.mk (Kd.R_below (Z17) hb); replace HO195 := Aside0.mk (Kd.R_below (by (with_reducible repeat (first | apply Kd.R_alloc | apply Kd.R_drewN | apply Kd.R_drew)); exact HO195.out) hb); replace BK161 := Aside0.mk (kB BK161 (Z10) hb); replace HB := Aside0.mk (below_step (Z5) hb); (try clear hb); obtain ⟨Ao101, co101, eo101⟩ := Kd.R_slice HO195.out; subst eo101) | ((with_reducible refine gate_callee (f := 21) rfl ?_); refine goesL_ (some 143) rfl rfl Tryz.func21 (Z20) rfl #[.slice Ao101 y193.length co101, .string (⟨#[32]⟩ : ByteArray)] rfl (Z1) ?_; (with_reducible refine (spec_l00Join.calls kj81 _ _ y193 (⟨#[32]⟩ : ByteArray) t197 _ ?side1 ?side2 A91.out).mono ?_); (case side1 => have h_ := (Kd.R_reads' HO195.out).2.2; exact tC); (case side2 => exact (Kd.R_reads' HO195.out).2.1); rintro e w' ⟨rfl, ⟨nd, rfl⟩⟩; refine ⟨_, rfl, ?_⟩))
       go_ret3
       exact ⟨Z3, Z5⟩
      ·replace c84 := Bool.eq_false_iff.mpr c84
       subst c84
       replace H := ifF H
       obtain ⟨t198, A102, H⟩ := bindA H
       try dsimp only at H
       obtain ⟨c103, H⟩ := ifS H
       have c103b0 := eq_true c103
       have c103b1 : decide (2 + t198.size ≤ 9223372036854775807) = true := decide_eq_true c103
       try have c103b2 : (9223372036854775807 < 2 + t198.size) = False := eq_false (Nat.not_lt.2 c103)
       obtain ⟨c104, H⟩ := ifS H
       have c104b0 := eq_true c104
       have c104b1 : decide (((⟨#[42, 32]⟩ : ByteArray) ++ t198).size + 8 ≤ 9223372036854775807) = true := decide_eq_true c104
       try have c104b2 : (9223372036854775807 < ((⟨#[42, 32]⟩ : ByteArray) ++ t198).size + 8) = False := eq_false (Nat.not_lt.2 c104); try (have c104b3 := c104b2; simp only [ByteArray.size_append, show (⟨#[42, 32]⟩ : ByteArray).size = 2 from rfl] at c104b3)
       obtain ⟨t199, A105, H⟩ := bindA H
       try dsimp only at H
       obtain ⟨c106, H⟩ := ifS H
       have c106b0 := eq_true c106
       have c106b1 : decide ((((⟨#[42, 32]⟩ : ByteArray) ++ t198) ++ (⟨#[32, 70, 69, 84, 67, 72, 32, 40]⟩ : ByteArray)).size + t199.size ≤ 9223372036854775807) = true := decide_eq_true c106
       try have c106b2 : (9223372036854775807 < (((⟨#[42, 32]⟩ : ByteArray) ++ t198) ++ (⟨#[32, 70, 69, 84, 67, 72, 32, 40]⟩ : ByteArray)).size + t199.size) = False := eq_false (Nat.not_lt.2 c106); try (have c106b3 := c106b2; simp only [ByteArray.size_append, show (⟨#[42, 32]⟩ : ByteArray).size = 2 from rfl, show (⟨#[32, 70, 69, 84, 67, 72, 32, 40]⟩ : ByteArray).size = 8 from rfl] at c106b3)
       obtain ⟨c107, H⟩ := ifS H
       have c107b0 := eq_true c107
       have c107b1 : decide (((((⟨#[42, 32]⟩ : ByteArray) ++ t198) ++ (⟨#[32, 70, 69, 84, 67, 72, 32, 40]⟩ : ByteArray)) ++ t199).size + 3 ≤ 9223372036854775807) = true := decide_eq_true c107
       try have c107b2 : (9223372036854775807 < ((((⟨#[42, 32]⟩ : ByteArray) ++ t198) ++ (⟨#[32, 70, 69, 84, 67, 72, 32, 40]⟩ : ByteArray)) ++ t199).size + 3) = False := eq_false (Nat.not_lt.2 c107); try (have c107b3 := c107b2; simp only [ByteArray.size_append, show (⟨#[42, 32]⟩ : ByteArray).size = 2 from rfl, show (⟨#[32, 70, 69, 84, 67, 72, 32, 40]⟩ : ByteArray).size = 8 from rfl] at c107b3)
       simp only [Option.some.injEq, Prod.mk.injEq] at H
       obtain ⟨rfl, rfl, rfl⟩ := H
       go_wp2_with (first | ((with_reducible refine gate_callee (f := 19) rfl ?_); refine goesL_ (some 139) rfl rfl Tryz.func19 (Z20) rfl #[.int .i64 a1] rfl (Z1) ?_; (with_reducible refine (spec_l00Digits.calls kj81 a1 t198 _ A102.out).mono ?_); rintro e w108 ⟨rfl, hb⟩; refine ⟨_, rfl, ?_⟩; replace HO_11 := Aside0.mk (Kd.R_below (Z17) hb); replace BK161 := Aside0.mk (kB BK161 (Z10) hb); replace HB := Aside0.mk (below_step (Z5) hb); (try clear hb); obtain ⟨Ao109, co109, eo109⟩ := Kd.R_slice HO_11.out; subst eo109) | ((with_reducible refine gate_callee (f := 21) rfl ?_); refine goesL_ (some 143) rfl rfl Tryz.func21 (Z20) rfl #[.slice Ao109 x11_1.length co109, .string (⟨#[32]⟩ : ByteArray)] rfl (Z1) ?_; (with_reducible refine (spec_l00Join.calls kj81 _ _ x11_1 (⟨#[32]⟩ : ByteArray) t199 _ ?side1 ?side2 A105.out).mono ?_); (case side1 => have h_ := (Kd.R_reads' HO_11.out).2.2; exact tC); (case side2 => exact (Kd.R_reads' HO_11.out).2.1); rintro e w' ⟨rfl, ⟨nd, rfl⟩⟩; refine ⟨_, rfl, ?_⟩))
       go_ret3
       exact ⟨Z3, Z5⟩

end Go.Proofs.YtcmnndnigjkldaaGreatDoor.PFnExactFetchText
