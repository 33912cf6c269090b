/- The reference's source of drawn choices: what each draw may be. -/
import Derived.Test.YtjfkhklbnjdbjaaDoorRows
import Derived.Test.YtjfkhklbnjdbjaaDoorKeep
import Derived.Outline
import Derived.Deep.QuietTactic
import Derived.BigQuiet
import Derived.RegionTactic
import Derived.BigRegion
set_option linter.unusedVariables false
set_option linter.unusedSimpArgs false
set_option maxHeartbeats 8000000
namespace Go.Proofs.YtjfkhklbnjdbjaaDoor
open Go.RowKit

/-- Which source: its block, the code's value, the code's bytes. -/
structure SrcId where
  b : Nat
  v : Value
  zs : List Int
abbrev SrcId.ptr (S : SrcId) : Value := .pointer (some ⟨S.b, 0, none⟩)
/-- A source: how many bytes were taken, the seed. -/
structure IsSrc (w : World) (S : SrcId) (at_ seed : Int) : Prop where
  lt : S.b < w.heap.size
  code : w.cell? ⟨S.b, 0, none⟩ = some S.v
  bytes : IsBytes w S.v S.zs
  apart : ∀ a n c, S.zs ≠ [] → S.v = .slice (some a) n c → a.block ≠ S.b
  at1 : w.cell? ⟨S.b, 1, none⟩ = some (.int .i64 at_)
  at2 : w.cell? ⟨S.b, 2, none⟩ = some (.int .i64 seed)
  fr1 : w.frozen? ⟨S.b, 1, none⟩ = false
  fr2 : w.frozen? ⟨S.b, 2, none⟩ = false
  seed0 : 0 ≤ seed
  seed1 : seed < 2147483648
  at0 : 0 ≤ at_

theorem IsSrc.turn {w w' : World} {S : SrcId} {at_ seed at' seed' : Int} (h : IsSrc w S at_ seed) (k : Keep (· = S.b) w w') (c0 : w'.cell? ⟨S.b, 0, none⟩ = w.cell? ⟨S.b, 0, none⟩)
    (c1 : w'.cell? ⟨S.b, 1, none⟩ = some (.int .i64 at')) (c2 : w'.cell? ⟨S.b, 2, none⟩ = some (.int .i64 seed')) (f1 : w'.frozen? ⟨S.b, 1, none⟩ = false) (f2 : w'.frozen? ⟨S.b, 2, none⟩ = false)
    (s0 : 0 ≤ seed') (s1 : seed' < 2147483648) (a0 : 0 ≤ at') : IsSrc w' S at' seed' :=
  ⟨Nat.lt_of_lt_of_le h.lt k.size, by rw [c0, h.code], h.bytes.keep k h.apart, h.apart, c1, c2, f1, f2, s0, s1, a0⟩

def SrcInt (m : Int) (S : SrcId) (at' : Int) (w : World) (e : Ending) (w' : World) : Prop :=
  ∃ n seed', e = .returned (.int .i64 n) ∧ 0 ≤ n ∧ n ≤ m ∧ IsSrc w' S at' seed' ∧ Keep (· = S.b) w w'

theorem src_byte (S : SrcId) (at_ seed : Int) (w : World) (h : IsSrc w S at_ seed) (hat : at_ < 1000000000000) :
    Calls Tryd.prog 29 #[S.ptr] w (SrcInt 255 S (at_ + 1) w) := by
  have h' := Lib.hid h
  obtain ⟨hlt, hv, hz, hd, h1, h2, f1, f2, hs0, hs1, ha0⟩ := h
  have hz' := hz
  obtain ⟨hr, hl, a, c, hSv, hcode⟩ := hz'
  unfold maxLen at hl
  obtain ⟨b, v, zs⟩ := S
  dsimp only at *
  subst hSv
  by_cases hin : at_ + 1 ≤ zs.length
  · obtain ⟨cb, co, rfl, hcb, hcc⟩ := hcode (by rintro rfl; simp at hin; omega)
    have hc := hcc at_.toNat (by omega)
    have hr' : 0 ≤ zs.getD at_.toNat 0 ∧ zs.getD at_.toNat 0 ≤ 255 := hr _ (by rw [List.getD_eq_getElem?_getD, List.getElem?_eq_getElem (by omega)]; simp)
    obtain ⟨hr0, hr1⟩ := hr'
    generalize zs.getD at_.toNat 0 = z at hc hr0 hr1
    have hne : cb ≠ b := hd _ _ _ (by rintro rfl; simp at hin; omega) rfl
    have hdd : decide (at_ + 1 ≤ zs.length) = true := by simpa using hin
    clear hcode hcc hr hd hz
    go_enter Tryd.func29, Tryd.ntmps29
    go_wp2
    go_quiet (fail)
    go_wp2
    go_region
    go_wp2
    go_quiet (fail)
    go_wp2
    go_ret
    refine ⟨z, _, rfl, hr0, hr1, h'.out.turn (by (repeat (first | exact Keep.refl _ _ | (refine Keep.alloc ?_ _) | (refine Keep.setCell ?_ (by first | exact Or.inl rfl | (right; first | omega | (simp only [World.size_alloc, World.size_setCell, World.size_drew, size_drewN]; omega))) _) | refine Keep.drew ?_ | refine Keep.drewN ?_ _ | (refine Keep.trans ?_ (by assumption))))) (by simp [go_sem, *] <;> exact rfl) (by simp [go_sem, *] <;> exact rfl) (by simp [go_sem, *] <;> exact rfl) (by simp [go_sem, *] <;> exact rfl) (by simp [go_sem, *] <;> exact rfl) (by omega) (by omega) (by omega), by (repeat (first | exact Keep.refl _ _ | (refine Keep.alloc ?_ _) | (refine Keep.setCell ?_ (by first | exact Or.inl rfl | (right; first | omega | (simp only [World.size_alloc, World.size_setCell, World.size_drew, size_drewN]; omega))) _) | refine Keep.drew ?_ | refine Keep.drewN ?_ _ | (refine Keep.trans ?_ (by assumption))))⟩
  · have hdd : decide (at_ + 1 ≤ zs.length) = false := by simpa using hin
    clear hcode hr hd hz
    by_cases hb : 3000 < at_ + 1
    · go_enter Tryd.func29, Tryd.ntmps29
      go_wp2
      go_quiet (fail)
      go_wp2
      go_ret
      refine ⟨0, _, rfl, by omega, by omega, h'.out.turn (by (repeat (first | exact Keep.refl _ _ | (refine Keep.alloc ?_ _) | (refine Keep.setCell ?_ (by first | exact Or.inl rfl | (right; first | omega | (simp only [World.size_alloc, World.size_setCell, World.size_drew, size_drewN]; omega))) _) | refine Keep.drew ?_ | refine Keep.drewN ?_ _ | (refine Keep.trans ?_ (by assumption))))) (by simp [go_sem, *] <;> exact rfl) (by simp [go_sem, *] <;> exact rfl) (by simp [go_sem, *] <;> exact rfl) (by simp [go_sem, *] <;> exact rfl) (by simp [go_sem, *] <;> exact rfl) (by omega) (by omega) (by omega), by (repeat (first | exact Keep.refl _ _ | (refine Keep.alloc ?_ _) | (refine Keep.setCell ?_ (by first | exact Or.inl rfl | (right; first | omega | (simp only [World.size_alloc, World.size_setCell, World.size_drew, size_drewN]; omega))) _) | refine Keep.drew ?_ | refine Keep.drewN ?_ _ | (refine Keep.trans ?_ (by assumption))))⟩
    · go_enter Tryd.func29, Tryd.ntmps29
      go_wp2
      go_quiet (fail)
      go_wp2
      go_ret
      refine ⟨_, _, rfl, ?_, ?_, h'.out.turn (by (repeat (first | exact Keep.refl _ _ | (refine Keep.alloc ?_ _) | (refine Keep.setCell ?_ (by first | exact Or.inl rfl | (right; first | omega | (simp only [World.size_alloc, World.size_setCell, World.size_drew, size_drewN]; omega))) _) | refine Keep.drew ?_ | refine Keep.drewN ?_ _ | (refine Keep.trans ?_ (by assumption))))) (by simp [go_sem, *] <;> exact rfl) (by simp [go_sem, *] <;> exact rfl) (by simp [go_sem, *] <;> exact rfl) (by simp [go_sem, *] <;> exact rfl) (by simp [go_sem, *] <;> exact rfl) (by omega) (by omega) (by omega), by (repeat (first | exact Keep.refl _ _ | (refine Keep.alloc ?_ _) | (refine Keep.setCell ?_ (by first | exact Or.inl rfl | (right; first | omega | (simp only [World.size_alloc, World.size_setCell, World.size_drew, size_drewN]; omega))) _) | refine Keep.drew ?_ | refine Keep.drewN ?_ _ | (refine Keep.trans ?_ (by assumption))))⟩
      all_goals omega
/-- A source of which at most N were taken. -/
def Src (w : World) (S : SrcId) (N : Int) : Prop := ∃ at_ seed, IsSrc w S at_ seed ∧ at_ ≤ N
theorem Src.keep {own : Nat → Prop} {w w' : World} {S : SrcId} {N : Int} (h : Src w S N) (k : Keep own w w') (hb : ¬ own S.b) (hd : ∀ a n c, S.zs ≠ [] → S.v = .slice (some a) n c → ¬ own a.block) : Src w' S N := by
  obtain ⟨a, s, ⟨hlt, hv, hz, hd0, h1, h2, f1, f2, s0, s1, a0⟩, hN⟩ := h
  exact ⟨a, s, ⟨Nat.lt_of_lt_of_le hlt k.size, by rw [k.cell (p := ⟨S.b, 0, none⟩) hlt hb, hv], hz.keep k hd, hd0, by rw [k.cell (p := ⟨S.b, 1, none⟩) hlt hb, h1], by rw [k.cell (p := ⟨S.b, 2, none⟩) hlt hb, h2],
    by rw [k.frozen (p := ⟨S.b, 1, none⟩) hlt hb, f1], by rw [k.frozen (p := ⟨S.b, 2, none⟩) hlt hb, f2], s0, s1, a0⟩, hN⟩
theorem Src.below {w w' : World} {S : SrcId} {N : Int} (h : Src w S N) (k : Below w.heap.size w w') : Src w' S N :=
  h.keep (own := fun _ => False) (Keep.of_below k (Nat.le_refl _)) (fun h => h) (fun _ _ _ _ _ h => h)
theorem Src.up {w : World} {S : SrcId} {N M : Int} (h : Src w S N) (m : N ≤ M) : Src w S M := by obtain ⟨a, s, h, k⟩ := h; exact ⟨a, s, h, by omega⟩
theorem Src.lt {w : World} {S : SrcId} {N : Int} (h : Src w S N) : S.b < w.heap.size := by obtain ⟨a, s, h, k⟩ := h; exact h.lt

/-- What a draw gives: a value with P, and the source anew. -/
def Drawn (S : SrcId) (N : Int) (P : Value → World → Prop) (w : World) (e : Ending) (w' : World) : Prop :=
  ∃ v, e = .returned v ∧ P v w' ∧ Src w' S N ∧ Keep (· = S.b) w w'
/-- A number from 0 to m. -/
def Upto (m : Int) (v : Value) (_ : World) : Prop := ∃ n : Int, v = .int .i64 n ∧ 0 ≤ n ∧ n ≤ m

theorem src_byteN (S : SrcId) (N : Int) (w : World) (h : Src w S N) (hN : N < 100000000000) :
    Calls Tryd.prog 29 #[S.ptr] w (Drawn S (N + 1) (Upto 255) w) := by
  obtain ⟨a, s, h, k⟩ := h
  refine (src_byte S a s w h (by omega)).mono ?_
  rintro e w' ⟨n, s', rfl, h0, h1, h2, h3⟩
  exact ⟨_, rfl, ⟨n, rfl, h0, h1⟩, ⟨_, _, h2, by omega⟩, h3⟩

theorem src_next (S : SrcId) (N n : Int) (w : World) (h : Src w S N) (hN : N < 10000000000) (h1 : 1 ≤ n) (h2 : n ≤ 16777216) :
    Calls Tryd.prog 23 #[S.ptr, .int .i64 n] w (Drawn S (N + 3) (Upto (n - 1)) w) := by
  by_cases c1 : n ≤ 1
  · go_enter Tryd.func23, Tryd.ntmps23
    go_wp2
    go_ret
    exact ⟨_, rfl, ⟨_, rfl, by omega, by omega⟩, h.up (by omega), Keep.refl _ _⟩
  · by_cases c2 : n ≤ 256
    · go_enter Tryd.func23, Tryd.ntmps23
      go_wp2_with fail; refine (src_byteN S N w h (by omega)).mono ?_; rintro e w1 ⟨_, rfl, ⟨x, rfl, hx0, hx1⟩, hs1, hk1⟩
      go_wp2
      go_ret
      refine ⟨_, rfl, ⟨_, rfl, ?_, ?_⟩, hs1.up (by omega), hk1⟩
      · exact Int.emod_nonneg _ (by omega)
      · have := Int.emod_lt_of_pos x (show 0 < n by omega); omega
    · go_enter Tryd.func23, Tryd.ntmps23
      go_wp2_with fail; refine (src_byteN S N w h (by omega)).mono ?_; rintro e w1 ⟨_, rfl, ⟨x, rfl, hx0, hx1⟩, hs1, hk1⟩
      go_wp2_with fail; refine (src_byteN S _ w1 hs1 (by omega)).mono ?_; rintro e w2 ⟨_, rfl, ⟨y, rfl, hy0, hy1⟩, hs2, hk2⟩
      go_wp2_with fail; refine (src_byteN S _ w2 hs2 (by omega)).mono ?_; rintro e w3 ⟨_, rfl, ⟨z, rfl, hz0, hz1⟩, hs3, hk3⟩
      go_wp2
      go_ret
      refine ⟨_, rfl, ⟨_, rfl, ?_, ?_⟩, hs3.up (by omega), (hk1.trans hk2).trans hk3⟩
      · exact Int.emod_nonneg _ (by omega)
      · have := Int.emod_lt_of_pos (x * 65536 + y * 256 + z) (show 0 < n by omega); omega

/-- One of some texts. -/
def OneOf (l : List ByteArray) (v : Value) (_ : World) : Prop := ∃ t, v = .string t ∧ t ∈ l

theorem src_pick (S : SrcId) (N : Int) (v : Value) (l : List ByteArray) (w : World) (h : Src w S N) (hN : N < 10000000000) (hl : IsStrs w v l) (hne : l ≠ []) (hl2 : l.length ≤ 16777216) (hd : ∀ a n c, v = .slice (some a) n c → a.block ≠ S.b) :
    Calls Tryd.prog 24 #[S.ptr, v] w (Drawn S (N + 3) (OneOf l) w) := by
  obtain ⟨hm, a, c, rfl, hc⟩ := hl
  obtain ⟨bb, o, rfl, hb, hc⟩ := hc hne
  have hp : 0 < l.length := List.length_pos_iff.mpr hne
  have hdb : bb ≠ S.b := hd _ _ _ rfl
  have hz : ((l.length : Int) == 0) = false := by simp; omega
  unfold maxLen at hm
  clear hd hne
  have HC := Lib.hid hc
  clear hc
  go_enter Tryd.func24, Tryd.ntmps24
  go_wp2_with fail; refine (src_next S N l.length w h (by omega) (by omega) (by omega)).mono ?_; rintro e w1 ⟨_, rfl, ⟨x, rfl, hx0, hx1⟩, hs1, hk1⟩
  have hx2 : x < l.length := by omega
  have hcell : w1.cell? ⟨bb, o + x.toNat, none⟩ = some (.string (l[x.toNat]'(by omega))) := by
    rw [hk1.cell (p := ⟨bb, o + x.toNat, none⟩) hb hdb]
    exact HC.out _ _ (by rw [List.getElem?_eq_getElem])
  go_wp2
  go_ret
  exact ⟨_, rfl, ⟨_, rfl, List.getElem_mem _⟩, hs1, hk1⟩

end Go.Proofs.YtjfkhklbnjdbjaaDoor
