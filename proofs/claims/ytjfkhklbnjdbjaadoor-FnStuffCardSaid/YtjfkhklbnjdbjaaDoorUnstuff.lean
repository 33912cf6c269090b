/- DotUnstuff: the reference's walk and the program's. -/
import Derived.Test.YtjfkhklbnjdbjaaDoorUnstuffPure
import Derived.Test.YtjfkhklbnjdbjaaDoorBuilder
import Derived.Test.YtjfkhklbnjdbjaaDoorStrs
import Derived.Test.YtjfkhklbnjdbjaaDoorShelf
import Derived.WalkSpells
set_option linter.unusedVariables false
set_option linter.unusedSimpArgs false
set_option maxHeartbeats 8000000
set_option maxRecDepth 100000
namespace Go.Proofs.YtjfkhklbnjdbjaaDoor
open Go.RowKit

/-- What DotUnstuff answers. -/
def unsV (l : Bytes) : Bytes × Int := if 65536 < l.length then ([], 2) else unsS true false l []
/-- Was the byte ahead of a place a 13. -/
def pAt (l : Bytes) : Nat → Bool | 0 => false | k + 1 => l[k]? == some 13
theorem drop_at (l : Bytes) (k : Nat) (h : k < l.length) : l.drop k = l[k] :: l.drop (k + 1) := List.drop_eq_getElem_cons h
theorem uns_step {l o : Bytes} {k : Nat} {s : Bool} (h : k < l.length) (hs : (s && l[k] == 46) = false) : unsS s (pAt l k) (l.drop k) o = unsS (l[k] == 10 && pAt l k) (pAt l (k + 1)) (l.drop (k + 1)) (o ++ [l[k]]) := by
  have e : pAt l (k + 1) = (l[k] == 13) := by simp [pAt, List.getElem?_eq_getElem h]
  rw [drop_at l k h, unsS_go _ _ _ _ _ hs, e]
theorem uns_dots {l o : Bytes} {k : Nat} {p : Bool} (h : k + 1 < l.length) (h0 : l[k] = 46) (h1 : l[k + 1] = 46) : unsS true p (l.drop k) o = unsS false (pAt l (k + 2)) (l.drop (k + 2)) (o ++ [46]) := by
  have e : pAt l (k + 2) = false := by simp [pAt, List.getElem?_eq_getElem h, h1]
  rw [drop_at l k (by omega), drop_at l (k + 1) h, h0, h1, unsS_cons, e]
  simp
theorem uns_end {l o : Bytes} {k : Nat} {p : Bool} (h : l.drop k = [46, 13, 10]) : unsS true p (l.drop k) o = (o, 0) := by
  rw [h, unsS_cons]; simp
theorem uns_form {l o : Bytes} {k : Nat} {p : Bool} (h : k < l.length) (h0 : l[k] = 46) (h1 : ∀ h : k + 1 < l.length, l[k + 1] ≠ 46) (hne : l.drop k ≠ [46, 13, 10]) : unsS true p (l.drop k) o = ([], 3) := by
  have hd := drop_at l k h
  rw [h0] at hd
  rw [hd] at hne ⊢
  rw [unsS_cons]
  simp only [Bool.true_and, beq_self_eq_true, if_true]
  rw [if_neg hne]
  by_cases hk : k + 1 < l.length
  · rw [drop_at l (k + 1) hk]
    have := h1 hk
    have hb : (l[k + 1] == 46) = false := by simpa using this
    simp [hb]
  · rw [List.drop_of_length_le (by omega)]

theorem u8_ne {a : UInt8} {n : Nat} (h : a ≠ UInt8.ofNat n) (hn : n < 256 := by decide) : ¬ (a.toNat : Int) = n := by
  intro e
  apply h
  have : a.toNat = n := by omega
  rw [← this]; simp

theorem s_DotUnstuff (l : Bytes) (w : World) (hl : l.length ≤ 1048576) : Calls Tryd.prog 10 #[.string (bs l)] w (RetB (.tuple #[.string (bs (unsV l).1), .int .i64 (unsV l).2]) w) := by
  by_cases hlong : 65536 < l.length
  · have e : unsV l = ([], 2) := by rw [unsV, if_pos hlong]
    rw [e]
    go_enter Tryd.func10, Tryd.ntmps10
    go_wp2
    go_ret2
    exact retB rfl (by (repeat (first | exact Below.refl _ _ | (refine Below.alloc ?_ (by first | omega | (simp only [World.size_alloc, World.size_setCell, World.size_drew, size_drewN]; omega)) _) | (refine Below.setCell ?_ (by first | omega | (simp only [World.size_alloc, World.size_setCell, World.size_drew, size_drewN]; omega)) _) | refine Below.drew ?_ | refine below_drewN ?_ _ | (refine Below.trans ?_ (Below.mono (by assumption) (by first | omega | (simp only [World.size_alloc, World.size_setCell, World.size_drew, size_drewN]; omega)))))))
  · have e : unsV l = unsS true false l [] := by rw [unsV, if_neg hlong]
    rw [e]
    have HE := Lib.hid e
    clear e
    obtain ⟨i0, hi, hz0, hz1, hz2⟩ := info_parts info_u8
    go_enter Tryd.func10, Tryd.ntmps10
    go_wp2
    go_loopw [4, 5, 6] (fun v s i wr => ∃ (k : Nat) (st : Bool) (o : Bytes), i = .int .i64 k ∧ k ≤ l.length ∧ o.length ≤ k ∧ s = .bool st ∧ wr.ownsRow w.heap.size 5 1 v o.length ((ints o).map (Value.int .u8)) ∧ unsS st (pAt l k) (l.drop k) o = unsS true false l [] ∧ Below w.heap.size w wr) (fun _ _ i _ => l.length - (intOf i).toNat)
    case atStart => exact ⟨0, true, [], rfl, by omega, by simp, rfl, World.ownsRow_made w #[] 0 (Nat.le_refl _) (by decide) rfl, rfl, (Below.refl _ _).alloc (Nat.le_refl _) _⟩
    case round =>
      obtain ⟨k, st, o, rfl, hk, hok, rfl, hown, hrel, hbel⟩ := hrel
      have HR := Lib.hid hrel
      clear hrel
      have hzl := hbel.size
      by_cases hlt : k < l.length
      · cases st with
        | true =>
          by_cases h46 : l[k] = 46
          · have t46 : (((l[k]).toNat : Int) == 46) = true := by rw [h46]; rfl
            by_cases hend : l.drop k = [46, 13, 10]
            · have HV := Lib.hid (HR.out.symm.trans (uns_end hend))
              have hcv := conv_bytes (P := Tryd.prog) (IsBytes.of_own (zs := ints o) (by rw [ints_length]; exact hown) (ints_range o)).1 25 5 9 Tryd.underlying25 Tryd.underlying5 Tryd.underlying9
              rw [strOf_ints] at hcv
              clear HR
              go_wp2
              go_ret2
              exact retB (by rw [HV.out]; rfl) (by (repeat (first | exact Below.refl _ _ | (refine Below.alloc ?_ (by first | omega | (simp only [World.size_alloc, World.size_setCell, World.size_drew, size_drewN]; omega)) _) | (refine Below.setCell ?_ (by first | omega | (simp only [World.size_alloc, World.size_setCell, World.size_drew, size_drewN]; omega)) _) | refine Below.drew ?_ | refine below_drewN ?_ _ | (refine Below.trans ?_ (Below.mono (by assumption) (by first | omega | (simp only [World.size_alloc, World.size_setCell, World.size_drew, size_drewN]; omega)))))))
            · have hendB : (l.drop k == [46, 13, 10]) = false := by simpa using hend
              by_cases hk1 : k + 1 < l.length
              · have t1 : (((k : Int) + 1) == l.length) = false := by simp; omega
                by_cases h461 : l[k + 1] = 46
                · have t461 : (((l[k + 1]).toNat : Int) == 46) = true := by rw [h461]; rfl
                  have HS := Lib.hid (HR.out.symm.trans (uns_dots (o := o) hk1 h46 h461)).symm
                  clear HR
                  go_wp2_with (at_builtin; refine wpList_append_own _ rfl _ _ 25 rfl (w.heap.size) 5 i0 (.int .u8 0) 1 1 Tryd.underlying25 hi hz0 hz1 hz2 rfl (by decide) _ _ _ rfl (hown.alloc _) ⟨wr.heap.size, 0, none⟩ 1 1 [.int .u8 46] rfl rfl (one_new _ _ _) (one_int _ _) (by unfold maxLen; omega) (by omega) (by simp; omega) ?_)
                  intro v' w3 hown3 hgrow _
                  have hb3 : Below w.heap.size w w3 := (hbel.alloc (by omega) _).grown hgrow (by simp; omega) (fun g e => (hown.lt g e).1)
                  go_wp2
                  exact ⟨⟨k + 2, false, o ++ [46], int_eq (by omega), by omega, by simp; omega, rfl, by simpa [ints] using hown3, HS.out, hb3⟩, by simp [intOf]; omega⟩
                · have t461 : (((l[k + 1]).toNat : Int) == 46) = false := by simpa using u8_ne h461
                  have HV := Lib.hid (HR.out.symm.trans (uns_form (o := o) hlt h46 (fun _ => h461) hend))
                  clear HR
                  go_wp2
                  go_ret2
                  exact retB (by rw [HV.out]; rfl) (by (repeat (first | exact Below.refl _ _ | (refine Below.alloc ?_ (by first | omega | (simp only [World.size_alloc, World.size_setCell, World.size_drew, size_drewN]; omega)) _) | (refine Below.setCell ?_ (by first | omega | (simp only [World.size_alloc, World.size_setCell, World.size_drew, size_drewN]; omega)) _) | refine Below.drew ?_ | refine below_drewN ?_ _ | (refine Below.trans ?_ (Below.mono (by assumption) (by first | omega | (simp only [World.size_alloc, World.size_setCell, World.size_drew, size_drewN]; omega)))))))
              · have t1 : (((k : Int) + 1) == l.length) = true := by simp; omega
                have HV := Lib.hid (HR.out.symm.trans (uns_form (o := o) hlt h46 (fun h => absurd h hk1) hend))
                clear HR
                go_wp2
                go_ret2
                exact retB (by rw [HV.out]; rfl) (by (repeat (first | exact Below.refl _ _ | (refine Below.alloc ?_ (by first | omega | (simp only [World.size_alloc, World.size_setCell, World.size_drew, size_drewN]; omega)) _) | (refine Below.setCell ?_ (by first | omega | (simp only [World.size_alloc, World.size_setCell, World.size_drew, size_drewN]; omega)) _) | refine Below.drew ?_ | refine below_drewN ?_ _ | (refine Below.trans ?_ (Below.mono (by assumption) (by first | omega | (simp only [World.size_alloc, World.size_setCell, World.size_drew, size_drewN]; omega)))))))
          ·
            have t46 : (((l[k]).toNat : Int) == 46) = false := by simpa using u8_ne h46
            have HS := Lib.hid (HR.out.symm.trans (uns_step (o := o) (s := true) hlt (by simpa using h46))).symm
            clear HR
            have hc := (l[k]).toNat_lt
            by_cases h10 : l[k] = 10
            · have t10 : (((l[k]).toNat : Int) == 10) = true := by rw [h10]; rfl
              cases k with
              | zero =>
                have HX := Lib.hid h10
                clear h10
                go_wp2_with (at_builtin; refine wpList_append_own _ rfl _ _ 25 rfl (w.heap.size) 5 i0 (.int .u8 0) 1 1 Tryd.underlying25 hi hz0 hz1 hz2 rfl (by decide) _ _ _ rfl (hown.alloc _) ⟨wr.heap.size, 0, none⟩ 1 1 [.int .u8 (l[0]).toNat] rfl rfl (one_new _ _ _) (one_int _ _) (by unfold maxLen; omega) (by omega) (by simp; omega) ?_)
                intro v' w3 hown3 hgrow _
                have hb3 : Below w.heap.size w w3 := (hbel.alloc (by omega) _).grown hgrow (by simp; omega) (fun g e => (hown.lt g e).1)
                go_wp2
                exact ⟨⟨1, false, o ++ [l[0]], int_eq (by omega), by omega, by rw [List.length_append, List.length_singleton]; omega, rfl, by simpa [ints] using hown3, by rw [← HS.out, HX.out]; simp [pAt], hb3⟩, by simp [intOf]; omega⟩
              | succ k =>
                by_cases h13 : l[k] = 13
                · have t13 : (((l[k]).toNat : Int) == 13) = true := by rw [h13]; rfl
                  have hpa : pAt l (k + 1) = true := by simp [pAt, List.getElem?_eq_getElem (show k < l.length by omega), h13]
                  have HX := Lib.hid h10
                  have HP := Lib.hid hpa
                  clear h10 h13 hpa
                  go_wp2_with (at_builtin; refine wpList_append_own _ rfl _ _ 25 rfl (w.heap.size) 5 i0 (.int .u8 0) 1 1 Tryd.underlying25 hi hz0 hz1 hz2 rfl (by decide) _ _ _ rfl (hown.alloc _) ⟨wr.heap.size, 0, none⟩ 1 1 [.int .u8 (l[k + 1]).toNat] rfl rfl (one_new _ _ _) (one_int _ _) (by unfold maxLen; omega) (by omega) (by simp; omega) ?_)
                  intro v' w3 hown3 hgrow _
                  have hb3 : Below w.heap.size w w3 := (hbel.alloc (by omega) _).grown hgrow (by simp; omega) (fun g e => (hown.lt g e).1)
                  go_wp2
                  exact ⟨⟨k + 2, true, o ++ [l[k + 1]], int_eq (by omega), by omega, by simp; omega, rfl, by simpa [ints] using hown3, by rw [← HS.out, HX.out, HP.out]; simp, hb3⟩, by simp [intOf]; omega⟩
                · have t13 : (((l[k]).toNat : Int) == 13) = false := by simpa using u8_ne h13
                  have hpa : pAt l (k + 1) = false := by simp [pAt, List.getElem?_eq_getElem (show k < l.length by omega), h13]
                  have HP := Lib.hid hpa
                  clear h10 h13 hpa
                  go_wp2_with (at_builtin; refine wpList_append_own _ rfl _ _ 25 rfl (w.heap.size) 5 i0 (.int .u8 0) 1 1 Tryd.underlying25 hi hz0 hz1 hz2 rfl (by decide) _ _ _ rfl (hown.alloc _) ⟨wr.heap.size, 0, none⟩ 1 1 [.int .u8 (l[k + 1]).toNat] rfl rfl (one_new _ _ _) (one_int _ _) (by unfold maxLen; omega) (by omega) (by simp; omega) ?_)
                  intro v' w3 hown3 hgrow _
                  have hb3 : Below w.heap.size w w3 := (hbel.alloc (by omega) _).grown hgrow (by simp; omega) (fun g e => (hown.lt g e).1)
                  go_wp2
                  exact ⟨⟨k + 2, false, o ++ [l[k + 1]], int_eq (by omega), by omega, by simp; omega, rfl, by simpa [ints] using hown3, by rw [← HS.out, HP.out]; simp, hb3⟩, by simp [intOf]; omega⟩
            · have t10 : (((l[k]).toNat : Int) == 10) = false := by simpa using u8_ne h10
              have h10' : (l[k] == 10) = false := by simpa using h10
              have HX := Lib.hid h10'
              clear h10 h10'
              go_wp2_with (at_builtin; refine wpList_append_own _ rfl _ _ 25 rfl (w.heap.size) 5 i0 (.int .u8 0) 1 1 Tryd.underlying25 hi hz0 hz1 hz2 rfl (by decide) _ _ _ rfl (hown.alloc _) ⟨wr.heap.size, 0, none⟩ 1 1 [.int .u8 (l[k]).toNat] rfl rfl (one_new _ _ _) (one_int _ _) (by unfold maxLen; omega) (by omega) (by simp; omega) ?_)
              intro v' w3 hown3 hgrow _
              have hb3 : Below w.heap.size w w3 := (hbel.alloc (by omega) _).grown hgrow (by simp; omega) (fun g e => (hown.lt g e).1)
              go_wp2
              exact ⟨⟨k + 1, false, o ++ [l[k]], int_eq (by omega), by omega, by simp; omega, rfl, by simpa [ints] using hown3, by rw [← HS.out, HX.out]; simp, hb3⟩, by simp [intOf]; omega⟩
        | false =>
          ·
            have HS := Lib.hid (HR.out.symm.trans (uns_step (o := o) (s := false) hlt (by simp))).symm
            clear HR
            have hc := (l[k]).toNat_lt
            by_cases h10 : l[k] = 10
            · have t10 : (((l[k]).toNat : Int) == 10) = true := by rw [h10]; rfl
              cases k with
              | zero =>
                have HX := Lib.hid h10
                clear h10
                go_wp2_with (at_builtin; refine wpList_append_own _ rfl _ _ 25 rfl (w.heap.size) 5 i0 (.int .u8 0) 1 1 Tryd.underlying25 hi hz0 hz1 hz2 rfl (by decide) _ _ _ rfl (hown.alloc _) ⟨wr.heap.size, 0, none⟩ 1 1 [.int .u8 (l[0]).toNat] rfl rfl (one_new _ _ _) (one_int _ _) (by unfold maxLen; omega) (by omega) (by simp; omega) ?_)
                intro v' w3 hown3 hgrow _
                have hb3 : Below w.heap.size w w3 := (hbel.alloc (by omega) _).grown hgrow (by simp; omega) (fun g e => (hown.lt g e).1)
                go_wp2
                exact ⟨⟨1, false, o ++ [l[0]], int_eq (by omega), by omega, by rw [List.length_append, List.length_singleton]; omega, rfl, by simpa [ints] using hown3, by rw [← HS.out, HX.out]; simp [pAt], hb3⟩, by simp [intOf]; omega⟩
              | succ k =>
                by_cases h13 : l[k] = 13
                · have t13 : (((l[k]).toNat : Int) == 13) = true := by rw [h13]; rfl
                  have hpa : pAt l (k + 1) = true := by simp [pAt, List.getElem?_eq_getElem (show k < l.length by omega), h13]
                  have HX := Lib.hid h10
                  have HP := Lib.hid hpa
                  clear h10 h13 hpa
                  go_wp2_with (at_builtin; refine wpList_append_own _ rfl _ _ 25 rfl (w.heap.size) 5 i0 (.int .u8 0) 1 1 Tryd.underlying25 hi hz0 hz1 hz2 rfl (by decide) _ _ _ rfl (hown.alloc _) ⟨wr.heap.size, 0, none⟩ 1 1 [.int .u8 (l[k + 1]).toNat] rfl rfl (one_new _ _ _) (one_int _ _) (by unfold maxLen; omega) (by omega) (by simp; omega) ?_)
                  intro v' w3 hown3 hgrow _
                  have hb3 : Below w.heap.size w w3 := (hbel.alloc (by omega) _).grown hgrow (by simp; omega) (fun g e => (hown.lt g e).1)
                  go_wp2
                  exact ⟨⟨k + 2, true, o ++ [l[k + 1]], int_eq (by omega), by omega, by simp; omega, rfl, by simpa [ints] using hown3, by rw [← HS.out, HX.out, HP.out]; simp, hb3⟩, by simp [intOf]; omega⟩
                · have t13 : (((l[k]).toNat : Int) == 13) = false := by simpa using u8_ne h13
                  have hpa : pAt l (k + 1) = false := by simp [pAt, List.getElem?_eq_getElem (show k < l.length by omega), h13]
                  have HP := Lib.hid hpa
                  clear h10 h13 hpa
                  go_wp2_with (at_builtin; refine wpList_append_own _ rfl _ _ 25 rfl (w.heap.size) 5 i0 (.int .u8 0) 1 1 Tryd.underlying25 hi hz0 hz1 hz2 rfl (by decide) _ _ _ rfl (hown.alloc _) ⟨wr.heap.size, 0, none⟩ 1 1 [.int .u8 (l[k + 1]).toNat] rfl rfl (one_new _ _ _) (one_int _ _) (by unfold maxLen; omega) (by omega) (by simp; omega) ?_)
                  intro v' w3 hown3 hgrow _
                  have hb3 : Below w.heap.size w w3 := (hbel.alloc (by omega) _).grown hgrow (by simp; omega) (fun g e => (hown.lt g e).1)
                  go_wp2
                  exact ⟨⟨k + 2, false, o ++ [l[k + 1]], int_eq (by omega), by omega, by simp; omega, rfl, by simpa [ints] using hown3, by rw [← HS.out, HP.out]; simp, hb3⟩, by simp [intOf]; omega⟩
            · have t10 : (((l[k]).toNat : Int) == 10) = false := by simpa using u8_ne h10
              have h10' : (l[k] == 10) = false := by simpa using h10
              have HX := Lib.hid h10'
              clear h10 h10'
              go_wp2_with (at_builtin; refine wpList_append_own _ rfl _ _ 25 rfl (w.heap.size) 5 i0 (.int .u8 0) 1 1 Tryd.underlying25 hi hz0 hz1 hz2 rfl (by decide) _ _ _ rfl (hown.alloc _) ⟨wr.heap.size, 0, none⟩ 1 1 [.int .u8 (l[k]).toNat] rfl rfl (one_new _ _ _) (one_int _ _) (by unfold maxLen; omega) (by omega) (by simp; omega) ?_)
              intro v' w3 hown3 hgrow _
              have hb3 : Below w.heap.size w w3 := (hbel.alloc (by omega) _).grown hgrow (by simp; omega) (fun g e => (hown.lt g e).1)
              go_wp2
              exact ⟨⟨k + 1, false, o ++ [l[k]], int_eq (by omega), by omega, by simp; omega, rfl, by simpa [ints] using hown3, by rw [← HS.out, HX.out]; simp, hb3⟩, by simp [intOf]; omega⟩
      · obtain rfl : k = l.length := by omega
        have HV : Hid (unsS true false l [] = ([], 18)) := HR.out.symm.trans (by rw [List.drop_length, unsS_nil])
        clear HR
        go_wp2
        go_ret2
        exact retB (by rw [HV.out]; rfl) (by (repeat (first | exact Below.refl _ _ | (refine Below.alloc ?_ (by first | omega | (simp only [World.size_alloc, World.size_setCell, World.size_drew, size_drewN]; omega)) _) | (refine Below.setCell ?_ (by first | omega | (simp only [World.size_alloc, World.size_setCell, World.size_drew, size_drewN]; omega)) _) | refine Below.drew ?_ | refine below_drewN ?_ _ | (refine Below.trans ?_ (Below.mono (by assumption) (by first | omega | (simp only [World.size_alloc, World.size_setCell, World.size_drew, size_drewN]; omega)))))))

theorem str_Index_crlf (u : Bytes) (g : Int) (w : World) (hl : u.length < 4294967281) (hg : w.cell? ⟨0, 0, none⟩ = some (.int .i64 g)) :
    Calls Tryd.prog 19 #[.string (bs u), .string ⟨#[13, 10]⟩] w fun e w' => e = .returned (.int .i64 (Lib.index u [13, 10])) ∧ w' = w :=
  Tryd.strings_Index (bs u) ⟨#[13, 10]⟩ g w (by rw [bs_size]; exact hl) hg

theorem i_DotUnstuff (l : Bytes) (g : Int) (w : World) (hl : l.length ≤ 1048576) (hg : w.cell? ⟨0, 0, none⟩ = some (.int .i64 g)) : Calls Tryd.prog 8 #[.string (bs l)] w (RetB (.tuple #[.string (bs (unsV l).1), .int .i64 (unsV l).2]) w) := by
  by_cases hlong : 65536 < l.length
  · have e : unsV l = ([], 2) := by rw [unsV, if_pos hlong]
    rw [e]
    go_enter Tryd.func8, Tryd.ntmps8
    go_wp2
    go_ret2
    exact retB rfl (by (repeat (first | exact Below.refl _ _ | (refine Below.alloc ?_ (by first | omega | (simp only [World.size_alloc, World.size_setCell, World.size_drew, size_drewN]; omega)) _) | (refine Below.setCell ?_ (by first | omega | (simp only [World.size_alloc, World.size_setCell, World.size_drew, size_drewN]; omega)) _) | refine Below.drew ?_ | refine below_drewN ?_ _ | (refine Below.trans ?_ (Below.mono (by assumption) (by first | omega | (simp only [World.size_alloc, World.size_setCell, World.size_drew, size_drewN]; omega)))))))
  · have e : unsV l = unsI l [] := by rw [unsV, if_neg hlong, uns_same]
    rw [e]
    have HE := Lib.hid e
    clear e
    have hg0 := World.block_lt_of_cell? _ _ hg
    dsimp only at hg0
    go_enter Tryd.func8, Tryd.ntmps8
    go_wp2
    go_loopw [5] (fun r wr => ∃ (t o : Bytes), r = .string (bs t) ∧ t.length + o.length ≤ l.length ∧ IsBld w.heap.size w.heap.size o wr ∧ unsI t o = unsI l [] ∧ Below w.heap.size w wr) (fun r _ => match r with | .string s => s.size | _ => 0)
    case atStart => exact ⟨l, [], rfl, by simp, bld_new _ _ (Nat.le_refl _), rfl, (Below.refl _ _).alloc (Nat.le_refl _) _⟩
    case round =>
      obtain ⟨t, o, rfl, hlen, hbld, hrel, hbel⟩ := hrel
      have HR := Lib.hid hrel
      clear hrel
      have hzl := hbel.size
      by_cases hnil : t = []
      · subst hnil
        have HV : Hid (unsI l [] = ([], 18)) := HR.out.symm.trans (by rw [unsI, if_pos rfl])
        clear HR
        go_wp2
        go_ret2
        exact retB (by rw [HV.out]; rfl) (by (repeat (first | exact Below.refl _ _ | (refine Below.alloc ?_ (by first | omega | (simp only [World.size_alloc, World.size_setCell, World.size_drew, size_drewN]; omega)) _) | (refine Below.setCell ?_ (by first | omega | (simp only [World.size_alloc, World.size_setCell, World.size_drew, size_drewN]; omega)) _) | refine Below.drew ?_ | refine below_drewN ?_ _ | (refine Below.trans ?_ (Below.mono (by assumption) (by first | omega | (simp only [World.size_alloc, World.size_setCell, World.size_drew, size_drewN]; omega)))))))
      · have hne : (t == []) = false := by simpa using hnil
        by_cases hend : t = [46, 13, 10]
        · subst hend
          have HV : Hid (unsI l [] = (o, 0)) := HR.out.symm.trans (by rw [unsI, if_neg (by simp), if_pos rfl])
          clear HR
          go_wp2_with fail
          refine (Tryd.Builder_String_any w.heap.size w.heap.size o _ hbld hzl).mono ?_
          rintro e w1 ⟨rfl, hb1⟩
          have hB1 : Below w.heap.size w w1 := hbel.trans hb1
          go_wp2
          go_ret2
          exact retB (by rw [HV.out]; rfl) hB1
        · have hendB : (t == [46, 13, 10]) = false := by simpa using hend
          -- the line's text, without the point that was put ahead
          have line : ∀ (u : Bytes), u ≠ [] → u.length ≤ t.length → unsI t o = (if Lib.index u [13, 10] < 0 then ([], 18) else unsI (u.drop ((Lib.index u [13, 10]).toNat + 2)) (o ++ u.take ((Lib.index u [13, 10]).toNat + 2))) →
              (Lib.index u [13, 10] < 0 ∧ unsI l [] = ([], 18)) ∨ ∃ n : Nat, Lib.index u [13, 10] = n ∧ n + 2 ≤ u.length ∧ unsI (u.drop (n + 2)) (o ++ u.take (n + 2)) = unsI l [] := by
            intro u hu hlu he
            by_cases hn : Lib.index u [13, 10] < 0
            · rw [if_pos hn] at he
              exact .inl ⟨hn, HR.out.symm.trans he⟩
            · rw [if_neg hn] at he
              have := index_room [13, 10] u (by omega)
              exact .inr ⟨(Lib.index u [13, 10]).toNat, by omega, by simpa using this, he.symm.trans HR.out⟩
          have HL := Lib.hid line
          clear line
          cases hpre : ([46, 46] : Bytes).isPrefixOf t with
          | true =>
            have hu2 : 2 ≤ t.length := by rw [List.isPrefixOf_iff_prefix] at hpre; simpa using hpre.length_le
            have huI : unsI t o = (if Lib.index t.tail [13, 10] < 0 then ([], 18) else unsI (t.tail.drop ((Lib.index t.tail [13, 10]).toNat + 2)) (o ++ t.tail.take ((Lib.index t.tail [13, 10]).toNat + 2))) := by
              rw [unsI, if_neg hnil, if_neg hend, if_neg (by simp [hpre])]; simp only [hpre, if_true]
            have hd := HL.out t.tail (by intro e; have := congrArg List.length e; simp at this; omega) (by simp) huI
            obtain ⟨u, hu⟩ : ∃ u, t.tail = u := ⟨_, rfl⟩
            rw [hu] at hd
            have hul : u.length + 1 = t.length := by rw [← hu]; simp; omega
            have HD := Lib.hid hd
            clear HL huI hd HR
            go_wp2_with fail
            refine (str_HasPrefix t [46, 46] _ (by omega)).mono ?_
            rintro e w1 ⟨rfl, rfl⟩
            have hgw : wr.cell? ⟨0, 0, none⟩ = some (.int .i64 g) := by rw [hbel.cell (p := ⟨0, 0, none⟩) hg0]; exact hg
            have hI := str_Index_crlf u g wr (by omega) hgw
            rcases HD.out with ⟨hn, hv⟩ | ⟨n, hn, hn2, hv⟩
            · have hge := Lib.index_ge u [13, 10]
              have hm1 : Lib.index u [13, 10] = -1 := by omega
              rw [hm1] at hI
              have HV := Lib.hid hv
              clear HD hn hv hge hm1
              go_wp2_with (go_at_call 19; refine hI.mono ?_; rintro e w1 ⟨rfl, hw1⟩; obtain rfl : wr = w1 := hw1.symm)
              go_ret2
              exact retB (by rw [HV.out]; rfl) (by (repeat (first | exact Below.refl _ _ | (refine Below.alloc ?_ (by first | omega | (simp only [World.size_alloc, World.size_setCell, World.size_drew, size_drewN]; omega)) _) | (refine Below.setCell ?_ (by first | omega | (simp only [World.size_alloc, World.size_setCell, World.size_drew, size_drewN]; omega)) _) | refine Below.drew ?_ | refine below_drewN ?_ _ | (refine Below.trans ?_ (Below.mono (by assumption) (by first | omega | (simp only [World.size_alloc, World.size_setCell, World.size_drew, size_drewN]; omega)))))))
            · rw [hn] at hI
              have HV := Lib.hid hv
              clear HD hn hv
              have htl : (u.take (n + 2)).length = n + 2 := by rw [List.length_take]; omega
              have htk : (u.take u.length) = u := List.take_length
              have hn2' : (n : Int) + 2 ≤ u.length := by omega
              go_wp2_with (go_at_call 19; refine hI.mono ?_; rintro e w1 ⟨rfl, hw1⟩; obtain rfl : wr = w1 := hw1.symm)
              refine (bld_WriteString w.heap.size w.heap.size o (u.take (n + 2)) _ hbld (by rw [htl]; omega) hzl).mono ?_
              rintro e w2 ⟨rfl, hbld2, hb2⟩
              have hB2 : Below w.heap.size w w2 := hbel.trans hb2
              go_wp2
              exact ⟨⟨u.drop (n + 2), o ++ u.take (n + 2), rfl, by simp; omega, hbld2, HV.out, hB2⟩, by simp; omega⟩
          | false =>
            by_cases h46 : t.head? = some 46
            · have HV : Hid (unsI l [] = ([], 3)) := HR.out.symm.trans (by rw [unsI, if_neg hnil, if_neg hend, if_pos ⟨hpre, h46⟩])
              rcases t with _ | ⟨c, r⟩
              · cases h46
              · obtain rfl : c = 46 := by simpa using h46
                clear HL HR h46
                go_wp2_with fail
                refine (str_HasPrefix (46 :: r) [46, 46] _ (by omega)).mono ?_
                rintro e w1 ⟨rfl, rfl⟩
                go_wp2
                go_ret2
                exact retB (by rw [HV.out]; rfl) (by (repeat (first | exact Below.refl _ _ | (refine Below.alloc ?_ (by first | omega | (simp only [World.size_alloc, World.size_setCell, World.size_drew, size_drewN]; omega)) _) | (refine Below.setCell ?_ (by first | omega | (simp only [World.size_alloc, World.size_setCell, World.size_drew, size_drewN]; omega)) _) | refine Below.drew ?_ | refine below_drewN ?_ _ | (refine Below.trans ?_ (Below.mono (by assumption) (by first | omega | (simp only [World.size_alloc, World.size_setCell, World.size_drew, size_drewN]; omega)))))))
            · have huI : unsI t o = (if Lib.index t [13, 10] < 0 then ([], 18) else unsI (t.drop ((Lib.index t [13, 10]).toNat + 2)) (o ++ t.take ((Lib.index t [13, 10]).toNat + 2))) := by
                rw [unsI, if_neg hnil, if_neg hend, if_neg (by intro h; exact h46 h.2)]; simp only [hpre, Bool.false_eq_true, if_false]
              have hd := HL.out t hnil (Nat.le_refl _) huI
              have HD := Lib.hid hd
              have hpos : 0 < t.length := List.length_pos_iff.mpr hnil
              have h46' : (((t[0]).toNat : Int) == 46) = false := by
                have : t[0] ≠ 46 := fun e => h46 (by rw [List.head?_eq_getElem?, List.getElem?_eq_getElem hpos, e])
                simpa using u8_ne this
              clear HL huI hd HR h46
              go_wp2_with fail
              refine (str_HasPrefix t [46, 46] _ (by omega)).mono ?_
              rintro e w1 ⟨rfl, rfl⟩
              have hgw : wr.cell? ⟨0, 0, none⟩ = some (.int .i64 g) := by rw [hbel.cell (p := ⟨0, 0, none⟩) hg0]; exact hg
              have hI := str_Index_crlf t g wr (by omega) hgw
              rcases HD.out with ⟨hn, hv⟩ | ⟨n, hn, hn2, hv⟩
              · have hge := Lib.index_ge t [13, 10]
                have hm1 : Lib.index t [13, 10] = -1 := by omega
                rw [hm1] at hI
                have HV := Lib.hid hv
                clear HD hn hv hge hm1
                go_wp2_with (go_at_call 19; refine hI.mono ?_; rintro e w1 ⟨rfl, hw1⟩; obtain rfl : wr = w1 := hw1.symm)
                go_ret2
                exact retB (by rw [HV.out]; rfl) (by (repeat (first | exact Below.refl _ _ | (refine Below.alloc ?_ (by first | omega | (simp only [World.size_alloc, World.size_setCell, World.size_drew, size_drewN]; omega)) _) | (refine Below.setCell ?_ (by first | omega | (simp only [World.size_alloc, World.size_setCell, World.size_drew, size_drewN]; omega)) _) | refine Below.drew ?_ | refine below_drewN ?_ _ | (refine Below.trans ?_ (Below.mono (by assumption) (by first | omega | (simp only [World.size_alloc, World.size_setCell, World.size_drew, size_drewN]; omega)))))))
              · rw [hn] at hI
                have HV := Lib.hid hv
                clear HD hn hv
                have htl : (t.take (n + 2)).length = n + 2 := by rw [List.length_take]; omega
                have htk : (t.take t.length) = t := List.take_length
                have hn2' : (n : Int) + 2 ≤ t.length := by omega
                go_wp2_with (go_at_call 19; refine hI.mono ?_; rintro e w1 ⟨rfl, hw1⟩; obtain rfl : wr = w1 := hw1.symm)
                refine (bld_WriteString w.heap.size w.heap.size o (t.take (n + 2)) _ hbld (by rw [htl]; omega) hzl).mono ?_
                rintro e w2 ⟨rfl, hbld2, hb2⟩
                have hB2 : Below w.heap.size w w2 := hbel.trans hb2
                go_wp2
                exact ⟨⟨t.drop (n + 2), o ++ t.take (n + 2), rfl, by simp; omega, hbld2, HV.out, hB2⟩, by simp; omega⟩

end Go.Proofs.YtjfkhklbnjdbjaaDoor
