/- DotStuff: the reference's walk and the program's. -/
import Derived.Test.YtjfkhklbnjdbjaaDoorStuffPure
import Derived.Test.YtjfkhklbnjdbjaaDoorUnstuff
set_option linter.unusedVariables false
set_option linter.unusedSimpArgs false
set_option maxHeartbeats 8000000
set_option maxRecDepth 100000
namespace Go.Proofs.YtjfkhklbnjdbjaaDoor
open Go.RowKit

theorem stuff_step {l o : Bytes} {k : Nat} {s : Bool} (h : k < l.length) (hs : (s && l[k] == 46) = false) : o ++ stuffS s (pAt l k) (l.drop k) = (o ++ [l[k]]) ++ stuffS (l[k] == 10 && pAt l k) (pAt l (k + 1)) (l.drop (k + 1)) := by
  have e : pAt l (k + 1) = (l[k] == 13) := by simp [pAt, List.getElem?_eq_getElem h]
  rw [drop_at l k h, stuffS, hs, e]; simp
theorem stuff_dot {l o : Bytes} {k : Nat} {p : Bool} (h : k < l.length) (h0 : l[k] = 46) : o ++ stuffS true p (l.drop k) = (o ++ [46] ++ [46]) ++ stuffS false (pAt l (k + 1)) (l.drop (k + 1)) := by
  have e : pAt l (k + 1) = false := by simp [pAt, List.getElem?_eq_getElem h, h0]
  rw [drop_at l k h, stuffS, h0, e]; simp

theorem s_l14Stuff (l : Bytes) (w : World) (hl : l.length ≤ 32765) : Calls Tryd.prog 12 #[.string (bs l)] w (RetB (.string (bs (stuffL l))) w) := by
  obtain ⟨i0, hi, hz0, hz1, hz2⟩ := info_parts info_u8
  have hs46 := Lib.strCells_length ⟨#[46, 13, 10]⟩
  go_enter Tryd.func12, Tryd.ntmps12
  go_wp2
  go_loopw [3, 4, 5] (fun v s i wr => ∃ (k : Nat) (st : Bool) (o : Bytes), i = .int .i64 k ∧ k ≤ l.length ∧ o.length ≤ 2 * k ∧ s = .bool st ∧ wr.ownsRow w.heap.size 5 1 v o.length ((ints o).map (Value.int .u8)) ∧ o ++ stuffS st (pAt l k) (l.drop k) = stuffS true false l ∧ Below w.heap.size w wr) (fun _ _ i _ => l.length - (intOf i).toNat)
  case atStart => exact ⟨0, true, [], rfl, by omega, by simp, rfl, World.ownsRow_made w #[] 0 (Nat.le_refl _) (by decide) rfl, rfl, (Below.refl _ _).alloc (Nat.le_refl _) _⟩
  case round =>
    obtain ⟨k, st, o, rfl, hk, hok, rfl, hown, hrel, hbel⟩ := hrel
    have HR := Lib.hid hrel
    clear hrel
    have hzl := hbel.size
    by_cases hlt : k < l.length
    · cases st with
      | true =>
        by_cases h46 : l[k] = 46
        · have t46 : (((l[k]).toNat : Int) == 46) = true := by rw [h46]; rfl
          have HS := Lib.hid ((stuff_dot (o := o) (p := pAt l k) hlt h46).symm.trans HR.out)
          clear HR
          go_wp2_with (at_builtin; refine wpList_append_own _ rfl _ _ 25 rfl (w.heap.size) 5 i0 (.int .u8 0) 1 1 Tryd.underlying25 hi hz0 hz1 hz2 rfl (by decide) _ _ _ rfl (hown.alloc _) ⟨wr.heap.size, 0, none⟩ 1 1 [.int .u8 46] rfl rfl (one_new _ _ _) (one_int _ _) (by unfold maxLen; omega) (by omega) (by simp; omega) ?_)
          intro v' w3 hown3 hgrow _
          have hb3 : Below w.heap.size w w3 := (hbel.alloc (by omega) _).grown hgrow (by simp; omega) (fun g e => (hown.lt g e).1)
          have hz3 := hb3.size
          clear hgrow hown
          go_wp2_with (at_builtin; refine wpList_append_own _ rfl _ _ 25 rfl (w.heap.size) 5 i0 (.int .u8 0) 1 1 Tryd.underlying25 hi hz0 hz1 hz2 rfl (by decide) _ _ _ rfl (hown3.alloc _) ⟨w3.heap.size, 0, none⟩ 1 1 [.int .u8 46] rfl rfl (one_new _ _ _) (one_int _ _) (by unfold maxLen; omega) (by omega) (by simp; omega) ?_)
          intro v'' w4 hown4 hgrow _
          have hb4 : Below w.heap.size w w4 := (hb3.alloc (by omega) _).grown hgrow (by simp; omega) (fun g e => (hown3.lt g e).1)
          go_wp2
          exact ⟨⟨k + 1, false, o ++ [46] ++ [46], int_eq (by omega), by omega, by simp; omega, rfl, by simpa [ints] using hown4, HS.out, hb4⟩, by simp [intOf]; omega⟩
        · have t46 : (((l[k]).toNat : Int) == 46) = false := by simpa using u8_ne h46
          have HS := Lib.hid ((stuff_step (o := o) (s := true) hlt (by simpa using h46)).symm.trans HR.out)
          clear HR
          have hc := (l[k]).toNat_lt
          by_cases h10 : l[k] = 10
          · have t10 : (((l[k]).toNat : Int) == 10) = true := by rw [h10]; rfl
            cases k with
            | zero =>
              have HX := Lib.hid h10
              clear h10
              go_wp2_with (at_builtin; refine wpList_append_own _ rfl _ _ 25 rfl (w.heap.size) 5 i0 (.int .u8 0) 1 1 Tryd.underlying25 hi hz0 hz1 hz2 rfl (by decide) _ _ _ rfl (hown.alloc _) ⟨wr.heap.size, 0, none⟩ 1 1 [.int .u8 (l[0]).toNat] rfl rfl (one_new _ _ _) (one_int _ _) (by unfold maxLen; omega) (by omega) (by simp; omega) ?_)
              intro v' w3 hown3 hgrow _
              have hb3 : Below w.heap.size w w3 := (hbel.alloc (by omega) _).grown hgrow (by simp; omega) (fun g e => (hown.lt g e).1)
              go_wp2
              exact ⟨⟨1, false, o ++ [l[0]], int_eq (by omega), by omega, by rw [List.length_append, List.length_singleton]; omega, rfl, by simpa [ints] using hown3, by rw [← HS.out, HX.out]; simp [pAt], hb3⟩, by simp [intOf]; omega⟩
            | succ k =>
              by_cases h13 : l[k] = 13
              · have t13 : (((l[k]).toNat : Int) == 13) = true := by rw [h13]; rfl
                have hpa : pAt l (k + 1) = true := by simp [pAt, List.getElem?_eq_getElem (show k < l.length by omega), h13]
                have HX := Lib.hid h10
                have HP := Lib.hid hpa
                clear h10 h13 hpa
                go_wp2_with (at_builtin; refine wpList_append_own _ rfl _ _ 25 rfl (w.heap.size) 5 i0 (.int .u8 0) 1 1 Tryd.underlying25 hi hz0 hz1 hz2 rfl (by decide) _ _ _ rfl (hown.alloc _) ⟨wr.heap.size, 0, none⟩ 1 1 [.int .u8 (l[k + 1]).toNat] rfl rfl (one_new _ _ _) (one_int _ _) (by unfold maxLen; omega) (by omega) (by simp; omega) ?_)
                intro v' w3 hown3 hgrow _
                have hb3 : Below w.heap.size w w3 := (hbel.alloc (by omega) _).grown hgrow (by simp; omega) (fun g e => (hown.lt g e).1)
                go_wp2
                exact ⟨⟨k + 2, true, o ++ [l[k + 1]], int_eq (by omega), by omega, by rw [List.length_append, List.length_singleton]; omega, rfl, by simpa [ints] using hown3, by rw [← HS.out, HX.out, HP.out]; simp, hb3⟩, by simp [intOf]; omega⟩
              · have t13 : (((l[k]).toNat : Int) == 13) = false := by simpa using u8_ne h13
                have hpa : pAt l (k + 1) = false := by simp [pAt, List.getElem?_eq_getElem (show k < l.length by omega), h13]
                have HP := Lib.hid hpa
                clear h10 h13 hpa
                go_wp2_with (at_builtin; refine wpList_append_own _ rfl _ _ 25 rfl (w.heap.size) 5 i0 (.int .u8 0) 1 1 Tryd.underlying25 hi hz0 hz1 hz2 rfl (by decide) _ _ _ rfl (hown.alloc _) ⟨wr.heap.size, 0, none⟩ 1 1 [.int .u8 (l[k + 1]).toNat] rfl rfl (one_new _ _ _) (one_int _ _) (by unfold maxLen; omega) (by omega) (by simp; omega) ?_)
                intro v' w3 hown3 hgrow _
                have hb3 : Below w.heap.size w w3 := (hbel.alloc (by omega) _).grown hgrow (by simp; omega) (fun g e => (hown.lt g e).1)
                go_wp2
                exact ⟨⟨k + 2, false, o ++ [l[k + 1]], int_eq (by omega), by omega, by rw [List.length_append, List.length_singleton]; omega, rfl, by simpa [ints] using hown3, by rw [← HS.out, HP.out]; simp, hb3⟩, by simp [intOf]; omega⟩
          · have t10 : (((l[k]).toNat : Int) == 10) = false := by simpa using u8_ne h10
            have h10' : (l[k] == 10) = false := by simpa using h10
            have HX := Lib.hid h10'
            clear h10 h10'
            go_wp2_with (at_builtin; refine wpList_append_own _ rfl _ _ 25 rfl (w.heap.size) 5 i0 (.int .u8 0) 1 1 Tryd.underlying25 hi hz0 hz1 hz2 rfl (by decide) _ _ _ rfl (hown.alloc _) ⟨wr.heap.size, 0, none⟩ 1 1 [.int .u8 (l[k]).toNat] rfl rfl (one_new _ _ _) (one_int _ _) (by unfold maxLen; omega) (by omega) (by simp; omega) ?_)
            intro v' w3 hown3 hgrow _
            have hb3 : Below w.heap.size w w3 := (hbel.alloc (by omega) _).grown hgrow (by simp; omega) (fun g e => (hown.lt g e).1)
            go_wp2
            exact ⟨⟨k + 1, false, o ++ [l[k]], int_eq (by omega), by omega, by rw [List.length_append, List.length_singleton]; omega, rfl, by simpa [ints] using hown3, by rw [← HS.out, HX.out]; simp, hb3⟩, by simp [intOf]; omega⟩
      | false =>
        · have HS := Lib.hid ((stuff_step (o := o) (s := false) hlt (by simp)).symm.trans HR.out)
          clear HR
          have hc := (l[k]).toNat_lt
          by_cases h10 : l[k] = 10
          · have t10 : (((l[k]).toNat : Int) == 10) = true := by rw [h10]; rfl
            cases k with
            | zero =>
              have HX := Lib.hid h10
              clear h10
              go_wp2_with (at_builtin; refine wpList_append_own _ rfl _ _ 25 rfl (w.heap.size) 5 i0 (.int .u8 0) 1 1 Tryd.underlying25 hi hz0 hz1 hz2 rfl (by decide) _ _ _ rfl (hown.alloc _) ⟨wr.heap.size, 0, none⟩ 1 1 [.int .u8 (l[0]).toNat] rfl rfl (one_new _ _ _) (one_int _ _) (by unfold maxLen; omega) (by omega) (by simp; omega) ?_)
              intro v' w3 hown3 hgrow _
              have hb3 : Below w.heap.size w w3 := (hbel.alloc (by omega) _).grown hgrow (by simp; omega) (fun g e => (hown.lt g e).1)
              go_wp2
              exact ⟨⟨1, false, o ++ [l[0]], int_eq (by omega), by omega, by rw [List.length_append, List.length_singleton]; omega, rfl, by simpa [ints] using hown3, by rw [← HS.out, HX.out]; simp [pAt], hb3⟩, by simp [intOf]; omega⟩
            | succ k =>
              by_cases h13 : l[k] = 13
              · have t13 : (((l[k]).toNat : Int) == 13) = true := by rw [h13]; rfl
                have hpa : pAt l (k + 1) = true := by simp [pAt, List.getElem?_eq_getElem (show k < l.length by omega), h13]
                have HX := Lib.hid h10
                have HP := Lib.hid hpa
                clear h10 h13 hpa
                go_wp2_with (at_builtin; refine wpList_append_own _ rfl _ _ 25 rfl (w.heap.size) 5 i0 (.int .u8 0) 1 1 Tryd.underlying25 hi hz0 hz1 hz2 rfl (by decide) _ _ _ rfl (hown.alloc _) ⟨wr.heap.size, 0, none⟩ 1 1 [.int .u8 (l[k + 1]).toNat] rfl rfl (one_new _ _ _) (one_int _ _) (by unfold maxLen; omega) (by omega) (by simp; omega) ?_)
                intro v' w3 hown3 hgrow _
                have hb3 : Below w.heap.size w w3 := (hbel.alloc (by omega) _).grown hgrow (by simp; omega) (fun g e => (hown.lt g e).1)
                go_wp2
                exact ⟨⟨k + 2, true, o ++ [l[k + 1]], int_eq (by omega), by omega, by rw [List.length_append, List.length_singleton]; omega, rfl, by simpa [ints] using hown3, by rw [← HS.out, HX.out, HP.out]; simp, hb3⟩, by simp [intOf]; omega⟩
              · have t13 : (((l[k]).toNat : Int) == 13) = false := by simpa using u8_ne h13
                have hpa : pAt l (k + 1) = false := by simp [pAt, List.getElem?_eq_getElem (show k < l.length by omega), h13]
                have HP := Lib.hid hpa
                clear h10 h13 hpa
                go_wp2_with (at_builtin; refine wpList_append_own _ rfl _ _ 25 rfl (w.heap.size) 5 i0 (.int .u8 0) 1 1 Tryd.underlying25 hi hz0 hz1 hz2 rfl (by decide) _ _ _ rfl (hown.alloc _) ⟨wr.heap.size, 0, none⟩ 1 1 [.int .u8 (l[k + 1]).toNat] rfl rfl (one_new _ _ _) (one_int _ _) (by unfold maxLen; omega) (by omega) (by simp; omega) ?_)
                intro v' w3 hown3 hgrow _
                have hb3 : Below w.heap.size w w3 := (hbel.alloc (by omega) _).grown hgrow (by simp; omega) (fun g e => (hown.lt g e).1)
                go_wp2
                exact ⟨⟨k + 2, false, o ++ [l[k + 1]], int_eq (by omega), by omega, by rw [List.length_append, List.length_singleton]; omega, rfl, by simpa [ints] using hown3, by rw [← HS.out, HP.out]; simp, hb3⟩, by simp [intOf]; omega⟩
          · have t10 : (((l[k]).toNat : Int) == 10) = false := by simpa using u8_ne h10
            have h10' : (l[k] == 10) = false := by simpa using h10
            have HX := Lib.hid h10'
            clear h10 h10'
            go_wp2_with (at_builtin; refine wpList_append_own _ rfl _ _ 25 rfl (w.heap.size) 5 i0 (.int .u8 0) 1 1 Tryd.underlying25 hi hz0 hz1 hz2 rfl (by decide) _ _ _ rfl (hown.alloc _) ⟨wr.heap.size, 0, none⟩ 1 1 [.int .u8 (l[k]).toNat] rfl rfl (one_new _ _ _) (one_int _ _) (by unfold maxLen; omega) (by omega) (by simp; omega) ?_)
            intro v' w3 hown3 hgrow _
            have hb3 : Below w.heap.size w w3 := (hbel.alloc (by omega) _).grown hgrow (by simp; omega) (fun g e => (hown.lt g e).1)
            go_wp2
            exact ⟨⟨k + 1, false, o ++ [l[k]], int_eq (by omega), by omega, by rw [List.length_append, List.length_singleton]; omega, rfl, by simpa [ints] using hown3, by rw [← HS.out, HX.out]; simp, hb3⟩, by simp [intOf]; omega⟩
    · obtain rfl : k = l.length := by omega
      have HV : Hid (o = stuffS true false l) := Lib.hid (by have := HR.out; rw [List.drop_length] at this; simpa [stuffS] using this)
      have hlo : (Lib.byteCells o).length = o.length := byteCells_length o
      have hcells : (ints o).map (Value.int .u8) = Lib.byteCells o := by simp [ints, Lib.byteCells]
      rw [hcells] at hown
      clear HR hcells
      go_wp2_with (at_builtin; refine Lib.wpList_append_own_string _ rfl _ _ 25 9 rfl w.heap.size 5 i0 Tryd.underlying25 Tryd.underlying9 hi hz0 hz1 hz2 _ _ _ rfl hown ⟨#[46, 13, 10]⟩ rfl ?c3 ?c4 ?c5 ?_)
      case c3 => simp [ByteArray.size]; unfold maxLen; omega
      case c4 => simp [ByteArray.size]; omega
      case c5 => omega
      intro v' w3 hown3 hgrow _
      have hb3 : Below w.heap.size w w3 := hbel.grown hgrow (by omega) (fun g e => (hown.lt g e).1)
      have e : Lib.byteCells o ++ Lib.strCells ⟨#[46, 13, 10]⟩ = (ints (o ++ [46, 13, 10])).map (Value.int .u8) := by
        have := strCells_bs [46, 13, 10]
        rw [show (⟨#[46, 13, 10]⟩ : ByteArray) = bs [46, 13, 10] from rfl, this, ← byteCells_append]
        simp [ints, Lib.byteCells]
      rw [e] at hown3
      have hcv := conv_bytes (P := Tryd.prog) (IsBytes.of_own (zs := ints (o ++ [46, 13, 10])) (by rw [ints_length]; simpa [ByteArray.size] using hown3) (ints_range _)).1 25 5 9 Tryd.underlying25 Tryd.underlying5 Tryd.underlying9
      rw [strOf_ints] at hcv
      clear e hgrow hown
      go_wp2
      go_ret
      exact retB (str_eq (by rw [stuffL, ← HV.out])) hb3

theorem lines_short {t : Bytes} (h : t ≠ []) (h2 : t.length < 2) : linesL t = false := by
  have e : t.isEmpty = false := by simpa using h
  have hs : ([13, 10] : Bytes).isSuffixOf t = false := by
    rw [← Bool.not_eq_true, List.isSuffixOf_iff_suffix]; intro hs; have := hs.length_le; simp at this; omega
  rw [linesL, e, hs]; rfl
theorem lines_long {t : Bytes} (h2 : 2 ≤ t.length) : linesL t = (t.drop (t.length - 2) == [13, 10]) := by
  have e : t.isEmpty = false := by rw [List.isEmpty_eq_false_iff]; intro e; rw [e] at h2; simp at h2
  rw [linesL, e, Bool.false_or, Bool.eq_iff_iff, beq_iff_eq, List.isSuffixOf_iff_suffix, List.suffix_iff_eq_drop]
  exact ⟨fun h => h.symm, fun h => h.symm⟩

theorem s_l14Lines (t : Bytes) (w : World) (ht : t.length ≤ 1048576) : Calls Tryd.prog 11 #[.string (bs t)] w fun e w' => e = .returned (.bool (linesL t)) ∧ w = w' := by
  by_cases hn : t = []
  · subst hn
    go_enter Tryd.func11, Tryd.ntmps11
    go_wp2
    go_ret
    exact ⟨rfl, rfl⟩
  · have hne : (t == []) = false := by simpa using hn
    by_cases h2 : t.length < 2
    · have hd : decide ((2 : Int) ≤ t.length) = false := by simp; omega
      have e := lines_short hn h2
      go_enter Tryd.func11, Tryd.ntmps11
      go_wp2
      go_ret
      exact ⟨ret_b (by rw [e]), rfl⟩
    · have hd : decide ((2 : Int) ≤ t.length) = true := by simp; omega
      have e := Lib.hid (lines_long (t := t) (by omega))
      have hb1 : (0 : Int) ≤ (t.length : Int) - 2 := by omega
      go_enter Tryd.func11, Tryd.ntmps11
      go_wp2
      go_ret
      refine ⟨ret_b ?_, rfl⟩
      rw [e.out]

theorem s_DotStuff (t : Bytes) (w : World) (ht : t.length ≤ 1048576) : Calls Tryd.prog 5 #[.string (bs t)] w (RetB (.tuple #[.string (bs (stuffV t).1), .int .i64 (stuffV t).2]) w) := by
  by_cases hl : 32765 < t.length
  · have e : stuffV t = ([], 2) := by rw [stuffV, if_pos hl]
    rw [e]
    go_enter Tryd.func5, Tryd.ntmps5
    go_wp2
    go_ret2
    exact retB rfl (by (repeat (first | exact Below.refl _ _ | (refine Below.alloc ?_ (by first | omega | (simp only [World.size_alloc, World.size_setCell, World.size_drew, size_drewN]; omega)) _) | (refine Below.setCell ?_ (by first | omega | (simp only [World.size_alloc, World.size_setCell, World.size_drew, size_drewN]; omega)) _) | refine Below.drew ?_ | refine below_drewN ?_ _ | (refine Below.trans ?_ (Below.mono (by assumption) (by first | omega | (simp only [World.size_alloc, World.size_setCell, World.size_drew, size_drewN]; omega)))))))
  · cases hL : linesL t with
    | false =>
      have e : stuffV t = ([], 3) := by rw [stuffV, if_neg hl, hL]; rfl
      rw [e]
      go_enter Tryd.func5, Tryd.ntmps5
      go_wp2_with fail; refine (s_l14Lines t _ ht).mono ?_; rintro e w' ⟨rfl, rfl⟩
      go_wp2
      go_ret2
      exact retB rfl (by (repeat (first | exact Below.refl _ _ | (refine Below.alloc ?_ (by first | omega | (simp only [World.size_alloc, World.size_setCell, World.size_drew, size_drewN]; omega)) _) | (refine Below.setCell ?_ (by first | omega | (simp only [World.size_alloc, World.size_setCell, World.size_drew, size_drewN]; omega)) _) | refine Below.drew ?_ | refine below_drewN ?_ _ | (refine Below.trans ?_ (Below.mono (by assumption) (by first | omega | (simp only [World.size_alloc, World.size_setCell, World.size_drew, size_drewN]; omega)))))))
    | true =>
      have e : stuffV t = (stuffL t, 0) := by rw [stuffV, if_neg hl, hL]; rfl
      rw [e]
      go_enter Tryd.func5, Tryd.ntmps5
      go_wp2_with fail; refine (s_l14Lines t _ ht).mono ?_; rintro e w' ⟨rfl, rfl⟩
      go_wp2_with fail
      refine (s_l14Stuff t _ (by omega)).mono ?_
      rintro e w1 ⟨rfl, hb1⟩
      go_wp2
      go_ret2
      exact retB rfl (by (repeat (first | exact Below.refl _ _ | (refine Below.alloc ?_ (by first | omega | (simp only [World.size_alloc, World.size_setCell, World.size_drew, size_drewN]; omega)) _) | (refine Below.setCell ?_ (by first | omega | (simp only [World.size_alloc, World.size_setCell, World.size_drew, size_drewN]; omega)) _) | refine Below.drew ?_ | refine below_drewN ?_ _ | (refine Below.trans ?_ (Below.mono (by assumption) (by first | omega | (simp only [World.size_alloc, World.size_setCell, World.size_drew, size_drewN]; omega)))))))

theorem repl_length (t : Bytes) : (repl t).length ≤ 2 * t.length := by rw [← stuffS_repl]; exact (stuffS_length t false false).2

theorem i_stuff (t : Bytes) (g : Int) (w : World) (ht : t.length ≤ 32765) (hg : w.cell? ⟨0, 0, none⟩ = some (.int .i64 g)) : Calls Tryd.prog 14 #[.string (bs t)] w (RetB (.string (bs (stuffL t))) w) := by
  have hR : Calls Tryd.prog 22 #[.string (bs t), .string ⟨#[13, 10, 46]⟩, .string ⟨#[13, 10, 46, 46]⟩] w fun e w' => e = .returned (.string (bs (repl t))) ∧ Below w.heap.size w w' := by
    have hcnt := Lib.countB_mul_le ⟨#[13, 10, 46]⟩ (by decide) _ (bs t) (Nat.le_refl _)
    refine (Tryd.strings_ReplaceAll (bs t) ⟨#[13, 10, 46]⟩ ⟨#[13, 10, 46, 46]⟩ g w (by rw [bs_size]; omega) hg (by decide) ?_).mono ?_
    · rw [bs_size] at hcnt ⊢
      have e3 : (⟨#[13, 10, 46]⟩ : ByteArray).size = 3 := rfl
      have e4 : (⟨#[13, 10, 46, 46]⟩ : ByteArray).size = 4 := rfl
      rw [e3] at hcnt
      rw [e4]
      omega
    · rintro e w' ⟨rfl, hb⟩
      exact ⟨by rw [← replaceAll_repl]; rfl, hb⟩
  have hrl := repl_length t
  cases hp : ([46] : Bytes).isPrefixOf t with
  | true =>
    have hh : t.head? = some 46 := by rw [List.isPrefixOf_iff_prefix] at hp; obtain ⟨r, rfl⟩ := hp; rfl
    have e : stuffL t = [46] ++ repl t ++ [46] ++ [13, 10] := by rw [stuffL_repl, if_pos hh]; simp
    have hs1 : ¬ 9223372036854775807 < 1 + (repl t).length := by omega
    have hs2 : ¬ 9223372036854775807 < (repl t).length + 1 + 1 := by omega
    rw [e]
    clear e hh
    go_enter Tryd.func14, Tryd.ntmps14
    go_wp2_with fail
    refine hR.mono ?_
    rintro e w1 ⟨rfl, hb1⟩
    go_wp2_with fail
    refine (str_HasPrefix t [46] _ (by omega)).mono ?_
    rintro e w2 ⟨rfl, rfl⟩
    go_wp2
    go_ret
    exact retB (str_eq (by show bs [46] ++ bs (repl t) ++ bs [46] ++ bs [13, 10] = _; simp [bs_append])) hb1
  | false =>
    have hh : ¬ t.head? = some 46 := by
      intro h
      rcases t with _ | ⟨c, r⟩
      · cases h
      · obtain rfl : c = 46 := by simpa using h
        simp [List.isPrefixOf] at hp
    have e : stuffL t = repl t ++ [46] ++ [13, 10] := by rw [stuffL_repl, if_neg hh]; simp
    have hs1 : ¬ 9223372036854775807 < (repl t).length + 1 := by omega
    have hs2 : ¬ 9223372036854775807 < (repl t).length + 1 + 1 := by omega
    rw [e]
    clear e hh
    go_enter Tryd.func14, Tryd.ntmps14
    go_wp2_with fail
    refine hR.mono ?_
    rintro e w1 ⟨rfl, hb1⟩
    go_wp2_with fail
    refine (str_HasPrefix t [46] _ (by omega)).mono ?_
    rintro e w2 ⟨rfl, rfl⟩
    go_wp2
    go_ret
    exact retB (str_eq (by show bs (repl t) ++ bs [46] ++ bs [13, 10] = _; simp [bs_append])) hb1

theorem i_DotStuff (t : Bytes) (g : Int) (w : World) (ht : t.length ≤ 1048576) (hg : w.cell? ⟨0, 0, none⟩ = some (.int .i64 g)) : Calls Tryd.prog 6 #[.string (bs t)] w (RetB (.tuple #[.string (bs (stuffV t).1), .int .i64 (stuffV t).2]) w) := by
  by_cases hl : 32765 < t.length
  · have e : stuffV t = ([], 2) := by rw [stuffV, if_pos hl]
    rw [e]
    go_enter Tryd.func6, Tryd.ntmps6
    go_wp2
    go_ret2
    exact retB rfl (by (repeat (first | exact Below.refl _ _ | (refine Below.alloc ?_ (by first | omega | (simp only [World.size_alloc, World.size_setCell, World.size_drew, size_drewN]; omega)) _) | (refine Below.setCell ?_ (by first | omega | (simp only [World.size_alloc, World.size_setCell, World.size_drew, size_drewN]; omega)) _) | refine Below.drew ?_ | refine below_drewN ?_ _ | (refine Below.trans ?_ (Below.mono (by assumption) (by first | omega | (simp only [World.size_alloc, World.size_setCell, World.size_drew, size_drewN]; omega)))))))
  · have hS := i_stuff t g w (by omega) hg
    by_cases hn : t = []
    · have e : stuffV t = (stuffL t, 0) := by rw [stuffV, if_neg hl, hn]; rfl
      rw [e]
      subst hn
      go_enter Tryd.func6, Tryd.ntmps6
      go_wp2_with fail
      refine hS.mono ?_
      rintro e w1 ⟨rfl, hb1⟩
      go_wp2
      go_ret2
      exact retB rfl hb1
    · have hne : (t == []) = false := by simpa using hn
      have hemp : t.isEmpty = false := by simpa using hn
      have hsf : Calls Tryd.prog 13 #[.string (bs t), .string ⟨#[13, 10]⟩] w fun e w' => e = .returned (.bool (([13, 10] : Bytes).isSuffixOf t)) ∧ w' = w := Tryd.strings_HasSuffix (bs t) ⟨#[13, 10]⟩ w (by rw [bs_size]; omega)
      cases hsuf : ([13, 10] : Bytes).isSuffixOf t with
      | false =>
        have e : stuffV t = ([], 3) := by rw [stuffV, if_neg hl, linesL, hemp, hsuf]; rfl
        rw [e]
        rw [hsuf] at hsf
        go_enter Tryd.func6, Tryd.ntmps6
        go_wp2_with (go_at_call 13; refine hsf.mono ?_; rintro e w1 ⟨rfl, hw1⟩; obtain rfl : w = w1 := hw1.symm)
        go_ret2
        exact retB rfl (by (repeat (first | exact Below.refl _ _ | (refine Below.alloc ?_ (by first | omega | (simp only [World.size_alloc, World.size_setCell, World.size_drew, size_drewN]; omega)) _) | (refine Below.setCell ?_ (by first | omega | (simp only [World.size_alloc, World.size_setCell, World.size_drew, size_drewN]; omega)) _) | refine Below.drew ?_ | refine below_drewN ?_ _ | (refine Below.trans ?_ (Below.mono (by assumption) (by first | omega | (simp only [World.size_alloc, World.size_setCell, World.size_drew, size_drewN]; omega)))))))
      | true =>
        have e : stuffV t = (stuffL t, 0) := by rw [stuffV, if_neg hl, linesL, hemp, hsuf]; rfl
        rw [e]
        rw [hsuf] at hsf
        go_enter Tryd.func6, Tryd.ntmps6
        go_wp2_with (go_at_call 13; refine hsf.mono ?_; rintro e w1 ⟨rfl, hw1⟩; obtain rfl : w = w1 := hw1.symm)
        refine hS.mono ?_
        rintro e w1 ⟨rfl, hb1⟩
        go_wp2
        go_ret2
        exact retB rfl hb1

end Go.Proofs.YtjfkhklbnjdbjaaDoor
