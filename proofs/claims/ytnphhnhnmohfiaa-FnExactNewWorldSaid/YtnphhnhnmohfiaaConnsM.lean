/- Four connections: marked, held. -/
import Derived.Test.YtnphhnhnmohfiaaConns
set_option linter.unusedVariables false
set_option linter.unusedSimpArgs false
set_option maxHeartbeats 8000000
set_option maxRecDepth 100000
namespace Go.Proofs.Ytnphhnhnmohfiaa
open Go.RowKit

theorem l_markIntS_nil (k : Int) (w : World) : Calls Try.prog 43 #[nilV, .int .i64 k] w fun e w' => e = .returned (.int .i64 k) ∧ w = w' := by
  go_enter Try.func43, Try.ntmps43
  go_wp2
  go_loopw [1, 5] (fun m i wr => m = .int .i64 k ∧ i = .int .i64 0 ∧ w = wr) (fun _ _ _ => 0)
  case atStart => exact ⟨rfl, rfl, rfl⟩
  case round =>
    obtain ⟨rfl, rfl, rfl⟩ := hrel
    go_wp2
    all_goals (go_ret; exact ⟨rfl, rfl⟩)
theorem l_heldIntS_nil (k : Int) (w : World) : Calls Try.prog 45 #[nilV, .int .i64 k] w fun e w' => e = .returned (.int .i64 k) ∧ w = w' := by
  go_enter Try.func45, Try.ntmps45
  go_wp2
  go_loopw [1, 5] (fun m i wr => m = .int .i64 k ∧ i = .int .i64 0 ∧ w = wr) (fun _ _ _ => 0)
  case atStart => exact ⟨rfl, rfl, rfl⟩
  case round =>
    obtain ⟨rfl, rfl, rfl⟩ := hrel
    go_wp2
    all_goals (go_ret; exact ⟨rfl, rfl⟩)

theorem Cells.keep {own : Nat → Prop} {w w' : World} {b : Nat} {g : Nat → Value} (h : Cells w b g) (k : Keep own w w') (ho : ¬ own b) : Cells w' b g :=
  ⟨Nat.lt_of_lt_of_le h.lt k.size, fun o h2 => (k.cell (p := ⟨b, o, none⟩) h.lt ho).trans (h.cell o h2), fun o => (k.frozen (p := ⟨b, o, none⟩) h.lt ho).trans (h.fz o)⟩

theorem l_markConnS (b c : Nat) (w : World) (h : Cells w b (markF 0)) : Calls Try.prog 20 #[.slice (some ⟨b, 0, none⟩) 4 c, .int .i64 1] w fun e w' => e = .returned (.int .i64 33) ∧ Cells w' b (markF 4) ∧ Keep (· = b) w w' := by
  go_enter Try.func20, Try.ntmps20
  go_wp2
  go_loopw [1, 5] (fun m i wr => ∃ k : Nat, k ≤ 4 ∧ i = .int .i64 k ∧ m = .int .i64 (1 + 8 * k) ∧ Cells wr b (markF k) ∧ Keep (· = b) w wr) (fun _ i _ => 4 - (intOf i).toNat)
  case atStart => exact ⟨0, by omega, rfl, rfl, h, Keep.refl _ _⟩
  case round =>
    obtain ⟨k, hk, rfl, rfl, hC, hK⟩ := hrel
    by_cases hlt : k < 4
    · have F := Lib.hid hC.fz
      have f0 := hC.fz
      have hC' := Lib.hid hC
      have hb := hC.lt
      obtain ⟨z0, z1, z2, z3, z4, z5, z6, z7, z8⟩ := hC.nine k hlt
      clear h hC
      go_wp2_with fail
      refine (l_markText _ _ (by omega) (by omega)).mono ?_
      rintro e w1 ⟨rfl, hb1⟩
      have C1 := Lib.hid ((hC'.out.set (k * 9) (by omega) _).below hb1)
      have K1 : Keep (· = b) w w1 := (hK.setCell (.inl rfl) _).trans (Keep.of_below hb1 (Nat.le_refl _))
      have g0 := C1.out.lt
      have g1 := C1.out.fz
      have g2 := C1.out.cell (k * 9 + 1) (by omega)
      have g3 := C1.out.cell (k * 9 + 2) (by omega)
      clear z0 z1 z2 z3 z4 z5 z6 z7 z8 F f0 hC' hb1 hb hK
      go_wp2_with fail
      refine (l_markText _ _ (by omega) (by omega)).mono ?_
      rintro e w2 ⟨rfl, hb2⟩
      have C2 := Lib.hid (((C1.out.set (k * 9 + 1) (by omega) _).set (k * 9 + 2) (by omega) _).below hb2)
      have K2 : Keep (· = b) w w2 := ((K1.setCell (.inl rfl) _).setCell (.inl rfl) _).trans (Keep.of_below hb2 (Nat.le_refl _))
      clear g0 g1 g2 g3 hb2 C1 K1
      have g0 := C2.out.lt
      have g1 := C2.out.fz
      have g2 := C2.out.cell (k * 9 + 3) (by omega)
      have g3 := C2.out.cell (k * 9 + 4) (by omega)
      have g4 : w2.cell? ⟨b, k * 9 + 5, none⟩ = some nilV := (C2.out.cell (k * 9 + 5) (by omega)).trans (by
        rw [if_neg (by omega), if_neg (by omega), if_neg (by omega), markF_old (Nat.le_refl k) 5 (by omega)]; rfl)
      go_wp2_with fail
      refine (l_markIntS_nil _ _).mono ?_
      rintro e w3 ⟨rfl, rfl⟩
      go_wp2_with fail
      refine (l_markText _ _ (by omega) (by omega)).mono ?_
      rintro e w4 ⟨rfl, hb4⟩
      have C4 := Lib.hid (((C2.out.set (k * 9 + 3) (by omega) _).set (k * 9 + 4) (by omega) _).below hb4)
      have K4 : Keep (· = b) w w4 := ((K2.setCell (.inl rfl) _).setCell (.inl rfl) _).trans (Keep.of_below hb4 (Nat.le_refl _))
      clear g0 g1 g2 g3 g4 hb4 C2 K2
      have g0 := C4.out.lt
      have g1 := C4.out.fz
      have g2 := C4.out.cell (k * 9 + 6) (by omega)
      have g3 := C4.out.cell (k * 9 + 7) (by omega)
      have g4 := C4.out.cell (k * 9 + 8) (by omega)
      go_wp2
      have C5 := (((C4.out.set (k * 9 + 6) (by omega) (.string (mkT (1 + 8 * (k : Int) + 1 + 1 + 1 + 1 + 1)))).set (k * 9 + 7) (by omega) (.int .i64 (1 + 8 * (k : Int) + 1 + 1 + 1 + 1 + 1 + 1))).set (k * 9 + 8) (by omega) (.bool ((1 + 8 * (k : Int) + 1 + 1 + 1 + 1 + 1 + 1 + 1) % 3 == 0)))
      refine ⟨⟨k + 1, by omega, int_eq (by omega), int_eq (by omega), C5.congr ?_, (((K4.setCell (.inl rfl) _).setCell (.inl rfl) _).setCell (.inl rfl) _)⟩, by simp [intOf]; omega⟩
      intro o ho
      by_cases e : o / 9 = k
      · have h2 : o = k * 9 + 0 ∨ o = k * 9 + 1 ∨ o = k * 9 + 2 ∨ o = k * 9 + 3 ∨ o = k * 9 + 4 ∨ o = k * 9 + 5 ∨ o = k * 9 + 6 ∨ o = k * 9 + 7 ∨ o = k * 9 + 8 := by omega
        rcases h2 with rfl | rfl | rfl | rfl | rfl | rfl | rfl | rfl | rfl <;> rw [markF_new (Nat.lt_succ_self k) _ (by omega)] <;> simp [connC, markF_old]
        all_goals first | rfl | omega | exact congrArg mkT (by omega) | exact congrArg (fun x : Int => (x % 3 == 0)) (by omega)
      · repeat rw [if_neg (by omega)]
        rw [markF, markF]
        by_cases e2 : o / 9 < k
        · rw [if_pos e2, if_pos (by omega)]
        · rw [if_neg e2, if_neg (by omega)]
    · obtain rfl : k = 4 := by omega
      go_wp2
      go_ret
      exact ⟨rfl, hC, hK⟩

theorem mark_nine {w : World} {b : Nat} (h : Cells w b (markF 4)) (k : Nat) (hk : k < 4) : w.cell? ⟨b, k * 9, none⟩ = some (.int .i64 (1 + 8 * (k : Int))) ∧ w.cell? ⟨b, k * 9 + 1, none⟩ = some (.string (mkT (1 + 8 * (k : Int) + 1))) ∧ w.cell? ⟨b, k * 9 + 2, none⟩ = some (.int .i64 (1 + 8 * (k : Int) + 1 + 1)) ∧ w.cell? ⟨b, k * 9 + 3, none⟩ = some (.string (mkT (1 + 8 * (k : Int) + 1 + 1 + 1))) ∧ w.cell? ⟨b, k * 9 + 4, none⟩ = some (.bool ((1 + 8 * (k : Int) + 1 + 1 + 1 + 1) % 3 == 0)) ∧ w.cell? ⟨b, k * 9 + 5, none⟩ = some nilV ∧ w.cell? ⟨b, k * 9 + 6, none⟩ = some (.string (mkT (1 + 8 * (k : Int) + 1 + 1 + 1 + 1 + 1))) ∧ w.cell? ⟨b, k * 9 + 7, none⟩ = some (.int .i64 (1 + 8 * (k : Int) + 1 + 1 + 1 + 1 + 1 + 1)) ∧ w.cell? ⟨b, k * 9 + 8, none⟩ = some (.bool ((1 + 8 * (k : Int) + 1 + 1 + 1 + 1 + 1 + 1 + 1) % 3 == 0)) := by
  have := h.nine k hk
  rw [markF_new hk 1 (by omega), markF_new hk 2 (by omega), markF_new hk 3 (by omega), markF_new hk 4 (by omega), markF_new hk 5 (by omega), markF_new hk 6 (by omega), markF_new hk 7 (by omega), markF_new hk 8 (by omega), show markF 4 (k * 9) = connC (1 + 8 * (k : Nat)) 0 from markF_new hk 0 (by omega)] at this
  exact this

theorem l_heldConnS (b c : Nat) (w : World) (h : Cells w b (markF 4)) : Calls Try.prog 22 #[.slice (some ⟨b, 0, none⟩) 4 c, .int .i64 1] w (RetB (.int .i64 33) w) := by
  have H := Lib.hid h
  clear h
  go_enter Try.func22, Try.ntmps22
  go_wp2
  go_loopw [1, 5] (fun m i wr => ∃ k : Nat, k ≤ 4 ∧ i = .int .i64 k ∧ m = .int .i64 (1 + 8 * k) ∧ Below w.heap.size w wr) (fun _ i _ => 4 - (intOf i).toNat)
  case atStart => exact ⟨0, by omega, rfl, rfl, by (repeat (first | exact Below.refl _ _ | (refine Below.alloc ?_ (by first | omega | (simp only [World.size_alloc, World.size_setCell, World.size_drew, size_drewN]; omega)) _) | (refine Below.setCell ?_ (by first | omega | (simp only [World.size_alloc, World.size_setCell, World.size_drew, size_drewN]; omega)) _) | refine Below.drew ?_ | refine below_drewN ?_ _ | (refine Below.trans ?_ (Below.mono (by assumption) (by first | omega | (simp only [World.size_alloc, World.size_setCell, World.size_drew, size_drewN]; omega))))))⟩
  case round =>
    obtain ⟨k, hk, rfl, rfl, hb⟩ := hrel
    have hsz := hb.size
    by_cases hlt : k < 4
    · have C0 := Lib.hid (H.out.below hb)
      obtain ⟨z0, z1, z2, z3, z4, z5, z6, z7, z8⟩ := mark_nine C0.out k hlt
      have hbl0 := C0.out.lt
      clear H
      go_wp2
      go_region_with (go_at_call 42; refine (l_markText _ _ (by omega) (by omega)).mono ?_; rintro e w1 ⟨rfl, hb1⟩; have q1 : w1.cell? ⟨b, k * 9 + 1, none⟩ = _ := (hb1.cell (p := ⟨b, k * 9 + 1, none⟩) (hbl0)).trans z1)
      all_goals
        have B1 : Below wr.heap.size wr w1 := ⟨hb1.os, hb1.tape, hb1.output, hb1.size, hb1.block⟩
        have C1 := Lib.hid (C0.out.below B1)
        have T1 : Below w.heap.size w w1 := Below.trans hb (Below.mono B1 hsz)
        clear hb1 B1 C0 z0 z1 z2 z3 z4 z5 z6 z7 z8 hbl0 hb q1
        have hbl1 := C1.out.lt
        obtain ⟨z0, z1, z2, z3, z4, z5, z6, z7, z8⟩ := mark_nine C1.out k hlt
        go_wp2
        go_region_with (go_at_call 42; refine (l_markText _ _ (by omega) (by omega)).mono ?_; rintro e w2 ⟨rfl, hb2⟩; have q2 : w2.cell? ⟨b, k * 9 + 3, none⟩ = _ := (hb2.cell (p := ⟨b, k * 9 + 3, none⟩) (hbl1)).trans z3)
        all_goals
          have B2 : Below w1.heap.size w1 w2 := ⟨hb2.os, hb2.tape, hb2.output, hb2.size, hb2.block⟩
          have C2 := Lib.hid (C1.out.below B2)
          have T2 : Below w.heap.size w w2 := Below.trans T1 (Below.mono B2 T1.size)
          clear hb2 B2 C1 z0 z1 z2 z3 z4 z5 z6 z7 z8 hbl1 T1 q2
          have hbl2 := C2.out.lt
          obtain ⟨z0, z1, z2, z3, z4, z5, z6, z7, z8⟩ := mark_nine C2.out k hlt
          go_wp2_with fail
          refine (l_heldIntS_nil _ _).mono ?_
          rintro e w3 ⟨rfl, rfl⟩
          go_wp2
          go_region_with (go_at_call 42; refine (l_markText _ _ (by omega) (by omega)).mono ?_; rintro e w4 ⟨rfl, hb4⟩; have q4 : w4.cell? ⟨b, k * 9 + 6, none⟩ = _ := (hb4.cell (p := ⟨b, k * 9 + 6, none⟩) (hbl2)).trans z6)
          all_goals
            have B4 : Below w2.heap.size w2 w4 := ⟨hb4.os, hb4.tape, hb4.output, hb4.size, hb4.block⟩
            have C4 := Lib.hid (C2.out.below B4)
            have T4 : Below w.heap.size w w4 := Below.trans T2 (Below.mono B4 T2.size)
            clear hb4 B4 C2 z0 z1 z2 z3 z4 z5 z6 z7 z8 hbl2 T2 q4
            have hbl4 := C4.out.lt
            obtain ⟨z0, z1, z2, z3, z4, z5, z6, z7, z8⟩ := mark_nine C4.out k hlt
            go_wp2
            exact ⟨⟨k + 1, by omega, int_eq (by omega), int_eq (by omega), T4⟩, by simp [intOf]; omega⟩
    · obtain rfl : k = 4 := by omega
      go_wp2
      go_ret
      exact retB rfl (by (repeat (first | exact Below.refl _ _ | (refine Below.alloc ?_ (by first | omega | (simp only [World.size_alloc, World.size_setCell, World.size_drew, size_drewN]; omega)) _) | (refine Below.setCell ?_ (by first | omega | (simp only [World.size_alloc, World.size_setCell, World.size_drew, size_drewN]; omega)) _) | refine Below.drew ?_ | refine below_drewN ?_ _ | (refine Below.trans ?_ (Below.mono (by assumption) (by first | omega | (simp only [World.size_alloc, World.size_setCell, World.size_drew, size_drewN]; omega)))))))
end Go.Proofs.Ytnphhnhnmohfiaa
