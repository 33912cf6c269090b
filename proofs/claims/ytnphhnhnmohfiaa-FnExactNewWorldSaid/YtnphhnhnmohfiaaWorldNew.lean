/- New worlds: made, alike, marked, held. -/
import Derived.Test.YtnphhnhnmohfiaaConnsM
set_option linter.unusedVariables false
set_option linter.unusedSimpArgs false
set_option maxHeartbeats 8000000
set_option maxRecDepth 100000
namespace Go.Proofs.Ytnphhnhnmohfiaa
open Go.RowKit

/-- A world's value: its log's room, its boxes, its connections. -/
abbrev worldV (r : Int) (x c : Value) : Value := .agg #[.int .i64 r, .string noS, .int .i64 0, x, c]
abbrev engV (r : Int) (x : Value) : Value := .agg #[.int .i64 r, .string noS, .int .i64 0, x]

theorem make_conns (w : World) : (Instr.makeSlice 27 (.int .i64 4) (.int .i64 4)).run Try.prog w = .ok (.slice (some ⟨w.heap.size, 0, none⟩) 4 4) (w.alloc (.cells zeros 75)) := by kernel_rfl

theorem Cells.made_at (w : World) (e : TypeId) (b : Nat) (hb : b = w.heap.size) : Cells (w.alloc (.cells zeros e)) b (markF 0) := by subst hb; exact Cells.made w e

theorem s_l15New (r : Int) (w : World) : Calls Try.prog 16 #[.int .i64 r] w fun e w' => ∃ a b, e = .returned (worldV r (.slice a 0 0) (.slice (some ⟨b, 0, none⟩) 4 4)) ∧ w.heap.size ≤ b ∧ Cells w' b (markF 0) ∧ Below w.heap.size w w' := by
  have hmk := make_conns
  go_enter Try.func16, Try.ntmps16
  go_wp2
  refine bodyPost_ret (v := .agg #[_, _, _, _, _]) (by simp [results, Try.results16, go_sem, *] <;> (repeat' (first | exact rfl | apply And.intro))) rfl ⟨_, w.heap.size + 1 + 1, rfl, by omega, Cells.made_at _ _ _ (by simp only [World.size_alloc]), by (repeat (first | exact Below.refl _ _ | (refine Below.alloc ?_ (by first | omega | (simp only [World.size_alloc, World.size_setCell, World.size_drew, size_drewN]; omega)) _) | (refine Below.setCell ?_ (by first | omega | (simp only [World.size_alloc, World.size_setCell, World.size_drew, size_drewN]; omega)) _) | refine Below.drew ?_ | refine below_drewN ?_ _ | (refine Below.trans ?_ (Below.mono (by assumption) (by first | omega | (simp only [World.size_alloc, World.size_setCell, World.size_drew, size_drewN]; omega))))))⟩
theorem i_NewLog_no (r : Int) (w : World) (h : inB r 0 60000 = false) : Calls Try.prog 39 #[.int .i64 r] w (RetB (.tuple #[logV 0 noS 0, .int .i64 4]) w) := by
  go_enter Try.func39, Try.ntmps39
  go_wp2_with fail
  refine (i_in _ _ _ _).mono ?_
  rintro e w1 ⟨rfl, rfl⟩
  rw [h]
  go_wp2
  refine bodyPost_ret (v := .tuple #[.agg #[_, _, _], _]) (by simp [results, Try.results39, go_sem, *] <;> (repeat' (first | exact rfl | apply And.intro))) rfl (retB ?_ (by (repeat (first | exact Below.refl _ _ | (refine Below.alloc ?_ (by first | omega | (simp only [World.size_alloc, World.size_setCell, World.size_drew, size_drewN]; omega)) _) | (refine Below.setCell ?_ (by first | omega | (simp only [World.size_alloc, World.size_setCell, World.size_drew, size_drewN]; omega)) _) | refine Below.drew ?_ | refine below_drewN ?_ _ | (refine Below.trans ?_ (Below.mono (by assumption) (by first | omega | (simp only [World.size_alloc, World.size_setCell, World.size_drew, size_drewN]; omega))))))))
  rfl
theorem i_NewLog_ok (r : Int) (w : World) (h : inB r 0 60000 = true) : Calls Try.prog 39 #[.int .i64 r] w (RetB (.tuple #[logV r noS 0, .int .i64 0]) w) := by
  go_enter Try.func39, Try.ntmps39
  go_wp2_with fail
  refine (i_in _ _ _ _).mono ?_
  rintro e w1 ⟨rfl, rfl⟩
  rw [h]
  go_wp2
  refine bodyPost_ret (v := .tuple #[.agg #[_, _, _], _]) (by simp [results, Try.results39, go_sem, *] <;> (repeat' (first | exact rfl | apply And.intro))) rfl (retB ?_ (by (repeat (first | exact Below.refl _ _ | (refine Below.alloc ?_ (by first | omega | (simp only [World.size_alloc, World.size_setCell, World.size_drew, size_drewN]; omega)) _) | (refine Below.setCell ?_ (by first | omega | (simp only [World.size_alloc, World.size_setCell, World.size_drew, size_drewN]; omega)) _) | refine Below.drew ?_ | refine below_drewN ?_ _ | (refine Below.trans ?_ (Below.mono (by assumption) (by first | omega | (simp only [World.size_alloc, World.size_setCell, World.size_drew, size_drewN]; omega))))))))
  rfl
theorem i_NewEngine_no (r : Int) (w : World) (h : inB r 0 60000 = false) : Calls Try.prog 17 #[.int .i64 r] w (RetB (.tuple #[engV 0 nilV, .int .i64 4]) w) := by
  go_enter Try.func17, Try.ntmps17
  go_wp2_with fail; refine (i_NewLog_no _ _ h).mono ?_; rintro e w1 ⟨rfl, hb1⟩; have hz1 := hb1.size; (try simp only [World.size_alloc, World.size_setCell, World.size_drew, size_drewN] at hz1); (try (have hq1_1 := fun o => hb1.cell (p := ⟨w.heap.size, o, none⟩) (by first | omega | (simp only [World.size_alloc, World.size_setCell, World.size_drew, size_drewN]; omega)); have hr1_1 := fun o => hb1.frozen (p := ⟨w.heap.size, o, none⟩) (by first | omega | (simp only [World.size_alloc, World.size_setCell, World.size_drew, size_drewN]; omega)))); (try (have hl1_1 : w.heap.size < w1.heap.size := (by omega); have hm1_1 : w.heap.size ≤ w1.heap.size := (by omega); have hn1_1 : ¬ w.heap.size = w1.heap.size := (by omega); have ho1_1 : ¬ w1.heap.size = w.heap.size := (by omega))); (try (have hq1_2 := fun o => hb1.cell (p := ⟨w.heap.size + 1, o, none⟩) (by first | omega | (simp only [World.size_alloc, World.size_setCell, World.size_drew, size_drewN]; omega)); have hr1_2 := fun o => hb1.frozen (p := ⟨w.heap.size + 1, o, none⟩) (by first | omega | (simp only [World.size_alloc, World.size_setCell, World.size_drew, size_drewN]; omega)))); (try (have hl1_2 : w.heap.size + 1 < w1.heap.size := (by omega); have hm1_2 : w.heap.size + 1 ≤ w1.heap.size := (by omega); have hn1_2 : ¬ w.heap.size + 1 = w1.heap.size := (by omega); have ho1_2 : ¬ w1.heap.size = w.heap.size + 1 := (by omega))); (try (have hq1_3 := fun o => hb1.cell (p := ⟨w.heap.size + 1 + 1, o, none⟩) (by first | omega | (simp only [World.size_alloc, World.size_setCell, World.size_drew, size_drewN]; omega)); have hr1_3 := fun o => hb1.frozen (p := ⟨w.heap.size + 1 + 1, o, none⟩) (by first | omega | (simp only [World.size_alloc, World.size_setCell, World.size_drew, size_drewN]; omega)))); (try (have hl1_3 : w.heap.size + 1 + 1 < w1.heap.size := (by omega); have hm1_3 : w.heap.size + 1 + 1 ≤ w1.heap.size := (by omega); have hn1_3 : ¬ w.heap.size + 1 + 1 = w1.heap.size := (by omega); have ho1_3 : ¬ w1.heap.size = w.heap.size + 1 + 1 := (by omega))); have hB1 : Below w.heap.size w w1 := (by (repeat (first | exact Below.refl _ _ | (refine Below.alloc ?_ (by first | omega | (simp only [World.size_alloc, World.size_setCell, World.size_drew, size_drewN]; omega)) _) | (refine Below.setCell ?_ (by first | omega | (simp only [World.size_alloc, World.size_setCell, World.size_drew, size_drewN]; omega)) _) | refine Below.drew ?_ | refine below_drewN ?_ _ | (refine Below.trans ?_ (Below.mono (by assumption) (by first | omega | (simp only [World.size_alloc, World.size_setCell, World.size_drew, size_drewN]; omega))))))); have hC1 := (bcell hB1).1; have hF1 := (bcell hB1).2
  go_wp2
  refine bodyPost_ret (v := .tuple #[.agg #[_, _, _, _], _]) (by simp [results, Try.results17, go_sem, *] <;> (repeat' (first | exact rfl | apply And.intro))) rfl (retB ?_ (by (repeat (first | exact Below.refl _ _ | (refine Below.alloc ?_ (by first | omega | (simp only [World.size_alloc, World.size_setCell, World.size_drew, size_drewN]; omega)) _) | (refine Below.setCell ?_ (by first | omega | (simp only [World.size_alloc, World.size_setCell, World.size_drew, size_drewN]; omega)) _) | refine Below.drew ?_ | refine below_drewN ?_ _ | (refine Below.trans ?_ (Below.mono (by assumption) (by first | omega | (simp only [World.size_alloc, World.size_setCell, World.size_drew, size_drewN]; omega))))))))
  rfl
theorem i_NewEngine_ok (r : Int) (w : World) (h : inB r 0 60000 = true) : Calls Try.prog 17 #[.int .i64 r] w (RetB (.tuple #[engV r nilV, .int .i64 0]) w) := by
  go_enter Try.func17, Try.ntmps17
  go_wp2_with fail; refine (i_NewLog_ok _ _ h).mono ?_; rintro e w1 ⟨rfl, hb1⟩; have hz1 := hb1.size; (try simp only [World.size_alloc, World.size_setCell, World.size_drew, size_drewN] at hz1); (try (have hq1_1 := fun o => hb1.cell (p := ⟨w.heap.size, o, none⟩) (by first | omega | (simp only [World.size_alloc, World.size_setCell, World.size_drew, size_drewN]; omega)); have hr1_1 := fun o => hb1.frozen (p := ⟨w.heap.size, o, none⟩) (by first | omega | (simp only [World.size_alloc, World.size_setCell, World.size_drew, size_drewN]; omega)))); (try (have hl1_1 : w.heap.size < w1.heap.size := (by omega); have hm1_1 : w.heap.size ≤ w1.heap.size := (by omega); have hn1_1 : ¬ w.heap.size = w1.heap.size := (by omega); have ho1_1 : ¬ w1.heap.size = w.heap.size := (by omega))); (try (have hq1_2 := fun o => hb1.cell (p := ⟨w.heap.size + 1, o, none⟩) (by first | omega | (simp only [World.size_alloc, World.size_setCell, World.size_drew, size_drewN]; omega)); have hr1_2 := fun o => hb1.frozen (p := ⟨w.heap.size + 1, o, none⟩) (by first | omega | (simp only [World.size_alloc, World.size_setCell, World.size_drew, size_drewN]; omega)))); (try (have hl1_2 : w.heap.size + 1 < w1.heap.size := (by omega); have hm1_2 : w.heap.size + 1 ≤ w1.heap.size := (by omega); have hn1_2 : ¬ w.heap.size + 1 = w1.heap.size := (by omega); have ho1_2 : ¬ w1.heap.size = w.heap.size + 1 := (by omega))); (try (have hq1_3 := fun o => hb1.cell (p := ⟨w.heap.size + 1 + 1, o, none⟩) (by first | omega | (simp only [World.size_alloc, World.size_setCell, World.size_drew, size_drewN]; omega)); have hr1_3 := fun o => hb1.frozen (p := ⟨w.heap.size + 1 + 1, o, none⟩) (by first | omega | (simp only [World.size_alloc, World.size_setCell, World.size_drew, size_drewN]; omega)))); (try (have hl1_3 : w.heap.size + 1 + 1 < w1.heap.size := (by omega); have hm1_3 : w.heap.size + 1 + 1 ≤ w1.heap.size := (by omega); have hn1_3 : ¬ w.heap.size + 1 + 1 = w1.heap.size := (by omega); have ho1_3 : ¬ w1.heap.size = w.heap.size + 1 + 1 := (by omega))); have hB1 : Below w.heap.size w w1 := (by (repeat (first | exact Below.refl _ _ | (refine Below.alloc ?_ (by first | omega | (simp only [World.size_alloc, World.size_setCell, World.size_drew, size_drewN]; omega)) _) | (refine Below.setCell ?_ (by first | omega | (simp only [World.size_alloc, World.size_setCell, World.size_drew, size_drewN]; omega)) _) | refine Below.drew ?_ | refine below_drewN ?_ _ | (refine Below.trans ?_ (Below.mono (by assumption) (by first | omega | (simp only [World.size_alloc, World.size_setCell, World.size_drew, size_drewN]; omega))))))); have hC1 := (bcell hB1).1; have hF1 := (bcell hB1).2
  go_wp2
  refine bodyPost_ret (v := .tuple #[.agg #[_, _, _, _], _]) (by simp [results, Try.results17, go_sem, *] <;> (repeat' (first | exact rfl | apply And.intro))) rfl (retB ?_ (by (repeat (first | exact Below.refl _ _ | (refine Below.alloc ?_ (by first | omega | (simp only [World.size_alloc, World.size_setCell, World.size_drew, size_drewN]; omega)) _) | (refine Below.setCell ?_ (by first | omega | (simp only [World.size_alloc, World.size_setCell, World.size_drew, size_drewN]; omega)) _) | refine Below.drew ?_ | refine below_drewN ?_ _ | (refine Below.trans ?_ (Below.mono (by assumption) (by first | omega | (simp only [World.size_alloc, World.size_setCell, World.size_drew, size_drewN]; omega))))))))
  rfl

/-- What NewWorld returns: a world with four zero connections, or the zero world and a code. -/
def IsNew (r : Int) (B : Nat) (e : Ending) (w' : World) : Prop :=
  if inB r 0 60000 then ∃ a b, e = .returned (.tuple #[worldV r (.slice a 0 0) (.slice (some ⟨b, 0, none⟩) 4 4), .int .i64 0]) ∧ B ≤ b ∧ Cells w' b (markF 0)
  else e = .returned (.tuple #[worldV 0 nilV nilV, .int .i64 4])

end Go.Proofs.Ytnphhnhnmohfiaa
