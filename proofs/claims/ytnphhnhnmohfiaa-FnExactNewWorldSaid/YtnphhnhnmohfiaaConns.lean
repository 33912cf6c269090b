/- Worlds that were made just now: alike, marked, held. -/
import Derived.Test.YtnphhnhnmohfiaaMark
import Derived.Test.YtnphhnhnmohfiaaBase
import Derived.Deep.RegionWith
set_option linter.unusedVariables false
set_option linter.unusedSimpArgs false
set_option maxHeartbeats 8000000
set_option maxRecDepth 100000
namespace Go.Proofs.Ytnphhnhnmohfiaa
open Go.RowKit

abbrev nilV : Value := .slice none 0 0
abbrev noS : ByteArray := ⟨#[]⟩
abbrev imapV (s : Int) (b : ByteArray) (r : Bool) (v : Value) : Value := .agg #[.int .i64 s, .string b, .bool r, v]
abbrev nntpV (g : ByteArray) (n : Int) (o : Bool) : Value := .agg #[.string g, .int .i64 n, .bool o]

theorem l_eqLog (r s : Int) (d : ByteArray) (w : World) : Calls Try.prog 37 #[logV r d s, logV r d s] w (RetB (.bool true) w) := by
  go_enter Try.func37, Try.ntmps37
  go_wp2
  all_goals (go_ret; exact retB rfl (by (repeat (first | exact Below.refl _ _ | (refine Below.alloc ?_ (by first | omega | (simp only [World.size_alloc, World.size_setCell, World.size_drew, size_drewN]; omega)) _) | (refine Below.setCell ?_ (by first | omega | (simp only [World.size_alloc, World.size_setCell, World.size_drew, size_drewN]; omega)) _) | refine Below.drew ?_ | refine below_drewN ?_ _ | (refine Below.trans ?_ (Below.mono (by assumption) (by first | omega | (simp only [World.size_alloc, World.size_setCell, World.size_drew, size_drewN]; omega))))))))
theorem l_eqNntp (g : ByteArray) (n : Int) (o : Bool) (w : World) : Calls Try.prog 68 #[nntpV g n o, nntpV g n o] w (RetB (.bool true) w) := by
  go_enter Try.func68, Try.ntmps68
  go_wp2
  all_goals (go_ret; exact retB rfl (by (repeat (first | exact Below.refl _ _ | (refine Below.alloc ?_ (by first | omega | (simp only [World.size_alloc, World.size_setCell, World.size_drew, size_drewN]; omega)) _) | (refine Below.setCell ?_ (by first | omega | (simp only [World.size_alloc, World.size_setCell, World.size_drew, size_drewN]; omega)) _) | refine Below.drew ?_ | refine below_drewN ?_ _ | (refine Below.trans ?_ (Below.mono (by assumption) (by first | omega | (simp only [World.size_alloc, World.size_setCell, World.size_drew, size_drewN]; omega))))))))
theorem l_eqIntS_nil (w : World) : Calls Try.prog 102 #[nilV, nilV] w fun e w' => e = .returned (.bool true) ∧ w = w' := by
  go_enter Try.func102, Try.ntmps102
  go_wp2
  go_loopw [5] (fun i wr => i = .int .i64 0 ∧ w = wr) (fun _ _ => 0)
  case atStart => exact ⟨rfl, rfl⟩
  case round =>
    obtain ⟨rfl, rfl⟩ := hrel
    go_wp2
    all_goals (go_ret; exact ⟨rfl, rfl⟩)
theorem l_eqImap (s : Int) (b : ByteArray) (r : Bool) (w : World) : Calls Try.prog 67 #[imapV s b r nilV, imapV s b r nilV] w (RetB (.bool true) w) := by
  go_enter Try.func67, Try.ntmps67
  go_wp2_with fail; refine (l_eqIntS_nil _).mono ?_; rintro e w' ⟨rfl, rfl⟩
  go_wp2
  all_goals (go_ret; exact retB rfl (by (repeat (first | exact Below.refl _ _ | (refine Below.alloc ?_ (by first | omega | (simp only [World.size_alloc, World.size_setCell, World.size_drew, size_drewN]; omega)) _) | (refine Below.setCell ?_ (by first | omega | (simp only [World.size_alloc, World.size_setCell, World.size_drew, size_drewN]; omega)) _) | refine Below.drew ?_ | refine below_drewN ?_ _ | (refine Below.trans ?_ (Below.mono (by assumption) (by first | omega | (simp only [World.size_alloc, World.size_setCell, World.size_drew, size_drewN]; omega))))))))
abbrev connZ : Value := .agg #[.int .i64 0, .string noS, .int .i64 0, .string noS, .bool false, nilV, .string noS, .int .i64 0, .bool false]
theorem l_eqConn (w : World) : Calls Try.prog 40 #[connZ, connZ] w (RetB (.bool true) w) := by
  go_enter Try.func40, Try.ntmps40
  go_wp2_with fail; refine (l_eqImap _ _ _ _).mono ?_; rintro e w1 ⟨rfl, hb1⟩; have hz1 := hb1.size; (try simp only [World.size_alloc, World.size_setCell, World.size_drew, size_drewN] at hz1); (try (have hq1_1 := fun o => hb1.cell (p := ⟨w.heap.size, o, none⟩) (by first | omega | (simp only [World.size_alloc, World.size_setCell, World.size_drew, size_drewN]; omega)); have hr1_1 := fun o => hb1.frozen (p := ⟨w.heap.size, o, none⟩) (by first | omega | (simp only [World.size_alloc, World.size_setCell, World.size_drew, size_drewN]; omega)))); (try (have hl1_1 : w.heap.size < w1.heap.size := (by omega); have hm1_1 : w.heap.size ≤ w1.heap.size := (by omega); have hn1_1 : ¬ w.heap.size = w1.heap.size := (by omega); have ho1_1 : ¬ w1.heap.size = w.heap.size := (by omega))); (try (have hq1_2 := fun o => hb1.cell (p := ⟨w.heap.size + 1, o, none⟩) (by first | omega | (simp only [World.size_alloc, World.size_setCell, World.size_drew, size_drewN]; omega)); have hr1_2 := fun o => hb1.frozen (p := ⟨w.heap.size + 1, o, none⟩) (by first | omega | (simp only [World.size_alloc, World.size_setCell, World.size_drew, size_drewN]; omega)))); (try (have hl1_2 : w.heap.size + 1 < w1.heap.size := (by omega); have hm1_2 : w.heap.size + 1 ≤ w1.heap.size := (by omega); have hn1_2 : ¬ w.heap.size + 1 = w1.heap.size := (by omega); have ho1_2 : ¬ w1.heap.size = w.heap.size + 1 := (by omega))); (try (have hq1_3 := fun o => hb1.cell (p := ⟨w.heap.size + 1 + 1, o, none⟩) (by first | omega | (simp only [World.size_alloc, World.size_setCell, World.size_drew, size_drewN]; omega)); have hr1_3 := fun o => hb1.frozen (p := ⟨w.heap.size + 1 + 1, o, none⟩) (by first | omega | (simp only [World.size_alloc, World.size_setCell, World.size_drew, size_drewN]; omega)))); (try (have hl1_3 : w.heap.size + 1 + 1 < w1.heap.size := (by omega); have hm1_3 : w.heap.size + 1 + 1 ≤ w1.heap.size := (by omega); have hn1_3 : ¬ w.heap.size + 1 + 1 = w1.heap.size := (by omega); have ho1_3 : ¬ w1.heap.size = w.heap.size + 1 + 1 := (by omega))); have hB1 : Below w.heap.size w w1 := (by (repeat (first | exact Below.refl _ _ | (refine Below.alloc ?_ (by first | omega | (simp only [World.size_alloc, World.size_setCell, World.size_drew, size_drewN]; omega)) _) | (refine Below.setCell ?_ (by first | omega | (simp only [World.size_alloc, World.size_setCell, World.size_drew, size_drewN]; omega)) _) | refine Below.drew ?_ | refine below_drewN ?_ _ | (refine Below.trans ?_ (Below.mono (by assumption) (by first | omega | (simp only [World.size_alloc, World.size_setCell, World.size_drew, size_drewN]; omega))))))); have hC1 := (bcell hB1).1; have hF1 := (bcell hB1).2
  go_wp2_with fail; refine (l_eqNntp _ _ _ _).mono ?_; rintro e w2 ⟨rfl, hb2⟩; have hz2 := hb2.size; (try simp only [World.size_alloc, World.size_setCell, World.size_drew, size_drewN] at hz2); (try (have hq2_1 := fun o => hb2.cell (p := ⟨w.heap.size, o, none⟩) (by first | omega | (simp only [World.size_alloc, World.size_setCell, World.size_drew, size_drewN]; omega)); have hr2_1 := fun o => hb2.frozen (p := ⟨w.heap.size, o, none⟩) (by first | omega | (simp only [World.size_alloc, World.size_setCell, World.size_drew, size_drewN]; omega)))); (try (have hl2_1 : w.heap.size < w2.heap.size := (by omega); have hm2_1 : w.heap.size ≤ w2.heap.size := (by omega); have hn2_1 : ¬ w.heap.size = w2.heap.size := (by omega); have ho2_1 : ¬ w2.heap.size = w.heap.size := (by omega))); (try (have hq2_2 := fun o => hb2.cell (p := ⟨w.heap.size + 1, o, none⟩) (by first | omega | (simp only [World.size_alloc, World.size_setCell, World.size_drew, size_drewN]; omega)); have hr2_2 := fun o => hb2.frozen (p := ⟨w.heap.size + 1, o, none⟩) (by first | omega | (simp only [World.size_alloc, World.size_setCell, World.size_drew, size_drewN]; omega)))); (try (have hl2_2 : w.heap.size + 1 < w2.heap.size := (by omega); have hm2_2 : w.heap.size + 1 ≤ w2.heap.size := (by omega); have hn2_2 : ¬ w.heap.size + 1 = w2.heap.size := (by omega); have ho2_2 : ¬ w2.heap.size = w.heap.size + 1 := (by omega))); (try (have hq2_3 := fun o => hb2.cell (p := ⟨w.heap.size + 1 + 1, o, none⟩) (by first | omega | (simp only [World.size_alloc, World.size_setCell, World.size_drew, size_drewN]; omega)); have hr2_3 := fun o => hb2.frozen (p := ⟨w.heap.size + 1 + 1, o, none⟩) (by first | omega | (simp only [World.size_alloc, World.size_setCell, World.size_drew, size_drewN]; omega)))); (try (have hl2_3 : w.heap.size + 1 + 1 < w2.heap.size := (by omega); have hm2_3 : w.heap.size + 1 + 1 ≤ w2.heap.size := (by omega); have hn2_3 : ¬ w.heap.size + 1 + 1 = w2.heap.size := (by omega); have ho2_3 : ¬ w2.heap.size = w.heap.size + 1 + 1 := (by omega))); (try (have hq2_4 := fun o => hb2.cell (p := ⟨w1.heap.size, o, none⟩) (by first | omega | (simp only [World.size_alloc, World.size_setCell, World.size_drew, size_drewN]; omega)); have hr2_4 := fun o => hb2.frozen (p := ⟨w1.heap.size, o, none⟩) (by first | omega | (simp only [World.size_alloc, World.size_setCell, World.size_drew, size_drewN]; omega)))); (try (have hl2_4 : w1.heap.size < w2.heap.size := (by omega); have hm2_4 : w1.heap.size ≤ w2.heap.size := (by omega); have hn2_4 : ¬ w1.heap.size = w2.heap.size := (by omega); have ho2_4 : ¬ w2.heap.size = w1.heap.size := (by omega))); (try (have hq2_5 := fun o => hb2.cell (p := ⟨w1.heap.size + 1, o, none⟩) (by first | omega | (simp only [World.size_alloc, World.size_setCell, World.size_drew, size_drewN]; omega)); have hr2_5 := fun o => hb2.frozen (p := ⟨w1.heap.size + 1, o, none⟩) (by first | omega | (simp only [World.size_alloc, World.size_setCell, World.size_drew, size_drewN]; omega)))); (try (have hl2_5 : w1.heap.size + 1 < w2.heap.size := (by omega); have hm2_5 : w1.heap.size + 1 ≤ w2.heap.size := (by omega); have hn2_5 : ¬ w1.heap.size + 1 = w2.heap.size := (by omega); have ho2_5 : ¬ w2.heap.size = w1.heap.size + 1 := (by omega))); (try (have hq2_6 := fun o => hb2.cell (p := ⟨w1.heap.size + 1 + 1, o, none⟩) (by first | omega | (simp only [World.size_alloc, World.size_setCell, World.size_drew, size_drewN]; omega)); have hr2_6 := fun o => hb2.frozen (p := ⟨w1.heap.size + 1 + 1, o, none⟩) (by first | omega | (simp only [World.size_alloc, World.size_setCell, World.size_drew, size_drewN]; omega)))); (try (have hl2_6 : w1.heap.size + 1 + 1 < w2.heap.size := (by omega); have hm2_6 : w1.heap.size + 1 + 1 ≤ w2.heap.size := (by omega); have hn2_6 : ¬ w1.heap.size + 1 + 1 = w2.heap.size := (by omega); have ho2_6 : ¬ w2.heap.size = w1.heap.size + 1 + 1 := (by omega))); have hB2 : Below w.heap.size w w2 := (by (repeat (first | exact Below.refl _ _ | (refine Below.alloc ?_ (by first | omega | (simp only [World.size_alloc, World.size_setCell, World.size_drew, size_drewN]; omega)) _) | (refine Below.setCell ?_ (by first | omega | (simp only [World.size_alloc, World.size_setCell, World.size_drew, size_drewN]; omega)) _) | refine Below.drew ?_ | refine below_drewN ?_ _ | (refine Below.trans ?_ (Below.mono (by assumption) (by first | omega | (simp only [World.size_alloc, World.size_setCell, World.size_drew, size_drewN]; omega))))))); have hC2 := (bcell hB2).1; have hF2 := (bcell hB2).2
  go_wp2
  all_goals (go_ret; exact retB rfl (by (repeat (first | exact Below.refl _ _ | (refine Below.alloc ?_ (by first | omega | (simp only [World.size_alloc, World.size_setCell, World.size_drew, size_drewN]; omega)) _) | (refine Below.setCell ?_ (by first | omega | (simp only [World.size_alloc, World.size_setCell, World.size_drew, size_drewN]; omega)) _) | refine Below.drew ?_ | refine below_drewN ?_ _ | (refine Below.trans ?_ (Below.mono (by assumption) (by first | omega | (simp only [World.size_alloc, World.size_setCell, World.size_drew, size_drewN]; omega))))))))

/-- Four connections in memory, the first i of them marked from k on, the others zero. -/
def connC (k : Int) : Nat → Value
  | 0 => .int .i64 k
  | 1 => .string (mkT (k + 1))
  | 2 => .int .i64 (k + 1 + 1)
  | 3 => .string (mkT (k + 1 + 1 + 1))
  | 4 => .bool ((k + 1 + 1 + 1 + 1) % 3 == 0)
  | 5 => nilV
  | 6 => .string (mkT (k + 1 + 1 + 1 + 1 + 1))
  | 7 => .int .i64 (k + 1 + 1 + 1 + 1 + 1 + 1)
  | _ => .bool ((k + 1 + 1 + 1 + 1 + 1 + 1 + 1) % 3 == 0)
def connO : Nat → Value
  | 0 => .int .i64 0
  | 1 => .string noS
  | 2 => .int .i64 0
  | 3 => .string noS
  | 4 => .bool false
  | 5 => nilV
  | 6 => .string noS
  | 7 => .int .i64 0
  | _ => .bool false
/-- The 36 cells when the first i connections are marked. -/
def markF (i o : Nat) : Value := if o / 9 < i then connC (1 + 8 * (o / 9 : Nat)) (o % 9) else connO (o % 9)
structure Cells (w : World) (b : Nat) (g : Nat → Value) : Prop where
  lt : b < w.heap.size
  cell : ∀ o, o < 36 → w.cell? ⟨b, o, none⟩ = some (g o)
  fz : ∀ o, w.frozen? ⟨b, o, none⟩ = false
theorem Cells.below {w w' : World} {b : Nat} {g : Nat → Value} (h : Cells w b g) (k : Below w.heap.size w w') : Cells w' b g :=
  ⟨Nat.lt_of_lt_of_le h.lt k.size, fun o ho => (k.cell (p := ⟨b, o, none⟩) h.lt).trans (h.cell o ho), fun o => (k.frozen (p := ⟨b, o, none⟩) h.lt).trans (h.fz o)⟩
theorem Cells.set {w : World} {b : Nat} {g : Nat → Value} (h : Cells w b g) (o : Nat) (ho : o < 36) (v : Value) : Cells (w.setCell ⟨b, o, none⟩ v) b (fun x => if x = o then v else g x) := by
  refine ⟨by have := h.lt; simpa [World.setCell] using this, fun x hx => ?_, fun x => ?_⟩
  · by_cases e : x = o
    · subst e; rw [if_pos rfl]; exact World.cell?_setCell_same _ _ _ (h.cell x hx)
    · rw [if_neg e, World.cell?_setCell_other _ _ _ _ (by simp only [ne_eq, Addr.mk.injEq, true_and, and_true]; omega)]; exact h.cell x hx
  · rw [World.frozen?_setCell]; exact h.fz x
theorem Cells.congr {w : World} {b : Nat} {g g' : Nat → Value} (h : Cells w b g) (e : ∀ o, o < 36 → g o = g' o) : Cells w b g' := ⟨h.lt, fun o ho => (h.cell o ho).trans (by rw [e o ho]), h.fz⟩
abbrev zeros : Array Value := #[.int .i64 0, .string noS, .int .i64 0, .string noS, .bool false, nilV, .string noS, .int .i64 0, .bool false, .int .i64 0, .string noS, .int .i64 0, .string noS, .bool false, nilV, .string noS, .int .i64 0, .bool false, .int .i64 0, .string noS, .int .i64 0, .string noS, .bool false, nilV, .string noS, .int .i64 0, .bool false, .int .i64 0, .string noS, .int .i64 0, .string noS, .bool false, nilV, .string noS, .int .i64 0, .bool false]
theorem Cells.made (w : World) (e : TypeId) : Cells (w.alloc (.cells zeros e)) w.heap.size (markF 0) := by
  refine ⟨by simp, fun o h => ?_, fun o => World.frozen?_alloc_at _ _ _ _ rfl⟩
  rw [World.cell?_alloc_at _ _ _ _ rfl]
  have : ∀ o, o < 36 → zeros[o]? = some (connO (o % 9)) := by
    intro o h
    have h2 : o = 0 ∨ o = 1 ∨ o = 2 ∨ o = 3 ∨ o = 4 ∨ o = 5 ∨ o = 6 ∨ o = 7 ∨ o = 8 ∨ o = 9 ∨ o = 10 ∨ o = 11 ∨ o = 12 ∨ o = 13 ∨ o = 14 ∨ o = 15 ∨ o = 16 ∨ o = 17 ∨ o = 18 ∨ o = 19 ∨ o = 20 ∨ o = 21 ∨ o = 22 ∨ o = 23 ∨ o = 24 ∨ o = 25 ∨ o = 26 ∨ o = 27 ∨ o = 28 ∨ o = 29 ∨ o = 30 ∨ o = 31 ∨ o = 32 ∨ o = 33 ∨ o = 34 ∨ o = 35 := by omega
    rcases h2 with rfl | rfl | rfl | rfl | rfl | rfl | rfl | rfl | rfl | rfl | rfl | rfl | rfl | rfl | rfl | rfl | rfl | rfl | rfl | rfl | rfl | rfl | rfl | rfl | rfl | rfl | rfl | rfl | rfl | rfl | rfl | rfl | rfl | rfl | rfl | rfl <;> rfl
  rw [this o h, markF, if_neg (by omega)]
/-- The nine cells of the connection k. -/
theorem Cells.nine {w : World} {b : Nat} {g : Nat → Value} (h : Cells w b g) (k : Nat) (hk : k < 4) : w.cell? ⟨b, k * 9, none⟩ = some (g (k * 9)) ∧ w.cell? ⟨b, k * 9 + 1, none⟩ = some (g (k * 9 + 1)) ∧ w.cell? ⟨b, k * 9 + 2, none⟩ = some (g (k * 9 + 2)) ∧ w.cell? ⟨b, k * 9 + 3, none⟩ = some (g (k * 9 + 3)) ∧ w.cell? ⟨b, k * 9 + 4, none⟩ = some (g (k * 9 + 4)) ∧ w.cell? ⟨b, k * 9 + 5, none⟩ = some (g (k * 9 + 5)) ∧ w.cell? ⟨b, k * 9 + 6, none⟩ = some (g (k * 9 + 6)) ∧ w.cell? ⟨b, k * 9 + 7, none⟩ = some (g (k * 9 + 7)) ∧ w.cell? ⟨b, k * 9 + 8, none⟩ = some (g (k * 9 + 8)) :=
  ⟨h.cell _ (by omega), h.cell _ (by omega), h.cell _ (by omega), h.cell _ (by omega), h.cell _ (by omega), h.cell _ (by omega), h.cell _ (by omega), h.cell _ (by omega), h.cell _ (by omega)⟩
theorem markF_old {i k : Nat} (h : i ≤ k) (c : Nat) (hc : c < 9) : markF i (k * 9 + c) = connO c := by
  rw [markF, if_neg (by omega), show (k * 9 + c) % 9 = c by omega]
theorem markF_new {i k : Nat} (h : k < i) (c : Nat) (hc : c < 9) : markF i (k * 9 + c) = connC (1 + 8 * (k : Nat)) c := by
  rw [markF, if_pos (by omega), show (k * 9 + c) % 9 = c by omega, show (k * 9 + c) / 9 = k by omega]

theorem zero_nine {w : World} {b : Nat} (h : Cells w b (markF 0)) (k : Nat) (hk : k < 4) : w.cell? ⟨b, k * 9, none⟩ = some (.int .i64 0) ∧ w.cell? ⟨b, k * 9 + 1, none⟩ = some (.string noS) ∧ w.cell? ⟨b, k * 9 + 2, none⟩ = some (.int .i64 0) ∧ w.cell? ⟨b, k * 9 + 3, none⟩ = some (.string noS) ∧ w.cell? ⟨b, k * 9 + 4, none⟩ = some (.bool false) ∧ w.cell? ⟨b, k * 9 + 5, none⟩ = some nilV ∧ w.cell? ⟨b, k * 9 + 6, none⟩ = some (.string noS) ∧ w.cell? ⟨b, k * 9 + 7, none⟩ = some (.int .i64 0) ∧ w.cell? ⟨b, k * 9 + 8, none⟩ = some (.bool false) := by
  have := h.nine k hk
  rw [markF_old (Nat.zero_le k) 1 (by omega), markF_old (Nat.zero_le k) 2 (by omega), markF_old (Nat.zero_le k) 3 (by omega), markF_old (Nat.zero_le k) 4 (by omega), markF_old (Nat.zero_le k) 5 (by omega), markF_old (Nat.zero_le k) 6 (by omega), markF_old (Nat.zero_le k) 7 (by omega), markF_old (Nat.zero_le k) 8 (by omega), show markF 0 (k * 9) = connO 0 from markF_old (Nat.zero_le k) 0 (by omega)] at this
  exact this

theorem l_eqConnS (b b' c c' : Nat) (w : World) (h : Cells w b (markF 0)) (h' : Cells w b' (markF 0)) : Calls Try.prog 18 #[.slice (some ⟨b, 0, none⟩) 4 c, .slice (some ⟨b', 0, none⟩) 4 c'] w (RetB (.bool true) w) := by
  go_enter Try.func18, Try.ntmps18
  go_wp2
  go_loopw [5] (fun i wr => ∃ k : Nat, k ≤ 4 ∧ i = .int .i64 k ∧ Below w.heap.size w wr) (fun i _ => 4 - (intOf i).toNat)
  case atStart => exact ⟨0, by omega, rfl, by (repeat (first | exact Below.refl _ _ | (refine Below.alloc ?_ (by first | omega | (simp only [World.size_alloc, World.size_setCell, World.size_drew, size_drewN]; omega)) _) | (refine Below.setCell ?_ (by first | omega | (simp only [World.size_alloc, World.size_setCell, World.size_drew, size_drewN]; omega)) _) | refine Below.drew ?_ | refine below_drewN ?_ _ | (refine Below.trans ?_ (Below.mono (by assumption) (by first | omega | (simp only [World.size_alloc, World.size_setCell, World.size_drew, size_drewN]; omega))))))⟩
  case round =>
    obtain ⟨k, hk, rfl, hb⟩ := hrel
    have hsz := hb.size
    by_cases hlt : k < 4
    · obtain ⟨z0, z1, z2, z3, z4, z5, z6, z7, z8⟩ := zero_nine (h.below hb) k hlt
      obtain ⟨y0, y1, y2, y3, y4, y5, y6, y7, y8⟩ := zero_nine (h'.below hb) k hlt
      clear h h'
      go_wp2
      go_region_with (go_at_call 40; refine (l_eqConn _).mono ?_; rintro e w1 ⟨rfl, hb1⟩; obtain ⟨hc1, hf1, hz1⟩ := bcall hb1)
      all_goals (go_wp2; exact ⟨⟨k + 1, by omega, int_eq (by omega), by (repeat (first | exact Below.refl _ _ | (refine Below.alloc ?_ (by first | omega | (simp only [World.size_alloc, World.size_setCell, World.size_drew, size_drewN]; omega)) _) | (refine Below.setCell ?_ (by first | omega | (simp only [World.size_alloc, World.size_setCell, World.size_drew, size_drewN]; omega)) _) | refine Below.drew ?_ | refine below_drewN ?_ _ | (refine Below.trans ?_ (Below.mono (by assumption) (by first | omega | (simp only [World.size_alloc, World.size_setCell, World.size_drew, size_drewN]; omega))))))⟩, by simp [intOf]; omega⟩)
    · obtain rfl : k = 4 := by omega
      go_wp2
      go_ret
      exact retB rfl (by (repeat (first | exact Below.refl _ _ | (refine Below.alloc ?_ (by first | omega | (simp only [World.size_alloc, World.size_setCell, World.size_drew, size_drewN]; omega)) _) | (refine Below.setCell ?_ (by first | omega | (simp only [World.size_alloc, World.size_setCell, World.size_drew, size_drewN]; omega)) _) | refine Below.drew ?_ | refine below_drewN ?_ _ | (refine Below.trans ?_ (Below.mono (by assumption) (by first | omega | (simp only [World.size_alloc, World.size_setCell, World.size_drew, size_drewN]; omega)))))))
end Go.Proofs.Ytnphhnhnmohfiaa
