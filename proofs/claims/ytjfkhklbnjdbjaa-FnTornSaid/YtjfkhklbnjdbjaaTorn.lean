/- The statement FnTorn: behind a crash, repaired, a log has all records that were sure, and a beginning of the others. -/
import Derived.Test.YtjfkhklbnjdbjaaLogB
import Derived.Test.YtjfkhklbnjdbjaaSrcRec
import Derived.Test.YtjfkhklbnjdbjaaAppend
import Derived.Test.YtjfkhklbnjdbjaaOpen
import Derived.ShutString
import Derived.Test.YtjfkhklbnjdbjaaSame
import Derived.Deep.RegionWith
set_option linter.unusedVariables false
set_option linter.unusedSimpArgs false
set_option maxHeartbeats 8000000
set_option maxRecDepth 100000
namespace Go.Proofs.Ytjfkhklbnjdbjaa
open Go.ChangeShapes Go.WideShapes Go.ChangeAt Go.RowKit

/-- A choice out of n that some bytes make. -/
theorem l_at (v : Value) (zs : List Int) (i n : Int) (w : World) (h : IsBytes w v zs) (hl : zs.length ≤ 1048576) (hi0 : 0 ≤ i) (hi : i ≤ 1000000) (hn : 1 < n) (hn2 : n ≤ 1000000) :
    Calls Try.prog 17 #[v, .int .i64 i, .int .i64 n] w fun e w' => ∃ x m : Int, e = .returned (.int .i64 x) ∧ 0 ≤ x ∧ x < n ∧ ∃ k, w' = w.drewN k := by
  obtain ⟨hz, _, a, c, rfl, hc⟩ := h
  by_cases he : zs = []
  · subst he
    clear hc hz
    go_enter Try.func17, Try.ntmps17
    go_wp2
    go_ret
    exact ⟨_, 0, rfl, Int.emod_nonneg _ (by omega), Int.emod_lt_of_pos _ (by omega), 0, rfl⟩
  · obtain ⟨b, o, rfl, hb, hcc⟩ := hc he
    have hp : 0 < zs.length := List.length_pos_iff.mpr he
    have hl0 : ((zs.length : Int) == 0) = false := by simp; omega
    have r1 := Int.emod_nonneg i (show (zs.length : Int) ≠ 0 by omega)
    have r2 := Int.emod_lt_of_pos i (show (0 : Int) < zs.length by omega)
    have r3 := Int.emod_nonneg (i + 1) (show (zs.length : Int) ≠ 0 by omega)
    have r4 := Int.emod_lt_of_pos (i + 1) (show (0 : Int) < zs.length by omega)
    have d0 : 0 ≤ i / zs.length := Int.ediv_nonneg hi0 (by omega)
    have d1 : i / zs.length ≤ i := Int.ediv_le_self _ hi0
    have c1 := hcc (i % zs.length).toNat (by omega)
    have c2 := hcc ((i + 1) % zs.length).toNat (by omega)
    have hr : ∀ j, j < zs.length → 0 ≤ zs.getD j 0 ∧ zs.getD j 0 ≤ 255 := fun j hj => hz _ (by rw [List.getD_eq_getElem?_getD, List.getElem?_eq_getElem hj]; simp)
    obtain ⟨g1, g2⟩ := hr (i % zs.length).toNat (by omega)
    obtain ⟨g3, g4⟩ := hr ((i + 1) % zs.length).toNat (by omega)
    generalize zs.getD (i % zs.length).toNat 0 = x at *
    generalize zs.getD ((i + 1) % zs.length).toNat 0 = y at *
    clear hcc hr hz hc he
    go_enter Try.func17, Try.ntmps17
    go_wp2
    go_quiet (fail)
    go_wp2
    go_ret
    exact ⟨_, 0, rfl, Int.emod_nonneg _ (by omega), Int.emod_lt_of_pos _ (by omega), _, rfl⟩

theorem frames_take_mono (rs : List Bytes) {i j : Nat} (h : i ≤ j) : (frames (rs.take i)).length ≤ (frames (rs.take j)).length := by
  have e : rs.take i = (rs.take j).take i := by rw [List.take_take, Nat.min_eq_left h]
  have := congrArg frames (List.take_append_drop i (rs.take j))
  rw [frames_append] at this
  rw [e, ← this]; simp

/-- A crash and a repair leave a beginning of the records, with all that were sure. -/
theorem torn_cut (rs : List Bytes) (hsm : ∀ r ∈ rs, 1 ≤ r.length ∧ r.length ≤ 21) (hlen : rs.length ≤ 6) (j : Nat) (hj : j ≤ rs.length) (x : Int) : ∃ m, j ≤ m ∧ m ≤ rs.length ∧
    (∀ W, Calls Try.prog 19 #[.agg #[.int .i64 2000, .string (bs ((frames rs).take (crashN (frames rs).length (frames (rs.take j)).length x))), .int .i64 (min (crashN (frames rs).length (frames (rs.take j)).length x) (frames rs).length : Nat)]] W
      (RetB (.tuple #[.agg #[.int .i64 2000, .string (bs (frames (rs.take m))), .int .i64 (frames (rs.take m)).length], .int .i64 0]) W)) ∧
    (∀ W, Calls Try.prog 20 #[.agg #[.int .i64 2000, .string (bs (frames (rs.take m))), .int .i64 (frames (rs.take m)).length]] W
      fun e w' => ∃ v, e = .returned (.tuple #[v, .int .i64 (frames (rs.take m)).length, .int .i64 0]) ∧ IsStrs w' v ((rs.take m).map bs) ∧ Below W.heap.size W w') := by
  have hfr : ∀ r ∈ rs, RecOK r := fun r hr => by have := hsm r hr; exact ⟨this.1, by omega⟩
  have htot : (frames rs).length ≤ 28 * rs.length := by
    clear hj hlen hfr
    induction rs with
    | nil => simp [frames]
    | cons r rs ih =>
      have := hsm r (List.mem_cons_self ..)
      have := ih (fun x hx => hsm x (List.mem_cons_of_mem _ hx))
      simp [frames, frameL_length]; omega
  have hsj : (frames (rs.take j)).length ≤ (frames rs).length := by have := frames_take_mono rs (Nat.le_refl rs.length |> fun _ => hj); simpa using this
  have hn := crashN_le (n := (frames rs).length) (s := (frames (rs.take j)).length) (keep := x) (by omega) (by omega)
  generalize crashN (frames rs).length (frames (rs.take j)).length x = n at *
  obtain ⟨m, hm, hrec, hle, hnx⟩ := recs_cut rs hfr n
  have hjm : j ≤ m := by
    rcases Nat.lt_or_ge m j with h | h
    · have h1 := hnx (by omega)
      have h2 := frames_take_mono rs (i := m + 1) (j := j) (by omega)
      omega
    · exact h
  have hDl : ((frames rs).take n).length = n := by simp; omega
  have htk : ((frames rs).take n).take (frames (rs.take m)).length = frames (rs.take m) := by
    have e := congrArg frames (List.take_append_drop m rs)
    rw [frames_append] at e
    rw [List.take_take, Nat.min_eq_left hle, ← e]
    simp
  refine ⟨m, hjm, hm, fun W => ?_, fun W => ?_⟩
  · have h := i_LogRepair 2000 ((frames rs).take n).length ((frames rs).take n) W (logOK_bs.mpr (by omega)) (by rw [hrec]; dsimp only; split <;> decide) (by rw [hrec]; dsimp only; omega)
    rw [hrec] at h
    dsimp only at h
    rw [htk, List.length_take] at h
    exact h
  · have hmn : (frames (rs.take m)).length ≤ (frames rs).length := by omega
    refine (i_LogRecords 2000 (frames (rs.take m)).length (frames (rs.take m)) W (logOK_bs.mpr (by omega))).mono ?_
    rintro e w' ⟨v, rfl, hv, _, hb⟩
    have hr := recs_frames (rs.take m) (fun r hr => hfr r (List.mem_of_mem_take hr))
    rw [hr] at hv
    exact ⟨v, by rw [hr], hv, hb⟩

/-- A text of records, so far: what the law's list and log hold. -/
structure TornAt (B L : Nat) (w wr : World) (v : Value) (rs : List Bytes) (j : Nat) : Prop where
  c0 : wr.cell? ⟨L, 0, none⟩ = some (.int .i64 2000)
  c1 : wr.cell? ⟨L, 1, none⟩ = some (.string (bs (frames rs)))
  c2 : wr.cell? ⟨L, 2, none⟩ = some (.int .i64 (frames (rs.take j)).length)
  f0 : wr.frozen? ⟨L, 0, none⟩ = false
  f1 : wr.frozen? ⟨L, 1, none⟩ = false
  f2 : wr.frozen? ⟨L, 2, none⟩ = false
  own : wr.ownsRow B 9 1 v rs.length ((rs.map bs).map Value.string)
  bel : Below w.heap.size w wr
  small : ∀ r ∈ rs, 1 ≤ r.length ∧ r.length ≤ 21
  sure : j ≤ rs.length

theorem TornAt.below {B L : Nat} {w wr w' : World} {v : Value} {rs : List Bytes} {j : Nat} (T : TornAt B L w wr v rs j) (h : Below wr.heap.size wr w') (hw : w.heap.size ≤ wr.heap.size) : TornAt B L w w' v rs j := by
  have hL : L < wr.heap.size := World.block_lt_of_cell? _ _ T.c0
  exact ⟨by rw [h.cell (p := ⟨L, 0, none⟩) hL, T.c0], by rw [h.cell (p := ⟨L, 1, none⟩) hL, T.c1], by rw [h.cell (p := ⟨L, 2, none⟩) hL, T.c2], by rw [h.frozen (p := ⟨L, 0, none⟩) hL, T.f0], by rw [h.frozen (p := ⟨L, 1, none⟩) hL, T.f1], by rw [h.frozen (p := ⟨L, 2, none⟩) hL, T.f2],
    own_keep T.own (Keep.of_below (own := fun _ => False) h (Nat.le_refl _)) (by simp), T.bel.trans (h.mono hw), T.small, T.sure⟩
theorem frames_small (rs : List Bytes) (h : ∀ r ∈ rs, 1 ≤ r.length ∧ r.length ≤ 21) : (frames rs).length ≤ 28 * rs.length := by
  induction rs with
  | nil => simp [frames]
  | cons r rs ih =>
    have := h r (List.mem_cons_self ..)
    have := ih (fun x hx => h x (List.mem_cons_of_mem _ hx))
    simp [frames, frameL_length]; omega
theorem frames_take_le (rs : List Bytes) (j : Nat) : (frames (rs.take j)).length ≤ (frames rs).length := by
  have := congrArg frames (List.take_append_drop j rs)
  rw [frames_append] at this
  rw [← this]; simp

/-- The world behind 'l, _ = LogAppend(l, r)' and the literal that the list's append takes. -/
abbrev tornW (L : Nat) (w : World) (d : Bytes) (s : Int) (r : Bytes) : World :=
  (((w.setCell ⟨L, 0, none⟩ (.int .i64 2000)).setCell ⟨L, 1, none⟩ (.string (bs d))).setCell ⟨L, 2, none⟩ (.int .i64 s)).alloc (.cells #[.string (bs r)] 9)
theorem TornAt.row {B L : Nat} {w wr : World} {v : Value} {rs : List Bytes} {j : Nat} (T : TornAt B L w wr v rs j) (hL : L < B) (d : Bytes) (s : Int) (r : Bytes) : (tornW L wr d s r).ownsRow B 9 1 v rs.length ((rs.map bs).map Value.string) :=
  (ownsRow_setCell_below (ownsRow_setCell_below (ownsRow_setCell_below T.own (a := ⟨L, 0, none⟩) hL _) (a := ⟨L, 1, none⟩) hL _) (a := ⟨L, 2, none⟩) hL _).alloc _
theorem TornAt.push {B L : Nat} {w wr w5 : World} {v v5 : Value} {rs : List Bytes} {j : Nat} {r : Bytes} (T : TornAt B L w wr v rs j) (hL : L < B) (hw : w.heap.size ≤ L) (hg : (tornW L wr (frames rs ++ frameL r) (frames (rs.take j)).length r).grownBy w5 v.ownBlock)
    (hown : w5.ownsRow B 9 1 v5 (rs.length + 1) ((rs.map bs).map Value.string ++ [.string (bs r)])) (hr1 : 1 ≤ r.length) (hr2 : r.length ≤ 21) : TornAt B L w w5 v5 (rs ++ [r]) j := by
  have hLw : L < wr.heap.size := World.block_lt_of_cell? _ _ T.c0
  have hne : some L ≠ v.ownBlock := fun e => by have := (T.own.lt _ e.symm).1; omega
  have hc0 : (tornW L wr (frames rs ++ frameL r) (frames (rs.take j)).length r).cell? ⟨L, 0, none⟩ = some (.int .i64 2000) := by
    rw [World.cell?_alloc_past _ _ _ (by simpa using hLw)]; simp [go_sem, T.c0, T.c1, T.c2]
  have hc1 : (tornW L wr (frames rs ++ frameL r) (frames (rs.take j)).length r).cell? ⟨L, 1, none⟩ = some (.string (bs (frames rs ++ frameL r))) := by
    rw [World.cell?_alloc_past _ _ _ (by simpa using hLw)]; simp [go_sem, T.c0, T.c1, T.c2]
  have hc2 : (tornW L wr (frames rs ++ frameL r) (frames (rs.take j)).length r).cell? ⟨L, 2, none⟩ = some (.int .i64 (frames (rs.take j)).length) := by
    rw [World.cell?_alloc_past _ _ _ (by simpa using hLw)]; simp [go_sem, T.c0, T.c1, T.c2]
  have hf : ∀ o, (tornW L wr (frames rs ++ frameL r) (frames (rs.take j)).length r).frozen? ⟨L, o, none⟩ = wr.frozen? ⟨L, o, none⟩ := fun o => by
    rw [World.frozen?_alloc_past _ _ _ (by simpa using hLw)]; simp [go_sem]
  have hfr : ∀ o, w5.frozen? ⟨L, o, none⟩ = wr.frozen? ⟨L, o, none⟩ := fun o => by
    rw [World.frozen?_of_block (hg.block L (by simpa using Nat.lt_succ_of_lt hLw) hne), hf]
  have e1 : frames (rs ++ [r]) = frames rs ++ frameL r := by rw [frames_append]; simp [frames]
  have e2 : (rs ++ [r]).take j = rs.take j := by rw [List.take_append_of_le_length T.sure]
  refine ⟨hg.cell hc0 hne, by rw [e1]; exact hg.cell hc1 hne, by rw [e2]; exact hg.cell hc2 hne, by rw [hfr, T.f0], by rw [hfr, T.f1], by rw [hfr, T.f2], by simpa using hown, ?_, ?_, by have := T.sure; simp; omega⟩
  · have hs := T.bel.size
    exact ((((T.bel.setCell (by simpa using hw) _).setCell (by simpa using hw) _).setCell (by simpa using hw) _).alloc (by simpa using hs) _).grown hg (by simp; omega) (fun k e => by have := (T.own.lt _ e).1; omega)
  · intro x hx
    rcases List.mem_append.1 hx with h | h
    · exact T.small x h
    · simp at h; subst h; exact ⟨hr1, hr2⟩

/-- All is sure. -/
theorem TornAt.sync {B L : Nat} {w wr : World} {v : Value} {rs : List Bytes} {j : Nat} (T : TornAt B L w wr v rs j) (hL : L < B) (hw : w.heap.size ≤ L) (o : Obj) :
    TornAt B L w ((((wr.setCell ⟨L, 0, none⟩ (.int .i64 2000)).setCell ⟨L, 1, none⟩ (.string (bs (frames rs)))).setCell ⟨L, 2, none⟩ (.int .i64 (frames rs).length)).alloc o) v rs rs.length := by
  have hLw : L < wr.heap.size := World.block_lt_of_cell? _ _ T.c0
  have hs := T.bel.size
  refine ⟨?_, ?_, ?_, ?_, ?_, ?_, (ownsRow_setCell_below (ownsRow_setCell_below (ownsRow_setCell_below T.own (a := ⟨L, 0, none⟩) hL _) (a := ⟨L, 1, none⟩) hL _) (a := ⟨L, 2, none⟩) hL _).alloc _,
    (((T.bel.setCell (by simpa using hw) _).setCell (by simpa using hw) _).setCell (by simpa using hw) _).alloc (by simpa using hs) _, T.small, Nat.le_refl _⟩
  · rw [World.cell?_alloc_past _ _ _ (by simpa using hLw)]; simp [go_sem, T.c0, T.c1, T.c2]
  · rw [World.cell?_alloc_past _ _ _ (by simpa using hLw)]; simp [go_sem, T.c0, T.c1, T.c2]
  · rw [World.cell?_alloc_past _ _ _ (by simpa using hLw)]; simp [go_sem, T.c0, T.c1, T.c2]
  · rw [World.frozen?_alloc_past _ _ _ (by simpa using hLw)]; simp [go_sem, T.f0]
  · rw [World.frozen?_alloc_past _ _ _ (by simpa using hLw)]; simp [go_sem, T.f1]
  · rw [World.frozen?_alloc_past _ _ _ (by simpa using hLw)]; simp [go_sem, T.f2]

theorem lawTorn (v0 v1 : Value) (z0 z1 : List Int) (w : World) (h0 : IsBytes w v0 z0) (h1 : IsBytes w v1 z1) (hn0 : ∀ n c, v0 = .slice none n c → c = 0) (hl0 : z0.length ≤ 1048576) (hl1 : z1.length ≤ 1048576) :
    Calls Try.prog 5 #[v0, v1] w (RetB (.bool true) w) := by
  obtain ⟨i0, hi, hz0, hzs1, hz2⟩ := info_parts info_str
  obtain ⟨j0, hj, hy0, hy1, hy2⟩ := info_parts info_u8
  have h0' := Lib.hid h0
  have h1' := Lib.hid h1
  obtain ⟨hr0, _, a0, c0, rfl, _⟩ := h0
  have HN := Lib.hid hn0
  have HZ := Lib.hid hr0
  clear hn0 hr0
  obtain ⟨_, _, a1, c1, rfl, _⟩ := h1
  go_enter Try.func5, Try.ntmps5
  go_wp2_with fail; refine (s_NewLog 2000 (by decide) _).mono ?_; rintro e w1 ⟨rfl, hb1⟩; have hz1 := hb1.size; (try simp only [World.size_alloc, World.size_setCell, World.size_drew, size_drewN] at hz1); (try (have hq1_1 := fun o => hb1.cell (p := ⟨w.heap.size, o, none⟩) (by first | omega | (simp only [World.size_alloc, World.size_setCell, World.size_drew, size_drewN]; omega)); have hr1_1 := fun o => hb1.frozen (p := ⟨w.heap.size, o, none⟩) (by first | omega | (simp only [World.size_alloc, World.size_setCell, World.size_drew, size_drewN]; omega)))); (try (have hl1_1 : w.heap.size < w1.heap.size := (by omega); have hm1_1 : w.heap.size ≤ w1.heap.size := (by omega); have hn1_1 : ¬ w.heap.size = w1.heap.size := (by omega); have ho1_1 : ¬ w1.heap.size = w.heap.size := (by omega))); (try (have hq1_2 := fun o => hb1.cell (p := ⟨w.heap.size + 1, o, none⟩) (by first | omega | (simp only [World.size_alloc, World.size_setCell, World.size_drew, size_drewN]; omega)); have hr1_2 := fun o => hb1.frozen (p := ⟨w.heap.size + 1, o, none⟩) (by first | omega | (simp only [World.size_alloc, World.size_setCell, World.size_drew, size_drewN]; omega)))); (try (have hl1_2 : w.heap.size + 1 < w1.heap.size := (by omega); have hm1_2 : w.heap.size + 1 ≤ w1.heap.size := (by omega); have hn1_2 : ¬ w.heap.size + 1 = w1.heap.size := (by omega); have ho1_2 : ¬ w1.heap.size = w.heap.size + 1 := (by omega))); (try (have hq1_3 := fun o => hb1.cell (p := ⟨w.heap.size + 1 + 1, o, none⟩) (by first | omega | (simp only [World.size_alloc, World.size_setCell, World.size_drew, size_drewN]; omega)); have hr1_3 := fun o => hb1.frozen (p := ⟨w.heap.size + 1 + 1, o, none⟩) (by first | omega | (simp only [World.size_alloc, World.size_setCell, World.size_drew, size_drewN]; omega)))); (try (have hl1_3 : w.heap.size + 1 + 1 < w1.heap.size := (by omega); have hm1_3 : w.heap.size + 1 + 1 ≤ w1.heap.size := (by omega); have hn1_3 : ¬ w.heap.size + 1 + 1 = w1.heap.size := (by omega); have ho1_3 : ¬ w1.heap.size = w.heap.size + 1 + 1 := (by omega))); have hB1 : Below w.heap.size w w1 := (by (repeat (first | exact Below.refl _ _ | (refine Below.alloc ?_ (by first | omega | (simp only [World.size_alloc, World.size_setCell, World.size_drew, size_drewN]; omega)) _) | (refine Below.setCell ?_ (by first | omega | (simp only [World.size_alloc, World.size_setCell, World.size_drew, size_drewN]; omega)) _) | refine Below.drew ?_ | refine below_drewN ?_ _ | (refine Below.trans ?_ (Below.mono (by assumption) (by first | omega | (simp only [World.size_alloc, World.size_setCell, World.size_drew, size_drewN]; omega))))))); have hC1 := (bcell hB1).1; have hF1 := (bcell hB1).2
  go_wp2
  have hL := Nat.le_refl w1.heap.size
  go_loopw [7, 8, 9] (fun v s i wr => ∃ (k j : Nat) (rs : List Bytes), i = .int .i64 k ∧ k ≤ 6 ∧ rs.length = k ∧ s = .int .i64 j ∧ TornAt (w1.heap.size + 1) w1.heap.size w wr v rs j) (fun _ _ i _ => 6 - (intOf i).toNat)
  case atStart =>
    refine ⟨0, 0, [], rfl, by omega, rfl, rfl, ⟨by simp [go_sem], by simp [go_sem, frames, bs], by simp [go_sem, frames], by simp [go_sem], by simp [go_sem], by simp [go_sem], ?_, by (repeat (first | exact Below.refl _ _ | (refine Below.alloc ?_ (by first | omega | (simp only [World.size_alloc, World.size_setCell, World.size_drew, size_drewN]; omega)) _) | (refine Below.setCell ?_ (by first | omega | (simp only [World.size_alloc, World.size_setCell, World.size_drew, size_drewN]; omega)) _) | refine Below.drew ?_ | refine below_drewN ?_ _ | (refine Below.trans ?_ (Below.mono (by assumption) (by first | omega | (simp only [World.size_alloc, World.size_setCell, World.size_drew, size_drewN]; omega)))))), by simp, by simp⟩⟩
    have := World.ownsRow_made (base := w1.heap.size + 1) (size := 1) (e := 9) (w1.alloc (.cells #[.int .i64 2000, .string (bs []), .int .i64 0] 25)) #[] 0 (by simp) (by decide) rfl
    simpa using this
  case round =>
    obtain ⟨k, j, rs, rfl, hk, hlen, rfl, T⟩ := hrel
    by_cases hlt : k < 6
    · have hb0 : IsBytes wr (.slice a0 z0.length c0) z0 := h0'.out.below T.bel
      have hb0' : IsBytes (wr.alloc (.cells #[.int .u8 k] 5)) (.slice a0 z0.length c0) z0 := hb0.below ((Below.refl _ _).alloc (Nat.le_refl _) _)
      have HS := Lib.hid hb0'.src.2
      have T' := Lib.hid T
      obtain ⟨t0, t1, t2, f0, f1, f2, town, tbel, tsm, tsu⟩ := T
      have htl := tbel.size
      clear tsm hb0 hb0'
      go_wp2_with (at_builtin; refine wpList_append_src rfl _ _ 34 rfl wr.heap.size 5 j0 (.int .u8 0) 1 1 Try.underlying34 hj hy0 hy1 hy2 rfl (by decide) _ _ _ rfl (own_lit wr 5 #[.int .u8 k] 1 rfl (by decide)) a0 z0.length c0 (z0.map (Value.int .u8)) rfl ?n1 (by simp) HS.out ?n2 ?n3 ?n4 ?n5 ?_)
      case n1 => intro e; subst e; exact ⟨h0'.out.nil_len, HN.out _ _ rfl⟩
      case n2 => intro u hu; obtain ⟨z, _, rfl⟩ := List.mem_map.1 hu; rfl
      case n3 => unfold maxLen; omega
      case n4 => omega
      case n5 => simp
      · intro v' w2 hown2 hgrow2
        have hv2 : IsBytes w2 v' ((k : Int) :: z0) := (IsBytes.of_own (zs := (k : Int) :: z0) (by simpa [Nat.add_comm] using hown2) (by simp only [List.mem_cons]; rintro z (rfl | h); omega; exact HZ.out z h)).1
        have hb2 : Below wr.heap.size wr w2 := ((Below.refl _ _).alloc (Nat.le_refl _) _).grown hgrow2 (by simp) (by simp [Value.ownBlock])
        clear hown2 hgrow2
        go_wp2_with fail
        refine (s_RecordOf _ _ _ hv2).mono ?_
        rintro e w3 ⟨t, rfl, ht1, ht2, hb3⟩
        obtain ⟨r, rfl⟩ := bs_ex t
        simp only [bs_size] at ht1 ht2
        have hb3' : Below wr.heap.size wr w3 := hb2.trans (hb3.mono hb2.size)
        have T3' := Lib.hid (T'.out.below hb3' htl)
        have hfl := frames_small rs T'.out.small
        have hft := frames_take_le rs j
        clear t0 t1 t2 f0 f1 f2 town tbel hv2 hb2 hb3
        obtain ⟨t0, t1, t2, f0, f1, f2, town, tbel, tsm, tsu⟩ := T3'.out
        clear tsm
        have htl3 := hb3'.size
        go_wp2_with fail
        refine (s_LogAppend 2000 _ (frames rs) r _ (logOK_bs.mpr (by omega)) (by omega) ht1 (by omega)).mono ?_
        rintro e w4 ⟨rfl, hb4⟩
        have T4' := Lib.hid (T3'.out.below hb4 (by omega))
        have hz4 := hb4.size
        clear t0 t1 t2 f0 f1 f2 town tbel hb4
        obtain ⟨t0, t1, t2, f0, f1, f2, town, tbel, tsm, tsu⟩ := T4'.out
        clear tsm
        have hLB : w1.heap.size < w1.heap.size + 1 := by omega
        have HT := Lib.hid (T4'.out.row hLB (frames rs ++ frameL r) (frames (rs.take j)).length r)
        go_wp2_with (at_builtin; refine wpList_append_own _ rfl _ _ 36 rfl (w1.heap.size + 1) 9 i0 (.string ⟨#[]⟩) 1 16 Try.underlying36 hi hz0 hzs1 hz2 rfl (by decide) _ _ _ rfl HT.out ⟨w4.heap.size, 0, none⟩ 1 1 [.string (bs r)] rfl rfl ?m1 ?m2 ?m3 ?m4 ?m5 ?_)
        case m1 =>
          intro j u hj
          match j, hj with
          | 0, hj => simp at hj; subst hj; simp [Addr.add, go_sem]
        case m2 => intro u hu; simp at hu; subst hu; rfl
        case m3 => unfold maxLen; omega
        case m4 => omega
        case m5 => have := World.block_lt_of_cell? _ _ t0; simp at this ⊢; omega
        · intro v5 w5 hown5 hg5 _
          have T5' := Lib.hid (T4'.out.push hLB hz1 hg5 (by rw [hlen]; simpa using hown5) ht1 ht2)
          clear t0 t1 t2 f0 f1 f2 town tbel
          obtain ⟨a5, c5, rfl⟩ := own_form hown5
          clear hown5 hg5
          have h15 := h1'.out.below T5'.out.bel
          go_wp2_with fail
          refine (l_at _ z1 k 3 _ h15 hl1 (by omega) (by omega) (by omega) (by omega)).mono ?_
          rintro e w6 ⟨x, _, rfl, hx0, hx1, nd, rfl⟩
          have T6' := Lib.hid (T5'.out.below (Below.refl _ _ |>.trans (below_drewN (Below.refl _ _) nd)) (T5'.out.bel.size))
          have hlen5 : (rs ++ [r]).length = k + 1 := by simp [hlen]
          have hsm := frames_small (rs ++ [r]) T5'.out.small
          have hft6 := frames_take_le (rs ++ [r]) j
          clear h15 hfl hft
          by_cases hx : x = 0
          · subst hx
            obtain ⟨t0, t1, t2, f0, f1, f2, town, tbel, tsm, tsu⟩ := T6'.out
            clear tsm
            go_wp2_with fail
            refine (i_LogSync 2000 _ (frames (rs ++ [r])) _ (logOK_bs.mpr (by omega))).mono ?_
            rintro e w7 ⟨rfl, hb7⟩
            have T7' := Lib.hid (T6'.out.below hb7 tbel.size)
            clear t0 t1 t2 f0 f1 f2 town tbel hb7
            obtain ⟨t0, t1, t2, f0, f1, f2, town, tbel, tsm, tsu⟩ := T7'.out
            clear tsm
            have hl7 := World.block_lt_of_cell? _ _ t0
            dsimp only at hl7
            have hlA7 : w1.heap.size < w7.heap.size := (by omega); have hlB7 : w1.heap.size ≤ w7.heap.size := (by omega); have hlC7 : ¬ w1.heap.size = w7.heap.size := (by omega); have hlD7 : ¬ w7.heap.size = w1.heap.size := (by omega)
            go_wp2
            refine ⟨⟨k + 1, k + 1, rs ++ [r], int_eq (by omega), by omega, hlen5, int_eq (by omega), ?_⟩, by simp [intOf]; omega⟩
            have := T7'.out.sync hLB hz1 (.cells #[.int .i64 2000, .string (bs (frames (rs ++ [r]))), .int .i64 (frames (rs ++ [r])).length] 25)
            rw [hlen5] at this
            exact this
          · have hx' : ((x == 0) : Bool) = false := by simpa using hx
            go_wp2
            exact ⟨⟨k + 1, j, rs ++ [r], int_eq (by omega), by omega, hlen5, rfl, T6'.out⟩, by simp [intOf]; omega⟩
    · obtain rfl : k = 6 := by omega
      have T' := Lib.hid T
      have h11 : IsBytes wr.drew (.slice a1 z1.length c1) z1 := (h1'.out.below T.bel).below (Below.drew (Below.refl _ _))
      have hsm := frames_small rs T.small
      have hft := frames_take_le rs j
      obtain ⟨t0, t1, t2, f0, f1, f2, town, tbel, tsm, tsu⟩ := T
      clear tsm
      have hl7 := World.block_lt_of_cell? _ _ t0
      dsimp only at hl7
      obtain ⟨av, cv, rfl⟩ := own_form town
      have h11a : IsBytes (wr.alloc (.cells #[.int .i64 0, .string ⟨#[]⟩, .int .i64 0] 25)).drew (.slice a1 z1.length c1) z1 := (h1'.out.below T'.out.bel).below (Below.drew ((Below.refl _ _).alloc (Nat.le_refl _) _))
      have hok : logOK 2000 (bs (frames rs)) (frames (rs.take j)).length = true := logOK_bs.mpr (by omega)
      have hLC : ∀ (x : Int) (W : World), Calls Try.prog 10 #[.agg #[.int .i64 2000, .string (bs (frames rs)), .int .i64 (frames (rs.take j)).length], .int .i64 x] W (RetB (.tuple #[.agg #[.int .i64 2000, .string (bs ((frames rs).take (crashN (frames rs).length (frames (rs.take j)).length x))), .int .i64 ((frames rs).take (crashN (frames rs).length (frames (rs.take j)).length x)).length], .int .i64 0]) W) := fun x W => i_LogCrash_ok _ _ x _ W hok
      go_wp2
      go_region_with (first | (go_at_call 17; refine (l_at _ z1 9 90 _ (by first | exact h11 | exact h11a) hl1 (by omega) (by omega) (by omega) (by omega)).mono ?_; rintro e w6 ⟨x, _, rfl, hx0, hx1, nd, rfl⟩) | (go_at_call 10; refine (hLC _ _).mono ?_; rintro e w7 ⟨rfl, hb7⟩; obtain ⟨hc7, hf7, hz7⟩ := bcall hb7))
      all_goals
        obtain ⟨m, hjm, hm6, hRep, hRec⟩ := torn_cut rs T'.out.small (by omega) j T'.out.sure x
        have hRecL : (rs.take m).length = m := by simp; omega
        clear h11 h11a hok hLC
        obtain ⟨_, ⟨_, h6⟩ | ⟨g, cap, cur, hav, hgB, hgc, h6c, hcm, hcs, hct⟩⟩ := town
        · omega
        cases hav
        clear hgc hcs hct
        go_wp2_with fail
        refine (hRep _).mono ?_
        rintro e w8 ⟨rfl, hb8⟩
        have hz8 := hb8.size
        (try simp only [World.size_alloc, World.size_setCell, World.size_drew, size_drewN] at hz7)
        (try simp only [World.size_alloc, World.size_setCell, World.size_drew, size_drewN] at hz8)
        have hBr8 : Below wr.heap.size wr w8 := by (repeat (first | exact Below.refl _ _ | (refine Below.alloc ?_ (by first | omega | (simp only [World.size_alloc, World.size_setCell, World.size_drew, size_drewN]; omega)) _) | (refine Below.setCell ?_ (by first | omega | (simp only [World.size_alloc, World.size_setCell, World.size_drew, size_drewN]; omega)) _) | refine Below.drew ?_ | refine below_drewN ?_ _ | (refine Below.trans ?_ (Below.mono (by assumption) (by first | omega | (simp only [World.size_alloc, World.size_setCell, World.size_drew, size_drewN]; omega))))))
        clear hb7 hb8
        go_wp2_with fail
        refine (hRec _).mono ?_
        rintro e w9 ⟨v9, rfl, hv9, hb9⟩
        have hz9 := hb9.size
        (try simp only [World.size_alloc, World.size_setCell, World.size_drew, size_drewN] at hz9)
        have hBr9 : Below wr.heap.size wr w9 := by (repeat (first | exact Below.refl _ _ | (refine Below.alloc ?_ (by first | omega | (simp only [World.size_alloc, World.size_setCell, World.size_drew, size_drewN]; omega)) _) | (refine Below.setCell ?_ (by first | omega | (simp only [World.size_alloc, World.size_setCell, World.size_drew, size_drewN]; omega)) _) | refine Below.drew ?_ | refine below_drewN ?_ _ | (refine Below.trans ?_ (Below.mono (by assumption) (by first | omega | (simp only [World.size_alloc, World.size_setCell, World.size_drew, size_drewN]; omega))))))
        have hq9 := hb9.cell (p := ⟨w8.heap.size, 1, none⟩) (by simp)
        clear hb9
        have hlist : IsStrs w9 (.slice (some ⟨g, 0, none⟩) m cv) ((rs.take m).map bs) := by
          refine ⟨by simp [maxLen]; omega, some ⟨g, 0, none⟩, cv, by simp; omega, fun _ => ⟨g, 0, rfl, ?_, fun i t hi => ?_⟩⟩
          · have := (T'.out.own.lt g rfl).2; have := hBr9.size; omega
          · have hg := (T'.out.own.lt g rfl).2
            rw [hBr9.cell (p := ⟨g, 0 + i, none⟩) hg]
            have := T'.out.own.cells (g := g) rfl i (.string t) (by
              rw [List.getElem?_map, List.getElem?_map]
              rw [List.getElem?_map, List.getElem?_take] at hi
              split at hi
              · cases hri : rs[i]? with
                | none => rw [hri] at hi; cases hi
                | some r => rw [hri] at hi; simp at hi ⊢; exact hi
              · cases hi)
            rw [Go.WideShapes.add_plain] at this
            exact this
        have HV := Lib.hid hv9
        have HL := Lib.hid hlist
        obtain ⟨_, a9, c9, hva, _⟩ := hv9
        have hl9 : ((rs.take m).map bs).length = m := by simp; omega
        rw [hl9] at hva
        subst hva
        clear hl9 hlist hRep hRec hRecL
        go_wp2_with (go_at_call 21; refine (l_sameTexts _ _ _ _ HV.out HL.out).mono ?_; rintro e w10 ⟨rfl, nd, rfl⟩)
        go_ret
        exact retB rfl (by (repeat (first | exact Below.refl _ _ | (refine Below.alloc ?_ (by first | omega | (simp only [World.size_alloc, World.size_setCell, World.size_drew, size_drewN]; omega)) _) | (refine Below.setCell ?_ (by first | omega | (simp only [World.size_alloc, World.size_setCell, World.size_drew, size_drewN]; omega)) _) | refine Below.drew ?_ | refine below_drewN ?_ _ | (refine Below.trans ?_ (Below.mono (by assumption) (by first | omega | (simp only [World.size_alloc, World.size_setCell, World.size_drew, size_drewN]; omega)))))))

theorem lawTorn_long (v0 v1 : Value) (z0 z1 : List Int) (w : World) (h0 : IsBytes w v0 z0) (h1 : IsBytes w v1 z1) (hl : 1048576 < z0.length ∨ 1048576 < z1.length) :
    Calls Try.prog 5 #[v0, v1] w (RetB (.bool true) w) := by
  obtain ⟨_, _, a0, c0, rfl, _⟩ := h0
  obtain ⟨_, _, a1, c1, rfl, _⟩ := h1
  by_cases hz : 1048576 < z0.length
  · have hd : decide ((1048576 : Int) < z0.length) = true := by simp; omega
    clear hl
    go_enter Try.func5, Try.ntmps5
    go_wp2
    go_ret
    exact retB rfl (by (repeat (first | exact Below.refl _ _ | (refine Below.alloc ?_ (by first | omega | (simp only [World.size_alloc, World.size_setCell, World.size_drew, size_drewN]; omega)) _) | (refine Below.setCell ?_ (by first | omega | (simp only [World.size_alloc, World.size_setCell, World.size_drew, size_drewN]; omega)) _) | refine Below.drew ?_ | refine below_drewN ?_ _ | (refine Below.trans ?_ (Below.mono (by assumption) (by first | omega | (simp only [World.size_alloc, World.size_setCell, World.size_drew, size_drewN]; omega)))))))
  · have hd : decide ((1048576 : Int) < z0.length) = false := by simp; omega
    have hd1 : decide ((1048576 : Int) < z1.length) = true := by simp; omega
    clear hl
    go_enter Try.func5, Try.ntmps5
    go_wp2
    go_ret
    exact retB rfl (by (repeat (first | exact Below.refl _ _ | (refine Below.alloc ?_ (by first | omega | (simp only [World.size_alloc, World.size_setCell, World.size_drew, size_drewN]; omega)) _) | (refine Below.setCell ?_ (by first | omega | (simp only [World.size_alloc, World.size_setCell, World.size_drew, size_drewN]; omega)) _) | refine Below.drew ?_ | refine below_drewN ?_ _ | (refine Below.trans ?_ (Below.mono (by assumption) (by first | omega | (simp only [World.size_alloc, World.size_setCell, World.size_drew, size_drewN]; omega)))))))

theorem lawTorn_all (v0 v1 : Value) (z0 z1 : List Int) (w : World) (h0 : IsBytes w v0 z0) (h1 : IsBytes w v1 z1) (hn0 : ∀ n c, v0 = .slice none n c → c = 0) : Calls Try.prog 5 #[v0, v1] w (RetB (.bool true) w) := by
  by_cases hl : 1048576 < z0.length ∨ 1048576 < z1.length
  · exact lawTorn_long v0 v1 z0 z1 w h0 h1 hl
  · exact lawTorn v0 v1 z0 z1 w h0 h1 hn0 (by omega) (by omega)

theorem own_fnTorn : ownKnob Try.prog.godebug = none := by kernel_rfl
theorem laidOut_fnTorn : laidOutB Try.prog = true := by kernel_rfl
set_option maxRecDepth 100000 in
theorem lifted_fnTorn (os : Os) (started : os.Started) (H : Type) (enc : TypeId × Value → H) :
    ReturnsInHanded {} Try.checked os 5 .any (Rows.fnTornSpec.pre6 enc Try.prog Try.f5 Rows.fnTornRow.domain false) (Rows.fnTornSpec.post enc Try.prog Try.f5 false true false false) := by
  refine returnsInHanded_of_change (C := Try.checked) own_fnTorn started (by kernel_rfl) Try.func5
    (ChangeSpec.witness6 (enc := enc) (C := Try.checked) false ⟨#[], #[.slice none 0 0, .slice none 0 0], []⟩ 8 (by kernel_rfl) (by kernel_rfl) (by kernel_rfl) (by kernel_rfl)) ?_
  intro W base args ds gs before hval0 hW hcnd _
  have hval : ∀ (j : Nat) t v, Try.f5.params[j]? = some t → args[j]? = some v → Value.okWide Try.prog W .any base t v := hval0
  have hW' := hW
  obtain ⟨p, q, hA0, hV, rfl, hfz, hnd⟩ := hW
  have hA : DataW.TrodAll enc Try.prog W 0 (fun _ => true) true Try.f5.params.toList args.toList ds p := hA0
  rw [Try.params5] at hA hval
  obtain ⟨v0, vs0, d0, ds0, p0, q0, hargs, rfl, rfl, h0, r0⟩ := trodAll_cons hA
  obtain ⟨v1, vs1, d1, ds1, p1, q1, rfl, rfl, rfl, h1, r1⟩ := trodAll_cons r0
  obtain ⟨rfl, rfl, rfl⟩ := trodAll_nil r1
  obtain rfl : args = #[v0, v1] := by cases args; simp_all
  obtain ⟨rfl, rfl⟩ := trodVars_none hV
  have k0 := h0
  have lt0 : ∀ x ∈ p0, x.block < W.heap.size := by obtain ⟨m, hm⟩ := k0; exact DataW.trod_lt m _ _ _ hm
  have k1 := h1
  have lt1 : ∀ x ∈ p1, x.block < W.heap.size := by obtain ⟨m, hm⟩ := k1; exact DataW.trod_lt m _ _ _ hm
  obtain ⟨a0, len0, cap0, rfl⟩ := okWide_slice Try.underlying34 (hval 0 34 v0 rfl rfl)
  obtain ⟨z0, w0, n0⟩ := open_bytes Try.underlying34 Try.underlying5 (by kernel_rfl) h0
  obtain ⟨a1, len1, cap1, rfl⟩ := okWide_slice Try.underlying34 (hval 1 34 v1 rfl rfl)
  obtain ⟨z1, w1, n1⟩ := open_bytes Try.underlying34 Try.underlying5 (by kernel_rfl) h1
  clear hA0 hval0
  refine (lawTorn_all _ _ z0 z1 W w0 w1 n0).mono fun e W' ⟨he, bel⟩ => ?_
  subst he
  exact ⟨_, rfl, _, _, _, [], _, [], hW', trodAll_mk1 (shut_bool Try.underlying4 _), (trodAll_cons_mk (Below.trod laidOut_fnTorn (by kernel_rfl) (of_decide_eq_true (by kernel_rfl)) k0 bel lt0) (trodAll_cons_mk (Below.trod laidOut_fnTorn (by kernel_rfl) (of_decide_eq_true (by kernel_rfl)) k1 bel lt1) trodAll_mk0)), rfl, bel.frame _, fun h => by cases h⟩

/-- THE STATEMENT. -/
theorem proved_fnTorn : Rows.FnTornSaid :=
  OpenClaim.holds_of_wide 5 Try.f5 rfl rfl rfl rfl rfl rfl rfl ⟨rfl, rfl, rfl, rfl, rfl⟩ rfl rfl rfl rfl rfl (by kernel_rfl) Try.func5 (by kernel_rfl)
    (of_decide_eq_true (by kernel_rfl)) (by unfold Func.isWrapper; first | (rw [if_pos (by decide +kernel)]; kernel_rfl) | (rw [if_neg (by decide +kernel)]; exact ⟨rfl, rfl⟩))
    (fun os started H enc _ => lifted_fnTorn os started H enc)
#print axioms proved_fnTorn
end Go.Proofs.Ytjfkhklbnjdbjaa
