/- A record's bytes: what the program and what the reference make of it. -/
import Derived.Test.YtjfkhklbnjdbjaaLogPure
set_option linter.unusedVariables false
set_option linter.unusedSimpArgs false
set_option maxHeartbeats 8000000
set_option maxRecDepth 100000
namespace Go.Proofs.Ytjfkhklbnjdbjaa
open Go.RowKit

theorem conv_str (l : Bytes) (w : World) : (convert 9 34 (.string (bs l))).run Try.prog w = .ok (.slice (some ⟨w.heap.size, 0, none⟩) (bs l).size (grownCap w (bs l).size 0 5)) (Lib.bytesWorld w 5 (bs l)) :=
  Lib.run_convert_string_bytes w 9 34 5 (bs l) Try.underlying9 Try.underlying34 Try.underlying5

theorem i_recordBytes (r : Bytes) (w : World) (hr : r.length ≤ 65536) : Calls Try.prog 58 #[.string (bs r)] w (RetB (.string (bs (frameL r))) w) := by
  have hcv := conv_str (beL r.length 3 ++ r)
  have hb3 := beL_length r.length 3
  have hb4 := beL_length (check32 (beL r.length 3 ++ r)) 4
  have hs1 : ¬ 9223372036854775807 < 3 + r.length := by omega
  have hs2 : ¬ 9223372036854775807 < 7 + r.length := by omega
  have hs3 : ¬ 9223372036854775807 < 3 + 4 + r.length := by omega
  go_enter Try.func58, Try.ntmps58
  go_wp2_with fail; refine (i_inBytes3 r.length _).mono ?_; rintro e w1 ⟨rfl, hb1⟩; have hz1 := hb1.size; (try simp only [World.size_alloc, World.size_setCell, World.size_drew, size_drewN] at hz1); (try (have hq1_1 := fun o => hb1.cell (p := ⟨w.heap.size, o, none⟩) (by first | omega | (simp only [World.size_alloc, World.size_setCell, World.size_drew, size_drewN]; omega)); have hr1_1 := fun o => hb1.frozen (p := ⟨w.heap.size, o, none⟩) (by first | omega | (simp only [World.size_alloc, World.size_setCell, World.size_drew, size_drewN]; omega)))); (try (have hl1_1 : w.heap.size < w1.heap.size := (by omega); have hm1_1 : w.heap.size ≤ w1.heap.size := (by omega); have hn1_1 : ¬ w.heap.size = w1.heap.size := (by omega); have ho1_1 : ¬ w1.heap.size = w.heap.size := (by omega))); (try (have hq1_2 := fun o => hb1.cell (p := ⟨w.heap.size + 1, o, none⟩) (by first | omega | (simp only [World.size_alloc, World.size_setCell, World.size_drew, size_drewN]; omega)); have hr1_2 := fun o => hb1.frozen (p := ⟨w.heap.size + 1, o, none⟩) (by first | omega | (simp only [World.size_alloc, World.size_setCell, World.size_drew, size_drewN]; omega)))); (try (have hl1_2 : w.heap.size + 1 < w1.heap.size := (by omega); have hm1_2 : w.heap.size + 1 ≤ w1.heap.size := (by omega); have hn1_2 : ¬ w.heap.size + 1 = w1.heap.size := (by omega); have ho1_2 : ¬ w1.heap.size = w.heap.size + 1 := (by omega))); (try (have hq1_3 := fun o => hb1.cell (p := ⟨w.heap.size + 1 + 1, o, none⟩) (by first | omega | (simp only [World.size_alloc, World.size_setCell, World.size_drew, size_drewN]; omega)); have hr1_3 := fun o => hb1.frozen (p := ⟨w.heap.size + 1 + 1, o, none⟩) (by first | omega | (simp only [World.size_alloc, World.size_setCell, World.size_drew, size_drewN]; omega)))); (try (have hl1_3 : w.heap.size + 1 + 1 < w1.heap.size := (by omega); have hm1_3 : w.heap.size + 1 + 1 ≤ w1.heap.size := (by omega); have hn1_3 : ¬ w.heap.size + 1 + 1 = w1.heap.size := (by omega); have ho1_3 : ¬ w1.heap.size = w.heap.size + 1 + 1 := (by omega))); have hB1 : Below w.heap.size w w1 := (by (repeat (first | exact Below.refl _ _ | (refine Below.alloc ?_ (by first | omega | (simp only [World.size_alloc, World.size_setCell, World.size_drew, size_drewN]; omega)) _) | (refine Below.setCell ?_ (by first | omega | (simp only [World.size_alloc, World.size_setCell, World.size_drew, size_drewN]; omega)) _) | refine Below.drew ?_ | refine below_drewN ?_ _ | (refine Below.trans ?_ (Below.mono (by assumption) (by first | omega | (simp only [World.size_alloc, World.size_setCell, World.size_drew, size_drewN]; omega))))))); have hC1 := (bcell hB1).1; have hF1 := (bcell hB1).2
  go_wp2_with fail
  refine (i_Check32 _ (beL r.length 3 ++ r) _ (IsBytes.conv w1 _ _ _ _ (by simp [maxLen]; omega) (by simp [hb3]))).mono ?_
  rintro e w2 ⟨rfl, rfl⟩
  have hb2 := below_bytesWorld hB1 hB1.size 5 (bs (beL r.length 3 ++ r))
  go_wp2_with fail
  refine (i_inBytes4 _ _).mono ?_
  rintro e w3 ⟨rfl, hb3'⟩
  have hB3 := hb2.trans (hb3'.mono hb2.size)
  go_wp2
  go_ret
  exact retB rfl hB3

theorem beL_get (size : Nat) : ∀ (n k : Nat) (h : k < size), (beL n size)[k]'(by rw [beL_length]; exact h) = UInt8.ofNat (n / 256 ^ (size - 1 - k)) := by
  induction size with
  | zero => intro n k h; omega
  | succ s ih =>
    intro n k h
    simp only [beL, List.getElem_append, beL_length]
    split
    · rename_i hk
      rw [ih _ _ hk, Nat.div_div_eq_div_mul, ← Nat.pow_succ', show (s - 1 - k).succ = s + 1 - 1 - k by omega]
    · obtain rfl : k = s := by omega
      simp
theorem ints_be_take (n size k : Nat) (h : k < size) : (ints ((beL n size).take (k + 1))).map (Value.int .u8) = (ints ((beL n size).take k)).map (Value.int .u8) ++ [Value.int .u8 ((n : Int) / 2 ^ (8 * (size - 1 - k)) % 256)] := by
  have hl : k < (beL n size).length := by rw [beL_length]; exact h
  rw [List.take_succ_eq_append_getElem hl, beL_get size n k h]
  simp only [ints, List.map_append, List.map_cons, List.map_nil, UInt8.toNat_ofNat']
  congr 3
  rw [show (256 : Nat) = 2 ^ 8 by decide, ← Nat.pow_mul]
  norm_cast

theorem s_l08Bytes (n size : Nat) (w : World) (hs : size ≤ 8) : Calls Try.prog 73 #[.int .i64 n, .int .i64 size] w fun e w' => ∃ v, e = .returned v ∧ IsBytes w' v (ints (beL n size)) ∧ Below w.heap.size w w' := by
  obtain ⟨i0, hi, hz0, hz1, hz2⟩ := info_parts info_u8
  go_enter Try.func73, Try.ntmps73
  go_wp2
  go_loopw [5, 6] (fun v i wr => ∃ (k : Nat), k ≤ size ∧ i = .int .i64 ((size : Int) - 1 - k) ∧ wr.ownsRow w.heap.size 5 1 v k ((ints ((beL n size).take k)).map (Value.int .u8)) ∧ Below w.heap.size w wr) (fun _ i _ => (intOf i + 1).toNat)
  case atStart => exact ⟨0, by omega, by simp, World.ownsRow_made w #[] 0 (Nat.le_refl _) (by decide) rfl, (Below.refl _ _).alloc (Nat.le_refl _) _⟩
  case round =>
    obtain ⟨k, hk, rfl, hown, hbel⟩ := hrel
    by_cases hlt : k < size
    · have HS := Lib.hid (ints_be_take n size k hlt)
      have hzl := hbel.size
      go_wp2_with (at_builtin; refine wpList_append_own _ rfl _ _ 34 rfl w.heap.size 5 i0 (.int .u8 0) 1 1 Try.underlying34 hi hz0 hz1 hz2 rfl (by decide) _ _ _ rfl (hown.alloc _) ⟨wr.heap.size, 0, none⟩ 1 1 [.int .u8 ((n : Int) / 2 ^ (8 * (size - 1 - k)) % 256)] rfl rfl ?c1 ?c2 ?c3 ?c4 ?c5 ?_)
      case c1 =>
        intro j u hj
        match j, hj with
        | 0, hj => simp at hj; subst hj; simp [Addr.add, go_sem]
      case c2 => intro u hu; simp at hu; subst hu; rfl
      case c3 => unfold maxLen; omega
      case c4 => omega
      case c5 => simp; omega
      · intro v' w3 hown3 hgrow _
        have hb3 : Below w.heap.size w w3 := ((hbel.alloc (by omega) _).grown hgrow (by simp; omega) (fun g e => (hown.lt g e).1))
        rw [← HS.out] at hown3
        clear HS
        go_wp2
        exact ⟨⟨k + 1, by omega, int_eq (by omega), hown3, hb3⟩, by simp [intOf]; omega⟩
    · obtain rfl : k = size := by omega
      go_wp2
      go_ret
      rw [List.take_of_length_le (by rw [beL_length]; omega)] at hown
      have hl : (ints (beL n k)).length = k := by rw [ints_length, beL_length]
      exact ⟨_, rfl, (IsBytes.of_own (zs := ints (beL n k)) (by rw [hl]; exact hown) (ints_range _)).1, hbel⟩

theorem s_l08Frame (r : Bytes) (w : World) (hr : r.length ≤ 65000) : Calls Try.prog 56 #[.string (bs r)] w (RetB (.string (bs (frameL r))) w) := by
  have hcv := conv_str (beL r.length 3 ++ r)
  have hb3 := beL_length r.length 3
  have hb4 := beL_length (crcN (beL r.length 3 ++ r)) 4
  have hs1 : ¬ 9223372036854775807 < 3 + r.length := by omega
  have hs3 : ¬ 9223372036854775807 < 3 + 4 + r.length := by omega
  have hf : bs (frameL r) = bs (beL r.length 3 ++ beL (crcN (beL r.length 3 ++ r)) 4 ++ r) := by rw [frameL, check32, if_pos (by simp [hb3]; omega)]
  rw [hf]
  clear hf
  go_enter Try.func56, Try.ntmps56
  go_wp2_with fail
  refine (s_l08Bytes r.length 3 _ (by omega)).mono ?_
  rintro e w1 ⟨v1, rfl, hv1, hb1⟩
  have hc1 := conv_bytes (P := Try.prog) hv1 34 5 9 Try.underlying34 Try.underlying5 Try.underlying9
  rw [strOf_ints] at hc1
  go_wp2_with fail
  refine (s_l07Check _ (beL r.length 3 ++ r) _ (IsBytes.conv w1 _ _ _ _ (by simp [maxLen]; omega) (by simp [hb3]))).mono ?_
  rintro e w2 ⟨rfl, rfl⟩
  have hb2 := below_bytesWorld hb1 hb1.size 5 (bs (beL r.length 3 ++ r))
  go_wp2_with fail
  refine (s_l08Bytes _ 4 _ (by omega)).mono ?_
  rintro e w3 ⟨v3, rfl, hv3, hb3'⟩
  have hB3 := hb2.trans (hb3'.mono hb2.size)
  have hc3 := conv_bytes (P := Try.prog) hv3 34 5 9 Try.underlying34 Try.underlying5 Try.underlying9
  rw [strOf_ints] at hc3
  clear hc1
  go_wp2
  go_ret
  exact retB rfl hB3

end Go.Proofs.Ytjfkhklbnjdbjaa
