/- The reference's source: a drawn text of lines. -/
import Derived.Test.YtjfkhklbnjdbjaaDoorSrcNew
import Derived.Test.YtjfkhklbnjdbjaaDoorStuffPure
set_option linter.unusedVariables false
set_option linter.unusedSimpArgs false
set_option maxHeartbeats 8000000
set_option maxRecDepth 100000
namespace Go.Proofs.YtjfkhklbnjdbjaaDoor
open Go.RowKit

/-- A text of at most m bytes, of lines. -/
def LinesUpto (m : Nat) (v : Value) (_ : World) : Prop := ∃ t : Bytes, v = .string (bs t) ∧ linesL t = true ∧ t.length ≤ m

theorem linesL_append {a b : Bytes} (ha : linesL a = true) (hb : linesL b = true) : linesL (a ++ b) = true := by
  by_cases h : b = []
  · subst h; simpa using ha
  · unfold linesL at hb ⊢
    have hb2 : ([13, 10] : Bytes).isSuffixOf b = true := by
      rcases Bool.or_eq_true_iff.1 hb with h' | h'
      · exact absurd (List.isEmpty_iff.1 h') h
      · exact h'
    have := List.isSuffixOf_iff_suffix.1 hb2
    rw [List.isSuffixOf_iff_suffix.2 (this.trans (List.suffix_append a b))]
    simp

theorem six_lines : ∀ t ∈ ([⟨#[108, 105, 110, 101, 13, 10]⟩, ⟨#[46, 13, 10]⟩, ⟨#[46, 46, 13, 10]⟩, ⟨#[46, 120, 13, 10]⟩, ⟨#[13, 10]⟩, ⟨#[97, 46, 98, 13, 10]⟩] : List ByteArray), ∃ u : Bytes, t = bs u ∧ linesL u = true ∧ u.length ≤ 6 := by
  intro t ht
  simp only [List.mem_cons, List.not_mem_nil, or_false] at ht
  rcases ht with rfl | rfl | rfl | rfl | rfl | rfl <;> exact ⟨_, (bs_of _).symm, by decide, by decide⟩

theorem src_stuffing (S : SrcId) (N : Int) (w : World) (h : Src w S N) (hN : N < 100000000) :
    Calls Tryd.prog 16 #[S.ptr] w (Drawn S (N + 30) (LinesUpto 36) w) := by
  go_enter Tryd.func16, Tryd.ntmps16
  go_wp2_with fail; refine (src_next S N 6 w h (by omega) (by omega) (by omega)).mono ?_; rintro e w1 ⟨_, rfl, ⟨x, rfl, hx0, hx1⟩, hs1, hk1⟩
  go_wp2
  go_loopw [3, 4] (fun v i wr => ∃ (k : Int) (o : Bytes), i = .int .i64 k ∧ 0 ≤ k ∧ k ≤ 5 ∧ v = .string (bs o) ∧ o.length + 6 * k ≤ 36 ∧ linesL o = true ∧ Src wr S (N + 3 * (6 - k)) ∧ Keep (· = S.b) w wr)
    (fun _ i _ => (intOf i).toNat)
  case atStart => exact ⟨x, [], rfl, hx0, by omega, rfl, by simp; omega, rfl, hs1.up (by omega), hk1⟩
  case round =>
    obtain ⟨k, o, rfl, hk0, hk5, rfl, hlen, hlin, hs, hkeep⟩ := hrel
    by_cases hpos : 0 < k
    · go_wp2_with fail
      refine (src_pick S _ _ [⟨#[108, 105, 110, 101, 13, 10]⟩, ⟨#[46, 13, 10]⟩, ⟨#[46, 46, 13, 10]⟩, ⟨#[46, 120, 13, 10]⟩, ⟨#[13, 10]⟩, ⟨#[97, 46, 98, 13, 10]⟩] _ (hs.below ((Below.refl _ _).alloc (Nat.le_refl _) _)) (by omega) (IsStrs.new _ _ _ _ _ _ (by simp [maxLen]) rfl rfl) (by simp) (by simp) (by rintro a n c e; cases e; exact Nat.ne_of_gt hs.lt)).mono ?_
      rintro e w2 ⟨_, rfl, ⟨t, rfl, ht⟩, hs2, hk2⟩
      obtain ⟨u, rfl, hu1, hu2⟩ := six_lines t ht
      have hk3 : Keep (· = S.b) w w2 := (hkeep.alloc _).trans hk2
      clear hk2 ht
      have hou : o.length + u.length ≤ 36 := by omega
      go_wp2
      exact ⟨⟨k - 1, o ++ u, rfl, by omega, by omega, by simp [go_sem], by simp; omega, linesL_append hlin hu1, hs2.up (by omega), hk3⟩, by simp [intOf]; omega⟩
    · obtain rfl : k = 0 := by omega
      go_wp2
      go_ret
      exact ⟨_, rfl, ⟨o, rfl, hlin, by omega⟩, hs.up (by omega), hkeep⟩

/-- A drawn text of lines. -/
theorem s_StuffingOf (v : Value) (zs : List Int) (w : World) (h : IsBytes w v zs) :
    Calls Tryd.prog 7 #[v] w fun e w' => ∃ t : Bytes, e = .returned (.string (bs t)) ∧ linesL t = true ∧ t.length ≤ 36 ∧ Below w.heap.size w w' := by
  go_enter Tryd.func7, Tryd.ntmps7
  go_wp2_with fail
  refine (src_new v zs w h).mono ?_
  rintro e w1 ⟨b, rfl, hb, hs, hb1⟩
  go_wp2_with fail
  refine (src_stuffing ⟨b, v, zs⟩ 0 w1 hs (by omega)).mono ?_
  rintro e w2 ⟨_, rfl, ⟨t, rfl, h1, h2⟩, hs2, hk2⟩
  go_wp2
  go_ret
  exact ⟨t, rfl, h1, h2, Keep.after hb1 hk2 (fun k hk (e : k = b) => by omega) hb1.size⟩
end Go.Proofs.YtjfkhklbnjdbjaaDoor
