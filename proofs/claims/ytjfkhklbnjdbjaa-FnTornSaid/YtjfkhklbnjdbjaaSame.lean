/- The laws' own comparison of two lists of texts, where they are alike. -/
import Derived.Test.YtjfkhklbnjdbjaaRows
import Derived.Test.YtjfkhklbnjdbjaaPure
import Derived.Outline
import Derived.Deep.QuietTactic
import Derived.BigQuiet
set_option linter.unusedVariables false
set_option linter.unusedSimpArgs false
set_option maxHeartbeats 8000000
set_option maxRecDepth 100000
namespace Go.Proofs.Ytjfkhklbnjdbjaa
open Go.RowKit

theorem below_of_drawn {B : Nat} {w w' : World} (h : ∃ k, w' = w.drewN k) : Below B w w' := by
  obtain ⟨k, rfl⟩ := h; exact below_drewN (Below.refl _ _) k

theorem l_sameTexts (v1 v2 : Value) (l : List ByteArray) (w : World) (h1 : IsStrs w v1 l) (h2 : IsStrs w v2 l) : Calls Try.prog 21 #[v1, v2] w fun e w' => e = .returned (.bool true) ∧ ∃ k, w' = w.drewN k := by
  obtain ⟨hm, a1, c1, rfl, h1⟩ := h1
  obtain ⟨_, a2, c2, rfl, h2⟩ := h2
  unfold maxLen at hm
  have H1 := Lib.hid h1
  have H2 := Lib.hid h2
  clear h1 h2
  go_enter Try.func21, Try.ntmps21
  go_wp2
  go_loopw [5] (fun i wr => ∃ k nd : Nat, k ≤ l.length ∧ i = .int .i64 k ∧ wr = w.drewN nd) (fun i _ => l.length - (intOf i).toNat)
  case atStart => exact ⟨0, 0, by omega, rfl, rfl⟩
  case round =>
    obtain ⟨k, nd, hk, rfl, rfl⟩ := hrel
    by_cases hlt : k < l.length
    · have hne : l ≠ [] := by rintro rfl; simp at hlt
      obtain ⟨b1, o1, rfl, hb1, hc1⟩ := H1.out hne
      obtain ⟨b2, o2, rfl, hb2, hc2⟩ := H2.out hne
      have g1 := hc1 k _ (List.getElem?_eq_getElem hlt)
      have g2 := hc2 k _ (List.getElem?_eq_getElem hlt)
      generalize l[k] = t at *
      have hdk : decide ((k : Int) < l.length) = true := by simpa using hlt
      clear hc1 hc2 H1 H2 hne
      go_wp2
      go_quiet (fail)
      go_wp2
      exact ⟨⟨k + 1, _, by omega, int_eq (by omega), rfl⟩, by simp [intOf]; omega⟩
    · obtain rfl : k = l.length := by omega
      go_wp2
      go_ret
      exact ⟨rfl, nd, rfl⟩

end Go.Proofs.Ytjfkhklbnjdbjaa
