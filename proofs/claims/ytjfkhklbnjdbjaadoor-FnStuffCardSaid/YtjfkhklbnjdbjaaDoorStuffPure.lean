/- Lines as a block: byte by byte, and by replacing: one answer; a block is read back, and no beginning of it is. No program in sight. -/
import Derived.Test.YtjfkhklbnjdbjaaDoorUnstuffPure
import Derived.Lib.Replace
import Derived.Lib.CountLaws
import Derived.Lib.ReplaceLaws
set_option linter.unusedVariables false
set_option linter.unusedSimpArgs false
namespace Go.Proofs.YtjfkhklbnjdbjaaDoor
open Go.RowKit

/-- Byte by byte: a point ahead of each point that begins a line. -/
def stuffS : Bool → Bool → Bytes → Bytes
  | _, _, [] => []
  | start, p, c :: r => (if start && c == 46 then [46] else []) ++ c :: stuffS (c == 10 && p) (c == 13) r
def repl : Bytes → Bytes
  | [] => []
  | c :: r => if ([13, 10, 46] : Bytes).isPrefixOf (c :: r) then [13, 10, 46, 46] ++ repl (r.drop 2) else c :: repl r
termination_by t => t.length
decreasing_by all_goals simp_wf <;> omega
theorem repl_nil : repl [] = [] := by rw [repl]
theorem repl_hit (r : Bytes) : repl (13 :: 10 :: 46 :: r) = [13, 10, 46, 46] ++ repl r := by rw [repl, if_pos (by simp [List.isPrefixOf])]; simp
theorem repl_miss (c : UInt8) (r : Bytes) (h : ([13, 10, 46] : Bytes).isPrefixOf (c :: r) = false) : repl (c :: r) = c :: repl r := by rw [repl, if_neg (by simp [h])]

theorem stuffS_repl (t : Bytes) : stuffS false false t = repl t := by
  induction h : t.length using Nat.strongRecOn generalizing t with
  | _ n ih =>
    rcases t with _ | ⟨c, r⟩
    · rw [repl_nil]; rfl
    · by_cases hc : c = 13
      · subst hc
        rcases r with _ | ⟨d, r⟩
        · rw [repl_miss _ _ (by simp [List.isPrefixOf]), repl_nil]; rfl
        · by_cases hd : d = 10
          · subst hd
            rcases r with _ | ⟨e, r⟩
            · rw [repl_miss _ _ (by simp [List.isPrefixOf]), repl_miss _ _ (by simp [List.isPrefixOf]), repl_nil]; rfl
            · by_cases he : e = 46
              · subst he
                rw [repl_hit, ← ih r.length (by simp at h; omega) r rfl]
                simp [stuffS]
              · have hb : (e == 46) = false := by simpa using he
                have hb' : ((46 : UInt8) == e) = false := by simpa using fun x => he x.symm
                rw [repl_miss _ _ (by simp [List.isPrefixOf, hb']), repl_miss _ _ (by simp [List.isPrefixOf]), ← ih (e :: r).length (by simp at h ⊢; omega) (e :: r) rfl]
                simp [stuffS, hb]
          · have hb : (d == 10) = false := by simpa using hd
            have hb' : ((10 : UInt8) == d) = false := by simpa using fun x => hd x.symm
            rw [repl_miss _ _ (by simp [List.isPrefixOf, hb']), ← ih (d :: r).length (by simp at h ⊢; omega) (d :: r) rfl]
            simp [stuffS, hb]
      · have hb : (c == 13) = false := by simpa using hc
        have hb' : ((13 : UInt8) == c) = false := by simpa using fun x => hc x.symm
        rw [repl_miss _ _ (by simp [List.isPrefixOf, hb']), ← ih r.length (by simp at h; omega) r rfl]
        simp [stuffS, hb]
theorem stuffS_true (t : Bytes) : stuffS true false t = (if t.head? = some 46 then [46] else []) ++ stuffS false false t := by
  rcases t with _ | ⟨c, r⟩
  · rfl
  · by_cases hc : c = 46
    · subst hc; simp [stuffS]
    · simp [stuffS, hc]

theorem repl_index : ∀ s : Bytes, (Lib.index s [13, 10, 46] = -1 → repl s = s) ∧ ∀ i : Nat, Lib.index s [13, 10, 46] = i → repl s = s.take i ++ [13, 10, 46, 46] ++ repl (s.drop (i + 3))
  | [] => by simp [Lib.index, repl_nil]
  | c :: r => by
    have ih := repl_index r
    have hge := Lib.index_ge r [13, 10, 46]
    have hidx : Lib.index (c :: r) [13, 10, 46] = if ([13, 10, 46] : Bytes).isPrefixOf (c :: r) then 0 else if Lib.index r [13, 10, 46] == -1 then -1 else Lib.index r [13, 10, 46] + 1 := rfl
    cases hp : ([13, 10, 46] : Bytes).isPrefixOf (c :: r) with
    | true =>
      rw [hidx, if_pos hp]
      refine ⟨by simp, fun i hi => ?_⟩
      obtain rfl : i = 0 := by omega
      rw [List.isPrefixOf_iff_prefix] at hp
      obtain ⟨t, ht⟩ := hp
      cases ht
      simp [repl_hit]
    | false =>
      rw [hidx, hp]
      simp only [Bool.false_eq_true, if_false]
      rw [repl_miss _ _ hp]
      by_cases hn : Lib.index r [13, 10, 46] = -1
      · refine ⟨fun _ => by rw [ih.1 hn], fun i hi => ?_⟩
        simp [hn] at hi
      · have hb : (Lib.index r [13, 10, 46] == -1) = false := by simpa using hn
        rw [hb]
        simp only [Bool.false_eq_true, if_false]
        refine ⟨fun h => by omega, fun i hi => ?_⟩
        obtain ⟨j, rfl⟩ : ∃ j, i = j + 1 := ⟨i - 1, by omega⟩
        rw [ih.2 j (by omega)]
        simp [Nat.add_right_comm]

theorem replaceK_repl : ∀ (k : Nat) (s : Bytes), Lib.count s [13, 10, 46] = k → Lib.replaceK [13, 10, 46] [13, 10, 46, 46] k s = repl s
  | 0, s, h => by
    have hm : Lib.index s [13, 10, 46] = -1 := by
      have hge := Lib.index_ge s [13, 10, 46]
      by_cases hm : Lib.index s [13, 10, 46] = -1
      · exact hm
      · have := Lib.count_hit (s := s) (sub := [13, 10, 46]) (i := (Lib.index s [13, 10, 46]).toNat) (by simp) (by omega)
        omega
    rw [Lib.replaceK, (repl_index s).1 hm]
  | k + 1, s, h => by
    have hge := Lib.index_ge s [13, 10, 46]
    by_cases hm : Lib.index s [13, 10, 46] = -1
    · rw [Lib.count_miss hm] at h; omega
    · have hi : Lib.index s [13, 10, 46] = ((Lib.index s [13, 10, 46]).toNat : Int) := by omega
      have hc := Lib.count_hit (s := s) (sub := [13, 10, 46]) (by simp) hi
      rw [Lib.replaceK_hit _ _ _ _ _ hi, replaceK_repl k _ (by simp at hc; simp; omega), (repl_index s).2 _ hi]
      rfl
theorem replaceAll_repl (s : Bytes) : Lib.replaceAll s [13, 10, 46] [13, 10, 46, 46] = repl s := by
  unfold Lib.replaceAll Lib.replace
  rw [if_neg (by decide)]
  have : Lib.replaceNum s [13, 10, 46] (-1) = Lib.count s [13, 10, 46] := by unfold Lib.replaceNum; rw [if_pos (.inl (by decide))]
  rw [this]
  exact replaceK_repl _ s rfl

/-- A text of lines: empty, or ended. -/
def linesL (t : Bytes) : Bool := t.isEmpty || ([13, 10] : Bytes).isSuffixOf t
/-- The block of lines. -/
def stuffL (t : Bytes) : Bytes := stuffS true false t ++ [46, 13, 10]
theorem stuffL_repl (t : Bytes) : stuffL t = (if t.head? = some 46 then [46] else []) ++ repl t ++ [46, 13, 10] := by rw [stuffL, stuffS_true, stuffS_repl]
/-- What DotStuff answers. -/
def stuffV (t : Bytes) : Bytes × Int := if 32765 < t.length then ([], 2) else if linesL t then (stuffL t, 0) else ([], 3)
theorem stuffS_length (t : Bytes) : ∀ s p, t.length ≤ (stuffS s p t).length ∧ (stuffS s p t).length ≤ 2 * t.length := by
  induction t with
  | nil => intro s p; simp [stuffS]
  | cons c r ih =>
    intro s p
    have := ih (c == 10 && p) (c == 13)
    rw [stuffS]
    split <;> simp <;> omega

end Go.Proofs.YtjfkhklbnjdbjaaDoor
