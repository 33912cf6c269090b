/- Reading a block of lines back: byte by byte, and line by line: one answer. No program in sight. -/
import Derived.Test.YtjfkhklbnjdbjaaDoorPure
import Derived.Lib.Index
set_option linter.unusedVariables false
set_option linter.unusedSimpArgs false
namespace Go.Proofs.YtjfkhklbnjdbjaaDoor
open Go.RowKit

/-- Byte by byte: does a line begin here, was the byte ahead a 13, what is left, what was put out. -/
def unsS : Bool → Bool → Bytes → Bytes → Bytes × Int
  | _, _, [], _ => ([], 18)
  | start, p, c :: r, out =>
    if start && c == 46 then
      if c :: r = [46, 13, 10] then (out, 0)
      else match r with
        | [] => ([], 3)
        | d :: r' => if d == 46 then unsS false false r' (out ++ [46]) else ([], 3)
    else unsS (c == 10 && p) (c == 13) r (out ++ [c])
termination_by _ _ t _ => t.length
decreasing_by all_goals simp_wf <;> omega

theorem unsS_nil (s p : Bool) (out : Bytes) : unsS s p [] out = ([], 18) := by rw [unsS]
theorem unsS_cons (s p : Bool) (c : UInt8) (r out : Bytes) : unsS s p (c :: r) out = if s && c == 46 then
      if c :: r = [46, 13, 10] then (out, 0)
      else match r with
        | [] => ([], 3)
        | d :: r' => if d == 46 then unsS false false r' (out ++ [46]) else ([], 3)
    else unsS (c == 10 && p) (c == 13) r (out ++ [c]) := by
  rw [unsS.eq_def]
  rfl
theorem unsS_go (s p : Bool) (c : UInt8) (r out : Bytes) (h : (s && c == 46) = false) : unsS s p (c :: r) out = unsS (c == 10 && p) (c == 13) r (out ++ [c]) := by
  rw [unsS_cons, if_neg (by simp [h])]
theorem unsS_13 (u out : Bytes) : unsS false true u out = match u with | 10 :: r => unsS true false r (out ++ [10]) | _ => unsS false false u out := by
  rcases u with _ | ⟨c, r⟩
  · simp [unsS_nil]
  · by_cases hc : c = 10
    · subst hc; rw [unsS_go _ _ _ _ _ (by rfl)]; rfl
    · have : (c == 10) = false := by simpa using hc
      rw [unsS_go _ _ _ _ _ (by rfl), this]
      split
      · rename_i h; cases h; simp at hc
      · rw [unsS_go _ _ _ _ _ (by rfl), this]; rfl

/-- From within a line on to the end of it. -/
theorem unsS_line : ∀ (u out : Bytes), unsS false false u out = if Lib.index u [13, 10] < 0 then ([], 18) else unsS true false (u.drop ((Lib.index u [13, 10]).toNat + 2)) (out ++ u.take ((Lib.index u [13, 10]).toNat + 2))
  | [], out => by simp [unsS_nil, Lib.index]
  | c :: r, out => by
    have ih := unsS_line r (out ++ [c])
    have hge := Lib.index_ge r [13, 10]
    rw [unsS_go _ _ _ _ _ (by rfl)]
    simp only [Bool.and_false]
    have hidx : Lib.index (c :: r) [13, 10] = if ([13, 10] : Bytes).isPrefixOf (c :: r) then 0 else if Lib.index r [13, 10] == -1 then -1 else Lib.index r [13, 10] + 1 := rfl
    by_cases hp : ([13, 10] : Bytes).isPrefixOf (c :: r) = true
    · rw [hidx, if_pos hp]
      rw [List.isPrefixOf_iff_prefix] at hp
      obtain ⟨t, ht⟩ := hp
      cases ht
      simp [unsS_13]
    · rw [hidx, if_neg hp]
      have hstep : unsS false (c == 13) r (out ++ [c]) = unsS false false r (out ++ [c]) := by
        by_cases hc : c = 13
        · subst hc
          simp only [beq_self_eq_true]
          rw [unsS_13]
          split
          · exfalso; apply hp; simp
          · rfl
        · have : (c == 13) = false := by simpa using hc
          rw [this]
      rw [hstep, ih]
      by_cases hn : Lib.index r [13, 10] = -1
      · simp [hn]
      · have hb : (Lib.index r [13, 10] == -1) = false := by simpa using hn
        rw [hb]
        simp only [Bool.false_eq_true, if_false]
        rw [if_neg (by omega), if_neg (by omega)]
        have e : (Lib.index r [13, 10] + 1).toNat = (Lib.index r [13, 10]).toNat + 1 := by omega
        rw [e]
        simp

/-- Line by line. -/
def unsI (t out : Bytes) : Bytes × Int :=
  if t = [] then ([], 18)
  else if t = [46, 13, 10] then (out, 0)
  else if ([46, 46] : Bytes).isPrefixOf t = false ∧ t.head? = some 46 then ([], 3)
  else
    let u := if ([46, 46] : Bytes).isPrefixOf t then t.tail else t
    if Lib.index u [13, 10] < 0 then ([], 18) else unsI (u.drop ((Lib.index u [13, 10]).toNat + 2)) (out ++ u.take ((Lib.index u [13, 10]).toNat + 2))
termination_by t.length
decreasing_by
  rename_i h1 h2 h3 _
  have : t.length ≠ 0 := fun h => h1 (List.eq_nil_of_length_eq_zero h)
  split <;> simp <;> omega

theorem uns_same (t : Bytes) : ∀ out, unsI t out = unsS true false t out := by
  induction h : t.length using Nat.strongRecOn generalizing t with
  | _ n ih =>
    intro out
    rcases t with _ | ⟨c, r⟩
    · rw [unsI, if_pos rfl, unsS_nil]
    · have go : ∀ u : Bytes, u.length ≤ n → u ≠ [] → ∀ out, (if Lib.index u [13, 10] < 0 then ([], 18) else unsI (u.drop ((Lib.index u [13, 10]).toNat + 2)) (out ++ u.take ((Lib.index u [13, 10]).toNat + 2))) = unsS false false u out := by
        intro u hu hne out
        rw [unsS_line]
        split
        · rfl
        · have hpos : u.length ≠ 0 := fun h => hne (List.eq_nil_of_length_eq_zero h)
          exact ih _ (by simp; omega) _ rfl _
      rw [unsI, if_neg (by simp)]
      by_cases hc : c = 46
      · subst hc
        rw [unsS_cons]
        simp only [beq_self_eq_true, Bool.and_self, if_true]
        by_cases he : (46 :: r : Bytes) = [46, 13, 10]
        · rw [if_pos he, if_pos he]
        · rw [if_neg he, if_neg he]
          rcases r with _ | ⟨d, r'⟩
          · simp [List.isPrefixOf]
          · by_cases hd : d = 46
            · subst hd
              rw [if_neg (by simp [List.isPrefixOf])]
              have e : ([46, 46] : Bytes).isPrefixOf (46 :: 46 :: r') = true := by simp [List.isPrefixOf]
              simp only [e, if_true, List.tail_cons, beq_self_eq_true]
              rw [go (46 :: r') (by simp at h ⊢; omega) (by simp) out, unsS_go _ _ _ _ _ (by rfl)]
              rfl
            · have hb : (d == 46) = false := by simpa using hd
              have hb' : ((46 : UInt8) == d) = false := by simpa using fun e => hd e.symm
              rw [if_pos (by simp [List.isPrefixOf, hb'])]
              simp [hb]
      · have hb : (c == 46) = false := by simpa using hc
        have hb' : ((46 : UInt8) == c) = false := by simpa using fun e => hc e.symm
        rw [if_neg (by intro e; cases e; simp at hc), if_neg (by simp [hc])]
        simp only [List.isPrefixOf, hb', Bool.false_and, Bool.false_eq_true, if_false]
        rw [go (c :: r) (by omega) (by simp) out, unsS_go _ _ _ _ _ (by rfl), unsS_go _ _ _ _ _ (by simp [hb])]

theorem index_room (sub : Bytes) : ∀ u : Bytes, 0 ≤ Lib.index u sub → (Lib.index u sub).toNat + sub.length ≤ u.length
  | [] => by
    unfold Lib.index
    split
    · rename_i h; intro _; simp at h; subst h; simp
    · intro h; omega
  | c :: r => by
    have ih := index_room sub r
    have hge := Lib.index_ge r sub
    have hidx : Lib.index (c :: r) sub = if sub.isPrefixOf (c :: r) then 0 else if Lib.index r sub == -1 then -1 else Lib.index r sub + 1 := rfl
    rw [hidx]
    split
    · rename_i h
      intro _
      rw [List.isPrefixOf_iff_prefix] at h
      have := h.length_le
      simp only [Int.toNat_zero]; omega
    · split
      · intro h; omega
      · rename_i h
        intro _
        have : Lib.index r sub ≠ -1 := by simpa using h
        have := ih (by omega)
        simp only [List.length_cons]
        omega

end Go.Proofs.YtjfkhklbnjdbjaaDoor
