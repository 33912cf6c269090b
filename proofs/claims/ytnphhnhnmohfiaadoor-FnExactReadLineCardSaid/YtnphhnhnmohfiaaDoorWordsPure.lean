/- Words of a line, blanks around: plain. -/
import Derived.Test.YtnphhnhnmohfiaaDoorEv
import Derived.Lib.IndexMore
import Derived.Lib.TrimByte
set_option linter.unusedVariables false
set_option linter.unusedSimpArgs false
namespace Go.Proofs.YtnphhnhnmohfiaaDoor
open Go.RowKit

abbrev isBl (c : UInt8) : Bool := c == 32
def skipB (l : Bytes) : Bytes := l.dropWhile isBl
def headW (l : Bytes) : Bytes := l.takeWhile (fun c => !isBl c)
def tailW (l : Bytes) : Bytes := l.dropWhile (fun c => !isBl c)
def wordB (l : Bytes) : Bytes := headW (skipB l)
def restB (l : Bytes) : Bytes := tailW (skipB l)
def trR (l : Bytes) : Bytes := Lib.trimRightB l 32
theorem trR_nil : trR [] = [] := rfl
theorem trR_cons (c : UInt8) (r : Bytes) : trR (c :: r) = if trR r = [] ∧ c = 32 then [] else c :: trR r := by
  unfold trR Lib.trimRightB
  rw [List.reverse_cons, List.dropWhile_append]
  by_cases h : (r.reverse.dropWhile (· == 32)) = []
  · rw [h]
    simp only [List.isEmpty_nil, if_true, List.reverse_nil, true_and]
    by_cases hc : c = 32
    · subst hc; simp
    · have : (c == 32) = false := by simpa using hc
      simp [List.dropWhile_cons, this, hc]
  · have h2 : (r.reverse.dropWhile (· == 32)).isEmpty = false := by
      cases hq : r.reverse.dropWhile (· == 32) with
      | nil => exact absurd hq h
      | cons _ _ => rfl
    have h3 : ¬ (r.reverse.dropWhile (· == 32)).reverse = [] := by simpa using h
    simp only [h2, Bool.false_eq_true, if_false]
    rw [if_neg (fun x => h3 x.1)]
    simp
theorem trR_idem : ∀ l : Bytes, trR (trR l) = trR l
  | [] => rfl
  | c :: r => by
    rw [trR_cons]
    split
    · rfl
    · rename_i h
      rw [trR_cons, trR_idem r, if_neg h]
theorem trR_append_word (a b : Bytes) (h : ∀ c ∈ a, c ≠ 32) : trR (a ++ b) = a ++ trR b := by
  induction a with
  | nil => rfl
  | cons c a ih =>
    rw [List.cons_append, trR_cons, ih (fun x hx => h x (by simp [hx])), if_neg (fun x => h c (by simp) x.2)]
    rfl
theorem skipB_trR : ∀ l : Bytes, skipB (trR l) = trR (skipB l)
  | [] => rfl
  | c :: r => by
    have ih := skipB_trR r
    unfold skipB at *
    rw [trR_cons]
    by_cases hc : c = 32
    · subst hc
      have e : List.dropWhile isBl (32 :: r) = List.dropWhile isBl r := by simp [List.dropWhile_cons]
      rw [e]
      by_cases h : trR r = []
      · rw [if_pos ⟨h, rfl⟩, ← ih, h]
      · rw [if_neg (fun x => h x.1), ← ih]; simp [List.dropWhile_cons]
    · have hb : isBl c = false := by simpa using hc
      rw [if_neg (fun x => hc x.2)]
      simp only [List.dropWhile_cons, hb, Bool.false_eq_true, if_false]
      rw [trR_cons, if_neg (fun x => hc x.2)]
theorem trim_eq (l : Bytes) : Lib.trimB l 32 = trR (skipB l) := (skipB_trR l)
theorem headW_word (l : Bytes) : ∀ c ∈ headW l, c ≠ 32 := by
  induction l with
  | nil => intro c hc; cases hc
  | cons d r ih =>
    intro c hc
    unfold headW at hc
    rw [List.takeWhile_cons] at hc
    split at hc
    · rename_i hd
      rcases List.mem_cons.1 hc with h | h
      · subst h; simpa using hd
      · exact ih c h
    · cases hc
theorem head_tail (l : Bytes) : headW l ++ tailW l = l := List.takeWhile_append_dropWhile
theorem tailW_form (l : Bytes) : tailW l = [] ∨ ∃ r, tailW l = 32 :: r := by
  induction l with
  | nil => left; rfl
  | cons c r ih =>
    unfold tailW at *
    by_cases hc : c = 32
    · subst hc; right; exact ⟨r, by simp [List.dropWhile_cons]⟩
    · have : isBl c = false := by simpa using hc
      simpa [List.dropWhile_cons, this] using ih
theorem head_of (a b : Bytes) (h : ∀ c ∈ a, c ≠ 32) (hb : b = [] ∨ ∃ r, b = 32 :: r) : headW (a ++ b) = a ∧ tailW (a ++ b) = b := by
  induction a with
  | nil =>
    rcases hb with rfl | ⟨r, rfl⟩
    · exact ⟨rfl, rfl⟩
    · constructor <;> simp [headW, tailW, List.takeWhile_cons, List.dropWhile_cons]
  | cons c a ih =>
    have hc : isBl c = false := by simpa using h c (by simp)
    have ih := ih (fun x hx => h x (by simp [hx]))
    unfold headW tailW at *
    simp [List.takeWhile_cons, List.dropWhile_cons, hc, ih]
theorem skipB_skipB (l : Bytes) : skipB (skipB l) = skipB l := by
  induction l with
  | nil => rfl
  | cons c r ih =>
    unfold skipB at *
    by_cases hc : isBl c = true
    · simp only [List.dropWhile_cons, hc, if_true]; exact ih
    · simp [List.dropWhile_cons, hc]
theorem trR_form {b : Bytes} (hb : b = [] ∨ ∃ r, b = 32 :: r) : trR b = [] ∨ ∃ r, trR b = 32 :: r := by
  rcases hb with rfl | ⟨r, rfl⟩
  · left; rfl
  · rw [trR_cons]; split
    · left; rfl
    · right; exact ⟨_, rfl⟩
/-- What trimming leaves: its first word, and what is behind it. -/
theorem trim_parts (l : Bytes) : headW (Lib.trimB l 32) = wordB l ∧ tailW (Lib.trimB l 32) = trR (restB l) ∧ skipB (Lib.trimB l 32) = Lib.trimB l 32 := by
  rw [trim_eq]
  have e : trR (skipB l) = wordB l ++ trR (restB l) := by
    have := trR_append_word (wordB l) (restB l) (headW_word _)
    rw [← this]
    congr 1
    exact (head_tail _).symm
  rw [e]
  have := head_of (wordB l) (trR (restB l)) (headW_word _) (trR_form (tailW_form _))
  refine ⟨this.1, this.2, ?_⟩
  rw [← e, skipB_trR, skipB_skipB]
theorem trim_nil (l : Bytes) : Lib.trimB l 32 = [] ↔ skipB l = [] := by
  rw [trim_eq]
  constructor
  · intro h
    cases hs : skipB l with
    | nil => rfl
    | cons c r =>
      rw [hs, trR_cons] at h
      split at h
      · rename_i hx
        exfalso
        have h2 := skipB_skipB l
        rw [hs, hx.2] at h2
        have h3 : (skipB (32 :: r)).length ≤ r.length := by
          unfold skipB
          rw [List.dropWhile_cons, if_pos (show isBl 32 = true from rfl)]
          exact (List.dropWhile_sublist _).length_le
        rw [h2] at h3; simp at h3; omega
      · cases h
  · intro h; rw [h]; rfl
/-- A text parted at its first blank. -/
theorem cut_blank : ∀ u : Bytes, (Lib.cut u [32]).1 = headW u ∧ (Lib.cut u [32]).2.1 = (tailW u).tail
  | [] => by constructor <;> rfl
  | c :: r => by
    have ih := cut_blank r
    have hge := Lib.index_ge r [32]
    have hidx : Lib.index (c :: r) [32] = if List.isPrefixOf [32] (c :: r) then 0 else if Lib.index r [32] == -1 then -1 else Lib.index r [32] + 1 := rfl
    unfold Lib.cut at *
    rw [hidx]
    by_cases hc : c = 32
    · subst hc
      have : List.isPrefixOf [32] ((32 : UInt8) :: r) = true := by simp [List.isPrefixOf]
      rw [this]
      simp [headW, tailW, List.takeWhile_cons, List.dropWhile_cons]
    · have : List.isPrefixOf [32] (c :: r) = false := by
        simp [List.isPrefixOf]; exact fun h => hc h.symm
      rw [this]
      have hb : isBl c = false := by simpa using hc
      have e1 : headW (c :: r) = c :: headW r := by simp [headW, List.takeWhile_cons, hb]
      have e2 : tailW (c :: r) = tailW r := by simp [tailW, List.dropWhile_cons, hb]
      rw [e1, e2]
      by_cases hi : Lib.index r [32] = -1
      · rw [hi] at ih ⊢
        simp only [Bool.false_eq_true, if_false, beq_self_eq_true, if_true] at ih ⊢
        rw [if_neg (by omega)] at ih ⊢
        simp only at ih ⊢
        exact ⟨congrArg (c :: ·) ih.1, ih.2⟩
      · have hb2 : (Lib.index r [32] == -1) = false := by simpa using hi
        rw [if_pos (by omega)] at ih
        rw [hb2]
        simp only [Bool.false_eq_true, if_false]
        rw [if_pos (by omega)]
        simp only at ih ⊢
        have e3 : (Lib.index r [32] + 1).toNat = (Lib.index r [32]).toNat + 1 := by omega
        rw [e3]
        refine ⟨by rw [List.take_succ_cons, ih.1], ?_⟩
        rw [← ih.2]
        show List.drop (_ + 1 + 1) (c :: r) = _
        rw [List.drop_succ_cons]
        rfl
theorem trim_tail (l : Bytes) : Lib.trimB (trR (restB l)).tail 32 = Lib.trimB (restB l) 32 := by
  rcases tailW_form (skipB l) with h | ⟨r, h⟩
  · have : restB l = [] := h
    rw [this]; rfl
  · have h' : restB l = 32 :: r := h
    rw [h', trR_cons]
    have e : Lib.trimB (32 :: r) 32 = Lib.trimB r 32 := by
      rw [trim_eq, trim_eq]; rfl
    rw [e]
    split
    · rename_i hx
      rw [trim_eq r, ← skipB_trR, hx.1]; rfl
    · rw [List.tail_cons, trim_eq, trim_eq, ← skipB_trR, trR_idem, skipB_trR]
theorem trim_trR (l : Bytes) : Lib.trimB (trR l) 32 = Lib.trimB l 32 := by
  rw [trim_eq, trim_eq, ← skipB_trR, trR_idem, skipB_trR]
/-- The words of a line, the way the reference goes. -/
def tw (cur : Bytes) : Bytes → List Bytes
  | [] => if cur = [] then [] else [cur]
  | c :: r => if c = 32 then (if cur = [] then tw [] r else cur :: tw [] r) else tw (cur ++ [c]) r
theorem tw_skip : ∀ l : Bytes, tw [] l = tw [] (skipB l)
  | [] => rfl
  | c :: r => by
    unfold skipB
    by_cases hc : c = 32
    · subst hc
      rw [List.dropWhile_cons, if_pos (show isBl 32 = true from rfl), tw, if_pos rfl, if_pos rfl]
      exact tw_skip r
    · have hb : isBl c = false := by simpa using hc
      rw [List.dropWhile_cons, hb]; rfl
theorem tw_word : ∀ (l cur : Bytes), cur ++ headW l ≠ [] → tw cur l = (cur ++ headW l) :: tw [] (tailW l)
  | [], cur, h => by
    simp only [headW, tailW, List.takeWhile_nil, List.dropWhile_nil, List.append_nil] at h ⊢
    rw [tw, if_neg h]; rfl
  | c :: r, cur, h => by
    by_cases hc : c = 32
    · subst hc
      have e1 : headW (32 :: r) = [] := by simp [headW, List.takeWhile_cons]
      have e2 : tailW (32 :: r) = 32 :: r := by simp [tailW, List.dropWhile_cons]
      rw [e1, List.append_nil] at h ⊢
      rw [e2, tw, if_pos rfl, if_neg h, tw, if_pos rfl, if_pos rfl]
    · have hb : isBl c = false := by simpa using hc
      have e1 : headW (c :: r) = c :: headW r := by simp [headW, List.takeWhile_cons, hb]
      have e2 : tailW (c :: r) = tailW r := by simp [tailW, List.dropWhile_cons, hb]
      rw [e1, e2, tw, if_neg hc, tw_word r (cur ++ [c]) (by simp)]
      simp
theorem wordB_ne {l : Bytes} (h : skipB l ≠ []) : wordB l ≠ [] := by
  unfold wordB
  cases hs : skipB l with
  | nil => exact absurd hs h
  | cons c r =>
    have hc : c ≠ 32 := by
      rintro rfl
      have h2 := skipB_skipB l
      rw [hs] at h2
      have h3 : (skipB (32 :: r)).length ≤ r.length := by
        unfold skipB
        rw [List.dropWhile_cons, if_pos (show isBl 32 = true from rfl)]
        exact (List.dropWhile_sublist _).length_le
      rw [h2] at h3; simp at h3; omega
    have hb : isBl c = false := by simpa using hc
    simp [headW, List.takeWhile_cons, hb]
theorem tw_all (l : Bytes) : tw [] l = if skipB l = [] then [] else wordB l :: tw [] (restB l) := by
  rw [tw_skip]
  by_cases h : skipB l = []
  · rw [if_pos h, h]; rfl
  · rw [if_neg h, tw_word _ [] (fun x => wordB_ne h (by simpa [wordB] using x))]
    rfl
end Go.Proofs.YtnphhnhnmohfiaaDoor
