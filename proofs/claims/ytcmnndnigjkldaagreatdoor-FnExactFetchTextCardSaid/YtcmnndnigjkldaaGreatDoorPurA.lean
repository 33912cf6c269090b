/- Texts laid together: YtcmnndnigjkldaaGreatDoorEv, YtcmnndnigjkldaaGreatDoorMailPure, YtcmnndnigjkldaaGreatDoorNumPure. -/
import Derived.Test.YtcmnndnigjkldaaGreatDoorWMore
import Derived.Test.YtcmnndnigjkldaaGreatDoorOwnA
import Derived.Lib.IndexMore
import Derived.Lib.SplitLaws
import Derived.Lib.ReplaceLaws
import Derived.Lib.AtoiAll
section
set_option linter.unusedVariables false
set_option linter.unusedSimpArgs false
namespace Go.Proofs.YtcmnndnigjkldaaGreatDoor
open Go.RowKit Go.Proofs.YtcmnndnigjkldaaGreatDoorW.PrintWords
theorem ev_pos {α : Type} {c : Prop} [Decidable c] {t e : Nat → Option α} {r : α} (h : c) (H : Ev t r) : Ev (fun k => if c then t k else e k) r := by
  obtain ⟨K, H⟩ := H; exact ⟨K, fun k hk => (if_pos h).trans (H k hk)⟩
theorem ev_neg {α : Type} {c : Prop} [Decidable c] {t e : Nat → Option α} {r : α} (h : ¬ c) (H : Ev e r) : Ev (fun k => if c then t k else e k) r := by
  obtain ⟨K, H⟩ := H; exact ⟨K, fun k hk => (if_neg h).trans (H k hk)⟩
theorem ev_ite {α : Type} {c : Prop} [Decidable c] {t e : Nat → Option α} {r : α} (h1 : c → Ev t r) (h2 : ¬ c → Ev e r) : Ev (fun k => if c then t k else e k) r := by
  by_cases h : c
  · exact ev_pos h (h1 h)
  · exact ev_neg h (h2 h)
theorem ev_bindc {α β : Type} {o : Option α} {f : Nat → α → Option β} {a : α} {r : β} (h : o = some a) (H : Ev (fun n => f n a) r) : Ev (fun n => o.bind (f n)) r := by
  subst h; exact H
theorem ev_some {α : Type} {a r : α} (h : a = r) : Ev (fun _ => some a) r := by subst h; exact Ev.now a
theorem ev_one {α : Type} {g : Nat → Option α} {r r' : α} (h : Ev g r) (h' : Ev g r') : r = r' := by
  obtain ⟨K, h⟩ := h; obtain ⟨K', h'⟩ := h'
  have := (h (max K K') (by omega)).symm.trans (h' (max K K') (by omega))
  exact Option.some.inj this
theorem ev_to {α : Type} {g : Nat → Option α} {r r' : α} (e : r = r') (h : Ev g r) : Ev g r' := e ▸ h
theorem w64 {x : Int} (h0 : -9223372036854775808 ≤ x) (h1 : x < 9223372036854775808) : wrap64 x = x := by unfold wrap64; omega
theorem w64n {k : Nat} (h : k < 9223372036854775807) : wrap64 ((k : Int) + 1) = ((k + 1 : Nat) : Int) := by unfold wrap64; omega
theorem bt_bs (l : Bytes) (k : Nat) (h : k < l.length) : bt (bs l) (k : Int) = (l[k].toNat : Int) := by
  have hs : (bs l).size = l.length := bs_size l
  unfold bt
  rw [dif_pos (by simp only [Int.toNat_natCast]; omega)]
  simp only [Int.toNat_natCast]
  rw [bs_getElem]
theorem bt_zero (l : Bytes) (h : 0 < l.length) : bt (bs l) 0 = (l[0].toNat : Int) := bt_bs l 0 h
theorem bt_lt (s : ByteArray) (i : Int) : 0 ≤ bt s i ∧ bt s i ≤ 255 := bt_range s i
theorem drop_cons (l : Bytes) (k : Nat) (h : k < l.length) : l.drop k = l[k] :: l.drop (k + 1) := List.drop_eq_getElem_cons h
theorem strOf_one (x : Int) : strOfNums [x] = bs [UInt8.ofNat x.toNat] := rfl
theorem u8_int {a : UInt8} {n : Nat} (hn : n < 256 := by decide) : ((a.toNat : Int) = n) ↔ a = UInt8.ofNat n := by
  constructor
  · intro e; apply UInt8.toNat_inj.mp; simp; omega
  · rintro rfl; simp; omega
theorem rdOf_nat {α : Type} (d : α) (l : List α) (k : Nat) (h : k < l.length) : rdOf d l (k : Int) = l[k] := by
  unfold rdOf; simp [List.getElem?_eq_getElem h]
end Go.Proofs.YtcmnndnigjkldaaGreatDoor
end
section
set_option linter.unusedVariables false
set_option linter.unusedSimpArgs false
namespace Go.Proofs.YtcmnndnigjkldaaGreatDoor
open Go.RowKit
/-- No sub begins within p, in p ++ q. -/
def Free (sub : Bytes) : Bytes → Bytes → Prop
  | [], _ => True
  | c :: p, q => sub.isPrefixOf (c :: (p ++ q)) = false ∧ Free sub p q
theorem Free.before {sub : Bytes} : ∀ {p q a c : Bytes}, Free sub p q → p ++ q = a ++ (sub ++ c) → p.length ≤ a.length
  | [], _, _, _, _, _ => Nat.zero_le _
  | x :: p, q, [], c, h, e => by
    exfalso
    have h1 := h.1
    rw [show x :: (p ++ q) = sub ++ c from e] at h1
    have : sub.isPrefixOf (sub ++ c) = true := List.isPrefixOf_iff_prefix.mpr ⟨c, rfl⟩
    rw [this] at h1; cases h1
  | x :: p, q, y :: a, c, h, e => by
    have e2 : p ++ q = a ++ (sub ++ c) := by injection e
    have := Free.before h.2 e2
    simp; omega
theorem idx_cases (sub : Bytes) (h0 : sub ≠ []) : ∀ s : Bytes, (Lib.index s sub = -1 ∧ Free sub s []) ∨ ∃ p r, s = p ++ (sub ++ r) ∧ Lib.index s sub = p.length ∧ Free sub p (sub ++ r)
  | [] => by
    left; refine ⟨?_, trivial⟩
    unfold Lib.index; cases sub with
    | nil => exact absurd rfl h0
    | cons a t => rfl
  | b :: l => by
    unfold Lib.index
    by_cases hp : sub.isPrefixOf (b :: l) = true
    · right
      obtain ⟨r, hr⟩ := List.isPrefixOf_iff_prefix.mp hp
      exact ⟨[], r, hr.symm, by rw [if_pos hp]; rfl, trivial⟩
    · rw [if_neg hp]
      have hp' : sub.isPrefixOf (b :: l) = false := Bool.eq_false_iff.mpr hp
      rcases idx_cases sub h0 l with ⟨e, hf⟩ | ⟨p, r, e1, e2, hf⟩
      · left
        refine ⟨by rw [e]; rfl, by rw [List.append_nil]; exact hp', hf⟩
      · right
        refine ⟨b :: p, r, by rw [e1]; rfl, ?_, by rw [← e1]; exact hp', hf⟩
        rw [e2, if_neg (by first | (simp; done) | (simp; omega))]
        simp
theorem split_miss {s sub : Bytes} (h : Lib.index s sub = -1) : Lib.split s sub = [s] := by
  unfold Lib.split
  rw [Lib.count_miss h]; rfl
theorem split_hit {p sub r : Bytes} (h0 : sub ≠ []) (h : Lib.index (p ++ (sub ++ r)) sub = p.length) : Lib.split (p ++ (sub ++ r)) sub = p :: Lib.split r sub := by
  have hd : (p ++ (sub ++ r)).drop (p.length + sub.length) = r := by rw [← List.append_assoc, ← List.length_append, List.drop_left]
  unfold Lib.split
  rw [Lib.count_hit h0 h, hd, Nat.add_comm 1, Lib.splitK, if_neg (by rw [h]; first | (simp; done) | (simp; omega)), h, Int.toNat_natCast, Nat.add_zero, hd]
  congr 1
  exact List.take_left
theorem replaceAll_miss {s sub new : Bytes} (h : Lib.index s sub = -1) : Lib.replaceAll s sub new = s := by
  unfold Lib.replaceAll Lib.replace
  split
  · rfl
  · unfold Lib.replaceNum
    rw [if_pos (Or.inl (by decide)), Lib.count_miss h]; rfl
theorem replaceAll_hit {p sub r new : Bytes} (h0 : sub ≠ []) (hn : sub ≠ new) (h : Lib.index (p ++ (sub ++ r)) sub = p.length) : Lib.replaceAll (p ++ (sub ++ r)) sub new = p ++ new ++ Lib.replaceAll r sub new := by
  have hd : (p ++ (sub ++ r)).drop (p.length + sub.length) = r := by rw [← List.append_assoc, ← List.length_append, List.drop_left]
  have hne : ¬ (sub == new) = true := by simpa using hn
  unfold Lib.replaceAll Lib.replace
  rw [if_neg hne, if_neg hne]
  unfold Lib.replaceNum
  rw [if_pos (Or.inl (by decide)), if_pos (Or.inl (by decide)), Lib.count_hit h0 h, hd, Nat.add_comm 1, Lib.replaceK_hit _ _ _ _ _ h, hd]
  congr 2
  exact List.take_left
theorem count_eq {p sub r : Bytes} (h0 : sub ≠ []) (h : Lib.index (p ++ (sub ++ r)) sub = p.length) : Lib.count (p ++ (sub ++ r)) sub = 1 + Lib.count r sub := by
  have hd : (p ++ (sub ++ r)).drop (p.length + sub.length) = r := by rw [← List.append_assoc, ← List.length_append, List.drop_left]
  rw [Lib.count_hit h0 h, hd]
abbrev CRLF : Bytes := [13, 10]
/-! What a field's value may be. -/
def visB (c : UInt8) : Bool := decide (32 ≤ c.toNat) && decide (c.toNat ≤ 126)
def safeW : Nat → Bytes → Bool
  | _, [] => true
  | w, c :: r => visB c && (if c = 32 then decide (w ≠ 0) && decide (r ≠ []) && safeW 0 r else decide (w + 1 ≤ 200) && safeW (w + 1) r)
theorem visB_bl : visB 32 = true := rfl
theorem safeW_miss : ∀ (p : Bytes) (w : Nat), Free [32] p [] → w ≤ 200 → (safeW w p = true ↔ p.all visB = true ∧ w + p.length ≤ 200)
  | [], w, _, hw => by simp [safeW, hw]
  | c :: p, w, h, hw => by
    have hc : c ≠ 32 := by rintro rfl; have := h.1; simp at this
    unfold safeW
    rw [if_neg hc]
    by_cases h1 : w + 1 ≤ 200
    · have := safeW_miss p (w + 1) h.2 h1
      simp only [Bool.and_eq_true, this, List.all_cons, decide_eq_true_eq, List.length_cons]
      constructor
      · rintro ⟨a, b, c, d⟩; exact ⟨⟨a, c⟩, by omega⟩
      · rintro ⟨⟨a, b⟩, c⟩; exact ⟨a, by omega, b, by omega⟩
    · simp only [decide_eq_false h1, Bool.false_and, Bool.and_false, List.length_cons]
      constructor
      · intro x; cases x
      · rintro ⟨_, x⟩; omega
theorem safeW_hit (r : Bytes) : ∀ (p : Bytes) (w : Nat), Free [32] p (32 :: r) → w ≤ 200 → (safeW w (p ++ (32 :: r)) = true ↔ p.all visB = true ∧ w + p.length ≤ 200 ∧ w + p.length ≠ 0 ∧ r ≠ [] ∧ safeW 0 r = true)
  | [], w, _, hw => by simp [safeW, visB_bl, hw, and_assoc]
  | c :: p, w, h, hw => by
    have hc : c ≠ 32 := by rintro rfl; have := h.1; simp at this
    rw [List.cons_append]
    rw [safeW.eq_2, if_neg hc]
    by_cases h1 : w + 1 ≤ 200
    · have := safeW_hit r p (w + 1) h.2 h1
      simp only [Bool.and_eq_true, this, List.all_cons, decide_eq_true_eq, List.length_cons]
      constructor
      · rintro ⟨a, b, c, d, e, f⟩; exact ⟨⟨a, c⟩, by omega, by omega, f⟩
      · rintro ⟨⟨a, b⟩, c, d, e⟩; exact ⟨a, by omega, b, by omega, by omega, e⟩
    · simp only [decide_eq_false h1, Bool.false_and, Bool.and_false, List.length_cons]
      constructor
      · intro x; cases x
      · rintro ⟨_, x, _⟩; omega
def okWord (w : Bytes) : Prop := w ≠ [] ∧ w.length ≤ 200
theorem safeW_split : ∀ (n : Nat) (l : Bytes), l.length ≤ n → (safeW 0 l = true ↔ l.all visB = true ∧ (l = [] ∨ ∀ w ∈ Lib.split l [32], okWord w)) := by
  intro n
  induction n with
  | zero =>
    intro l hl
    obtain rfl : l = [] := List.length_eq_zero_iff.mp (by omega)
    simp [safeW]
  | succ n ih =>
    intro l hl
    rcases idx_cases [32] (by decide) l with ⟨e, hf⟩ | ⟨p, r, rfl, e2, hf⟩
    · rw [split_miss e, safeW_miss l 0 hf (by omega)]
      by_cases h : l = []
      · subst h; simp
      · simp [okWord, h]
    · have hr := ih r (by simp at hl; omega)
      rw [split_hit (by decide) e2]
      rw [show p ++ ([32] ++ r) = p ++ (32 :: r) from rfl, safeW_hit r p 0 hf (by omega), hr]
      simp only [List.all_append, List.all_cons, visB_bl, Bool.true_and, Bool.and_eq_true, List.mem_cons, forall_eq_or_imp, okWord]
      constructor
      · rintro ⟨a, b, c, d, e, f⟩
        refine ⟨⟨a, e⟩, Or.inr ⟨⟨by intro x; subst x; simp at c, by omega⟩, ?_⟩⟩
        rcases f with f | f
        · exact absurd f d
        · exact f
      · rintro ⟨⟨a, e⟩, h⟩
        rcases h with h | ⟨⟨h1, h2⟩, h3⟩
        · simp at h
        · refine ⟨a, by omega, ?_, ?_, e, ?_⟩
          · intro x; exact h1 (List.length_eq_zero_iff.mp (by omega))
          · rintro rfl
            rw [split_miss (by rfl)] at h3
            exact absurd rfl (h3 [] (by simp)).1
          · right; exact h3
def safeB (l : Bytes) : Bool := decide (l.length ≤ 2000) && safeW 0 l
/-! What a field's name may be. -/
def nameC (c : UInt8) : Bool := decide (33 ≤ c.toNat) && decide (c.toNat ≤ 126) && decide (c ≠ 58)
def nameOk (l : Bytes) : Bool := decide (1 ≤ l.length) && decide (l.length ≤ 40) && l.all nameC
/-! What a mail's text may be. -/
def goodC (c : UInt8) : Bool := decide (c ≠ 13) && decide (c ≠ 10) && decide (c.toNat ≠ 0) && decide (c.toNat ≤ 127)
def mOK (w : Nat) (l : Bytes) : Bool :=
  match l with
  | [] => w == 0
  | c :: r => if c = 13 ∧ r.head? = some 10 then mOK 0 r.tail else goodC c && decide (w + 1 ≤ 998) && mOK (w + 1) r
termination_by l.length
decreasing_by
  · simp; omega
  · simp
theorem crlf_not {c : UInt8} {r : Bytes} (h : CRLF.isPrefixOf (c :: r) = false) : ¬ (c = 13 ∧ r.head? = some 10) := by
  rintro ⟨rfl, h2⟩
  cases r with
  | nil => simp at h2
  | cons d t => simp at h2; subst h2; simp at h
theorem mOK_miss : ∀ (p : Bytes) (w : Nat), Free CRLF p [] → (mOK w p = true ↔ p = [] ∧ w = 0)
  | [], w, _ => by unfold mOK; simp
  | c :: p, w, h => by
    have h1 := h.1
    rw [List.append_nil] at h1
    rw [mOK, if_neg (crlf_not h1)]
    have := mOK_miss p (w + 1) h.2
    simp only [Bool.and_eq_true, this]
    simp
theorem mOK_hit (r : Bytes) : ∀ (p : Bytes) (w : Nat), Free CRLF p (CRLF ++ r) → w ≤ 998 → (mOK w (p ++ (CRLF ++ r)) = true ↔ p.all goodC = true ∧ w + p.length ≤ 998 ∧ mOK 0 r = true)
  | [], w, _, hw => by
    rw [List.nil_append]
    show mOK w (13 :: (10 :: r)) = true ↔ _
    rw [mOK]
    simp [hw]
  | c :: p, w, h, hw => by
    have h1 := h.1
    rw [List.cons_append, mOK, if_neg (crlf_not h1)]
    by_cases hq : w + 1 ≤ 998
    · have := mOK_hit r p (w + 1) h.2 hq
      simp only [Bool.and_eq_true, this, List.all_cons, decide_eq_true_eq, List.length_cons]
      constructor
      · rintro ⟨⟨a, b⟩, c, d, e⟩; exact ⟨⟨a, c⟩, by omega, e⟩
      · rintro ⟨⟨a, b⟩, c, d⟩; exact ⟨⟨a, hq⟩, b, by omega, d⟩
    · simp only [decide_eq_false hq, Bool.false_and, Bool.and_false, List.length_cons]
      constructor
      · intro x; cases x
      · rintro ⟨_, x, _⟩; omega
def okLine (p : Bytes) : Prop := p.length ≤ 998 ∧ p.all goodC = true
theorem suffix_short {r : Bytes} {c : UInt8} (hc : c ≠ 13) (h : CRLF.isSuffixOf (c :: r) = true) : CRLF.isSuffixOf r = true := by
  rw [List.isSuffixOf_iff_suffix] at h ⊢
  rcases List.suffix_cons_iff.mp h with h | h
  · injection h with h; exact absurd h.symm hc
  · exact h
theorem suffix_more {p r : Bytes} : CRLF.isSuffixOf (p ++ (CRLF ++ r)) = true ↔ r = [] ∨ CRLF.isSuffixOf r = true := by
  constructor
  · intro h
    by_cases hr : r = []
    · exact Or.inl hr
    · right
      rw [List.isSuffixOf_iff_suffix] at h ⊢
      have h2 : CRLF <:+ (p ++ [13]) ++ (10 :: r) := by simpa using h
      have h3 : (10 :: r) <:+ (p ++ [13]) ++ (10 :: r) := List.suffix_append _ _
      have h4 : CRLF <:+ 10 :: r := List.suffix_of_suffix_length_le h2 h3 (by cases r with | nil => exact absurd rfl hr | cons _ _ => simp)
      have := suffix_short (c := 10) (by decide) (List.isSuffixOf_iff_suffix.mpr h4)
      exact List.isSuffixOf_iff_suffix.mp this
  · intro h
    rw [List.isSuffixOf_iff_suffix]
    rcases h with rfl | h
    · exact ⟨p, by simp⟩
    · exact (List.isSuffixOf_iff_suffix.mp h).trans ⟨p ++ CRLF, by simp⟩
theorem mOK_split : ∀ (n : Nat) (l : Bytes), l.length ≤ n → (mOK 0 l = true ↔ (l = [] ∨ CRLF.isSuffixOf l = true) ∧ ∀ p ∈ Lib.split l CRLF, okLine p) := by
  intro n
  induction n with
  | zero =>
    intro l hl
    obtain rfl : l = [] := List.length_eq_zero_iff.mp (by omega)
    rw [split_miss (by rfl)]
    simp [mOK, okLine]
  | succ n ih =>
    intro l hl
    rcases idx_cases CRLF (by decide) l with ⟨e, hf⟩ | ⟨p, r, rfl, e2, hf⟩
    · rw [split_miss e, mOK_miss l 0 hf]
      constructor
      · rintro ⟨rfl, -⟩; simp [okLine]
      · rintro ⟨h, -⟩
        refine ⟨?_, rfl⟩
        rcases h with h | h
        · exact h
        · exfalso
          obtain ⟨a, ha⟩ := List.isSuffixOf_iff_suffix.mp h
          have := Free.before hf (a := a) (c := []) (by rw [List.append_nil, List.append_nil]; exact ha.symm)
          have h2 := congrArg List.length ha
          simp at h2; omega
    · have hr := ih r (by simp at hl; omega)
      rw [split_hit (by decide) e2, mOK_hit r p 0 hf (by omega), hr, suffix_more]
      simp only [List.mem_cons, forall_eq_or_imp, okLine]
      constructor
      · rintro ⟨a, b, c, d⟩
        exact ⟨Or.inr c, ⟨by omega, a⟩, d⟩
      · rintro ⟨h, ⟨a, b⟩, d⟩
        refine ⟨b, by omega, ?_, d⟩
        rcases h with h | h
        · simp at h
        · exact h
/-- Behind an end of line a right text is right. -/
theorem mOK_tail (b : Bytes) : ∀ (n : Nat) (a : Bytes) (w : Nat), a.length ≤ n → mOK w (a ++ (CRLF ++ b)) = true → mOK 0 b = true := by
  intro n
  induction n with
  | zero =>
    intro a w hn h
    obtain rfl : a = [] := List.length_eq_zero_iff.mp (by omega)
    rw [List.nil_append] at h
    have h' : mOK w (13 :: (10 :: b)) = true := h
    rw [mOK] at h'
    simpa using h'
  | succ n ih =>
    intro a w hn h
    cases a with
    | nil =>
      rw [List.nil_append] at h
      have h' : mOK w (13 :: (10 :: b)) = true := h
      rw [mOK] at h'
      simpa using h'
    | cons c a =>
      rw [List.cons_append, mOK] at h
      by_cases hc : c = 13 ∧ (a ++ (CRLF ++ b)).head? = some 10
      · rw [if_pos hc] at h
        cases a with
        | nil => simp at hc
        | cons d t => exact ih t 0 (by simp at hn; omega) (by simpa using h)
      · rw [if_neg hc] at h
        simp only [Bool.and_eq_true] at h
        exact ih a (w + 1) (by simp at hn; omega) h.2
theorem no_ten {p : Bytes} (h : p.all goodC = true) : p.count 10 = 0 := by
  rw [List.count_eq_zero]
  intro hm
  have := List.all_eq_true.mp h 10 hm
  simp [goodC] at this
theorem count_lines : ∀ (n : Nat) (l : Bytes), l.length ≤ n → mOK 0 l = true → Lib.count l CRLF = l.count 10 := by
  intro n
  induction n with
  | zero =>
    intro l hl h
    obtain rfl : l = [] := List.length_eq_zero_iff.mp (by omega)
    rw [Lib.count_miss (by rfl)]; rfl
  | succ n ih =>
    intro l hl h
    rcases idx_cases CRLF (by decide) l with ⟨e, hf⟩ | ⟨p, r, rfl, e2, hf⟩
    · obtain ⟨rfl, -⟩ := (mOK_miss l 0 hf).mp h
      rw [Lib.count_miss (by rfl)]; rfl
    · obtain ⟨h1, h2, h3⟩ := (mOK_hit r p 0 hf (by omega)).mp h
      rw [count_eq (by decide) e2, ih r (by simp at hl; omega) h3, List.count_append, no_ten h1]
      simp; omega
/-! A field's value, put together again. -/
abbrev FOLD : Bytes := [13, 10, 32]
def unf (l : Bytes) : Option Bytes :=
  match l with
  | [] => some []
  | c :: r => if c = 13 then (if r.head? = some 10 ∧ r.tail.head? = some 32 then unf r.tail else none) else (unf r).map (c :: ·)
termination_by l.length
decreasing_by
  · simp; omega
  · simp
theorem fold_not {c : UInt8} {r : Bytes} (h : FOLD.isPrefixOf (c :: r) = false) (hc : c = 13) : ¬ (r.head? = some 10 ∧ r.tail.head? = some 32) := by
  subst hc
  rintro ⟨h1, h2⟩
  cases r with
  | nil => simp at h1
  | cons d t =>
    simp at h1; subst h1
    cases t with
    | nil => simp at h2
    | cons e u => simp at h2; subst h2; simp at h
theorem unf_free (q : Bytes) : ∀ p : Bytes, Free FOLD p q → unf (p ++ q) = if 13 ∈ p then none else (unf q).map (p ++ ·)
  | [], _ => by simp
  | c :: p, h => by
    rw [List.cons_append, unf]
    by_cases hc : c = 13
    · subst hc
      rw [if_pos rfl, if_neg (fold_not h.1 rfl), if_pos (by simp)]
    · rw [if_neg hc, unf_free q p h.2]
      by_cases hm : 13 ∈ p
      · rw [if_pos hm, if_pos (by simp [hm])]; rfl
      · rw [if_neg hm, if_neg (by simp [hm]; exact fun e => hc e.symm)]
        cases unf q <;> rfl
theorem unf_fold (r : Bytes) : unf (FOLD ++ r) = (unf r).map (32 :: ·) := by
  show unf (13 :: 10 :: 32 :: r) = _
  rw [unf, if_pos rfl, if_pos (by simp)]
  show unf (32 :: r) = _
  rw [unf, if_neg (by decide)]
/-- What is put together, and what replacing gives. -/
theorem unf_replace : ∀ (n : Nat) (v : Bytes), v.length ≤ n → (∀ u, unf v = some u → Lib.replaceAll v FOLD [32] = u) ∧ (unf v = none → 13 ∈ Lib.replaceAll v FOLD [32]) := by
  intro n
  induction n with
  | zero =>
    intro v hv
    obtain rfl : v = [] := List.length_eq_zero_iff.mp (by omega)
    rw [replaceAll_miss (by rfl)]
    refine ⟨fun u h => (by rw [unf] at h; injection h), fun h => (by rw [unf] at h; cases h)⟩
  | succ n ih =>
    intro v hv
    rcases idx_cases FOLD (by decide) v with ⟨e, hf⟩ | ⟨p, r, rfl, e2, hf⟩
    · rw [replaceAll_miss e]
      have h := unf_free [] v hf
      rw [List.append_nil] at h
      rw [h]
      by_cases hm : 13 ∈ v
      · rw [if_pos hm]; exact ⟨fun u h => (by cases h), fun _ => hm⟩
      · rw [if_neg hm, unf]
        exact ⟨fun u h => (by simpa using h), fun h => (by cases h)⟩
    · rw [replaceAll_hit (by decide) (by decide) e2]
      have hr := ih r (by simp at hv; omega)
      rw [unf_free _ p hf, unf_fold]
      by_cases hm : 13 ∈ p
      · rw [if_pos hm]; exact ⟨fun u h => (by cases h), fun _ => (by simp [hm])⟩
      · rw [if_neg hm]
        cases hu : unf r with
        | none => exact ⟨fun u h => (by cases h), fun _ => (by have := hr.2 hu; simp [this])⟩
        | some u => exact ⟨fun u' h => (by rw [hr.1 u hu]; simp at h; rw [← h]; simp), fun h => (by cases h)⟩
/-! A field's text, taken apart. -/
def colA (t : Bytes) : Bytes := t.takeWhile (fun c => decide (c ≠ 58))
def colB (t : Bytes) : Bytes := t.dropWhile (fun c => decide (c ≠ 58))
theorem col_parts (t : Bytes) : colA t ++ colB t = t := List.takeWhile_append_dropWhile
theorem mem_colA {c : UInt8} : ∀ {t : Bytes}, c ∈ colA t → c ≠ 58
  | [], h => by cases h
  | d :: t, h => by
    unfold colA at h
    rw [List.takeWhile_cons] at h
    split at h
    · rename_i hd
      rcases List.mem_cons.mp h with e | h
      · subst e; simpa using hd
      · exact mem_colA h
    · cases h
theorem colB_form (t : Bytes) : colB t = [] ∨ ∃ r, colB t = 58 :: r := by
  induction t with
  | nil => exact Or.inl rfl
  | cons c r ih =>
    unfold colB at *
    by_cases hc : c = 58
    · subst hc; right; exact ⟨r, by simp [List.dropWhile_cons]⟩
    · simpa [List.dropWhile_cons, hc] using ih
theorem col_miss : ∀ t : Bytes, Free [58] t [] → colB t = []
  | [], _ => rfl
  | c :: t, h => by
    have hc : c ≠ 58 := by rintro rfl; have := h.1; simp at this
    have := col_miss t h.2
    unfold colB at *
    simpa [List.dropWhile_cons, hc] using this
theorem col_hit (r : Bytes) : ∀ p : Bytes, Free [58] p ([58] ++ r) → colA (p ++ ([58] ++ r)) = p ∧ colB (p ++ ([58] ++ r)) = 58 :: r
  | [], _ => by simp [colA, colB, List.takeWhile_cons, List.dropWhile_cons]
  | c :: p, h => by
    have hc : c ≠ 58 := by rintro rfl; have := h.1; simp at this
    have := col_hit r p h.2
    unfold colA colB at *
    simp [List.takeWhile_cons, List.dropWhile_cons, hc]
    simpa using this
theorem col_cut (t : Bytes) : Lib.cut t [58] = if colB t = [] then (t, [], false) else (colA t, (colB t).tail, true) := by
  unfold Lib.cut
  rcases idx_cases [58] (by decide) t with ⟨e, hf⟩ | ⟨p, r, rfl, e2, hf⟩
  · rw [e, if_neg (by decide), if_pos (col_miss t hf)]
  · obtain ⟨h1, h2⟩ := col_hit r p hf
    rw [e2, if_pos (by omega), h1, h2, if_neg (by simp)]
    simp only [Int.toNat_natCast, List.tail_cons, List.length_singleton]
    rw [List.take_left, ← List.append_assoc, show p.length + 1 = (p ++ [58]).length by simp, List.drop_left]
def valV (t : Bytes) : Bytes := ((colB t).drop 2).take ((colB t).length - 4)
/-- May a field's text be taken apart: its name is right, a blank stands behind the colon, it ends its line. -/
def fldOk (t : Bytes) : Bool := decide (4 ≤ (colB t).length) && decide (((colB t).drop 1).head? = some 32) && CRLF.isSuffixOf t && nameOk (colA t)
def unfd (t : Bytes) : Option (Bytes × Bytes) := if fldOk t = true then (unf (valV t)).bind fun u => if safeB u = true then some (colA t, u) else none else none
/-! A head's first field. -/
def fEnd : Bytes → Option (Bytes × Bytes)
  | [] => none
  | c :: r => if c = 13 ∧ r.head? = some 10 ∧ r.tail.head? ≠ some 32 then some (CRLF, r.tail) else (fEnd r).map fun q => (c :: q.1, q.2)
theorem fEnd_parts : ∀ {s f r : Bytes}, fEnd s = some (f, r) → s = f ++ r ∧ ∃ a, f = a ++ CRLF
  | [], _, _, h => by cases h
  | c :: s, f, r, h => by
    unfold fEnd at h
    split at h
    · rename_i hc
      obtain ⟨rfl, h1, h2⟩ := hc
      cases s with
      | nil => cases h1
      | cons d t =>
        simp at h1; subst h1
        injection h with h; injection h with h3 h4
        subst h3; subst h4
        exact ⟨rfl, [], rfl⟩
    · cases hq : fEnd s with
      | none => rw [hq] at h; cases h
      | some q =>
        rw [hq] at h
        obtain ⟨q1, q2⟩ := q
        injection h with h; injection h with h3 h4
        obtain ⟨e1, a, e2⟩ := fEnd_parts hq
        dsimp only at h3 h4
        subst h4
        exact ⟨by rw [← h3, e1]; rfl, c :: a, by rw [← h3, e2]; rfl⟩
theorem fEnd_miss : ∀ {s : Bytes}, Free CRLF s [] → fEnd s = none
  | [], _ => rfl
  | c :: s, h => by
    have h1 := h.1
    rw [List.append_nil] at h1
    unfold fEnd
    rw [if_neg (fun x => crlf_not h1 ⟨x.1, x.2.1⟩), fEnd_miss h.2]; rfl
theorem fEnd_hit (r : Bytes) : ∀ {p : Bytes}, Free CRLF p (CRLF ++ r) → fEnd (p ++ (CRLF ++ r)) = if r.head? ≠ some 32 then some (p ++ CRLF, r) else (fEnd r).map fun q => (p ++ (CRLF ++ q.1), q.2)
  | [], _ => by
    show fEnd (13 :: 10 :: r) = _
    rw [fEnd]
    by_cases hr : r.head? = some 32
    · rw [if_neg (by simp [hr]), if_neg (by simp [hr]), fEnd, if_neg (by simp)]
      cases fEnd r <;> rfl
    · rw [if_pos (by simp [hr]), if_pos hr]; rfl
  | c :: p, h => by
    rw [List.cons_append, fEnd, if_neg (fun x => crlf_not h.1 ⟨x.1, x.2.1⟩), fEnd_hit r h.2]
    split
    · rfl
    · cases fEnd r <;> rfl
/-- In front of an end of line the first field ends where it ends alone. -/
theorem fEnd_front (b : Bytes) : ∀ (a : Bytes), CRLF.isSuffixOf a = true → fEnd (a ++ (CRLF ++ b)) = (fEnd a).map fun q => (q.1, q.2 ++ (CRLF ++ b))
  | [], h => by simp at h
  | c :: r, h => by
    rw [List.cons_append, fEnd, fEnd]
    by_cases hc : c = 13 ∧ r.head? = some 10 ∧ r.tail.head? ≠ some 32
    · obtain ⟨rfl, h1, h2⟩ := hc
      cases r with
      | nil => cases h1
      | cons d t =>
        simp at h1; subst h1
        have hL : (13 : UInt8) = 13 ∧ (10 :: t ++ (CRLF ++ b)).head? = some 10 ∧ (10 :: t ++ (CRLF ++ b)).tail.head? ≠ some 32 := by
          refine ⟨rfl, rfl, ?_⟩
          cases t with
          | nil => simp
          | cons e u => simpa using h2
        rw [if_pos hL, if_pos ⟨rfl, rfl, h2⟩]; rfl
    · rw [if_neg hc]
      have hr : r ≠ [] := by rintro rfl; rw [List.isSuffixOf_iff_suffix] at h; have := h.length_le; simp at this
      have hn : ¬ (c = 13 ∧ (r ++ (CRLF ++ b)).head? = some 10 ∧ (r ++ (CRLF ++ b)).tail.head? ≠ some 32) := by
        rintro ⟨rfl, h1, h2⟩
        cases r with
        | nil => exact hr rfl
        | cons d t =>
          simp at h1; subst h1
          refine hc ⟨rfl, rfl, ?_⟩
          cases t with
          | nil => simp
          | cons e u => simpa using h2
      rw [if_neg hn]
      by_cases hs : CRLF.isSuffixOf r = true
      · rw [fEnd_front b r hs]
        cases fEnd r <;> rfl
      · exfalso
        rw [List.isSuffixOf_iff_suffix] at h
        rcases List.suffix_cons_iff.mp h with h | h
        · injection h with h1 h2
          subst h1; subst h2
          exact hc ⟨rfl, rfl, by simp⟩
        · exact hs (List.isSuffixOf_iff_suffix.mpr h)
/-! A mail's text, taken apart: its fields, its body. -/
abbrev Flds := List (Bytes × Bytes)
def parse : Nat → Bytes → Flds → Option (Flds × Bytes)
  | 0, _, _ => none
  | n + 1, s, fs => if CRLF.isPrefixOf s = true then some (fs, s.drop 2) else (fEnd s).bind fun q => (unfd q.1).bind fun x => if fs.length = 40 then none else parse n q.2 (fs ++ [x])
abbrev DD : Bytes := [13, 10, 13, 10]
theorem parse_dd : ∀ (n : Nat) (s : Bytes) (fs : Flds) (x : Flds × Bytes), parse n s fs = some x → CRLF.isPrefixOf s = true ∨ ∃ p q, s = p ++ (DD ++ q)
  | 0, _, _, _, h => by cases h
  | n + 1, s, fs, x, h => by
    unfold parse at h
    split at h
    · rename_i hp; exact Or.inl hp
    · right
      cases hq : fEnd s with
      | none => rw [hq] at h; cases h
      | some q =>
        obtain ⟨f, r⟩ := q
        rw [hq] at h
        dsimp only [Option.bind_some] at h
        cases hu : unfd f with
        | none => rw [hu] at h; cases h
        | some u =>
          rw [hu] at h
          dsimp only [Option.bind_some] at h
          split at h
          · cases h
          · obtain ⟨e1, a, e2⟩ := fEnd_parts hq
            rcases parse_dd n r _ x h with hp | ⟨p, q, e⟩
            · obtain ⟨t, ht⟩ := List.isPrefixOf_iff_prefix.mp hp
              exact ⟨a, t, by rw [e1, e2, ← ht]; simp⟩
            · exact ⟨f ++ p, q, by rw [e1, e]; simp⟩
def smallF (fs : Flds) : Prop := ∀ x ∈ fs, x.1.length ≤ 40 ∧ x.2.length ≤ 2000
theorem unfd_small {t : Bytes} {x : Bytes × Bytes} (h : unfd t = some x) : x.1.length ≤ 40 ∧ x.2.length ≤ 2000 := by
  unfold unfd at h
  split at h
  · rename_i ho
    cases hu : unf (valV t) with
    | none => rw [hu] at h; cases h
    | some u =>
      rw [hu] at h
      dsimp only [Option.bind_some] at h
      split at h
      · rename_i hs
        cases h
        simp only [fldOk, nameOk, Bool.and_eq_true, decide_eq_true_eq] at ho
        simp only [safeB, Bool.and_eq_true, decide_eq_true_eq] at hs
        exact ⟨ho.2.1.2, hs.1⟩
      · cases h
  · cases h
theorem parse_small : ∀ (n : Nat) (s : Bytes) (fs : Flds) (x : Flds × Bytes), smallF fs → fs.length ≤ 40 → parse n s fs = some x → smallF x.1 ∧ x.1.length ≤ 40
  | 0, _, _, _, _, _, h => by cases h
  | n + 1, s, fs, x, hf, hl, h => by
    unfold parse at h
    split at h
    · cases h; exact ⟨hf, hl⟩
    · cases hq : fEnd s with
      | none => rw [hq] at h; cases h
      | some q =>
        rw [hq] at h
        dsimp only [Option.bind_some] at h
        cases hu : unfd q.1 with
        | none => rw [hu] at h; cases h
        | some u =>
          rw [hu] at h
          dsimp only [Option.bind_some] at h
          split at h
          · cases h
          · refine parse_small n q.2 _ x (fun y hy => ?_) (by simp; omega) h
            rcases List.mem_append.mp hy with hy | hy
            · exact hf y hy
            · obtain rfl := List.mem_singleton.mp hy; exact unfd_small hu
/-- The body begins behind an end of line. -/
theorem parse_body : ∀ (n : Nat) (s : Bytes) (fs : Flds) (x : Flds × Bytes), parse n s fs = some x → ∃ a, s = a ++ (CRLF ++ x.2)
  | 0, _, _, _, h => by cases h
  | n + 1, s, fs, x, h => by
    unfold parse at h
    split at h
    · rename_i hp
      obtain ⟨t, ht⟩ := List.isPrefixOf_iff_prefix.mp hp
      cases h
      exact ⟨[], by rw [← ht]; simp⟩
    · cases hq : fEnd s with
      | none => rw [hq] at h; cases h
      | some q =>
        obtain ⟨f, r⟩ := q
        rw [hq] at h
        dsimp only [Option.bind_some] at h
        cases hu : unfd f with
        | none => rw [hu] at h; cases h
        | some u =>
          rw [hu] at h
          dsimp only [Option.bind_some] at h
          split at h
          · cases h
          · obtain ⟨a, ha⟩ := parse_body n r _ x h
            exact ⟨f ++ a, by rw [(fEnd_parts hq).1, ha]; simp⟩
end Go.Proofs.YtcmnndnigjkldaaGreatDoor
end
section
set_option linter.unusedVariables false
set_option linter.unusedSimpArgs false
namespace Go.Proofs.YtcmnndnigjkldaaGreatDoor
open Go.RowKit
def isD (c : UInt8) : Bool := 48 ≤ c.toNat && c.toNat ≤ 57
theorem isD_iff {c : UInt8} : isD c = true ↔ 48 ≤ c.toNat ∧ c.toNat ≤ 57 := by simp [isD]
theorem isD_not {c : UInt8} : isD c = false ↔ c.toNat < 48 ∨ 57 < c.toNat := by rw [← Bool.not_eq_true, isD_iff]; omega
/-- The number that digits go on to. -/
def valF (v : Int) (d : Bytes) : Int := d.foldl (fun n c => n * 10 + ((c.toNat : Int) - 48)) v
theorem valF_cons (v : Int) (c : UInt8) (d : Bytes) : valF v (c :: d) = valF (v * 10 + ((c.toNat : Int) - 48)) d := rfl
theorem valF_bound : ∀ (d : Bytes) (v : Int), d.all isD = true → 0 ≤ v → 0 ≤ valF v d ∧ valF v d < (v + 1) * 10 ^ d.length
  | [], v, _, hv => by simp [valF]; omega
  | c :: d, v, h, hv => by
    simp only [List.all_cons, Bool.and_eq_true, isD_iff] at h
    have ih := valF_bound d (v * 10 + ((c.toNat : Int) - 48)) h.2 (by omega)
    rw [valF_cons]
    refine ⟨ih.1, ?_⟩
    have h2 : (v * 10 + ((c.toNat : Int) - 48) + 1) * 10 ^ d.length ≤ ((v + 1) * 10) * 10 ^ d.length := Int.mul_le_mul_of_nonneg_right (by omega) (Int.pow_nonneg (by omega))
    have h3 : (v + 1) * 10 ^ (c :: d).length = ((v + 1) * 10) * 10 ^ d.length := by rw [List.length_cons, Int.pow_succ, Int.mul_assoc, Int.mul_comm 10]
    rw [h3]; omega
theorem valF_small {d : Bytes} (h : d.all isD = true) (hl : d.length ≤ 18) : 0 ≤ valF 0 d ∧ valF 0 d < 1000000000000000000 := by
  have h1 := valF_bound d 0 h (by omega)
  have h2 : (10 : Nat) ^ d.length ≤ 1000000000000000000 := Nat.le_trans (Nat.pow_le_pow_right (n := 10) (by omega) hl) (Nat.le_of_eq (by simp))
  have h3 : (10 : Int) ^ d.length = ((10 ^ d.length : Nat) : Int) := by simp
  rw [h3] at h1
  refine ⟨h1.1, ?_⟩
  omega
theorem pow_le18 {i : Nat} (h : i ≤ 18) : (10 : Nat) ^ i ≤ 1000000000000000000 := Nat.le_trans (Nat.pow_le_pow_right (n := 10) (by omega) h) (Nat.le_of_eq (by simp))
theorem pow_le17 {i : Nat} (h : i ≤ 17) : (10 : Nat) ^ i ≤ 100000000000000000 := Nat.le_trans (Nat.pow_le_pow_right (n := 10) (by omega) h) (Nat.le_of_eq (by simp))
/-- A number's text: its sign, its digits, its number. -/
def numNeg (l : Bytes) : Bool := l.head? == some 45
def numDig (l : Bytes) : Bytes := if numNeg l then l.tail else l
def numOk (l : Bytes) : Bool := !(numDig l).isEmpty && decide ((numDig l).length ≤ 18) && !((numDig l).head? == some 48 && (decide (1 < (numDig l).length) || numNeg l)) && (numDig l).all isD
def numVal (l : Bytes) : Int := if numNeg l then -valF 0 (numDig l) else valF 0 (numDig l)
def numR (l : Bytes) : Int × Bool := if numOk l then (numVal l, true) else (0, false)
theorem parseUint_valF : ∀ (d : Bytes) (v : Nat), d.all isD = true → (v + 1) * 10 ^ d.length ≤ 1000000000000000000 → Lib.parseUint10 v d = .ok (valF v d).toNat
  | [], v, _, _ => by simp [Lib.parseUint10, valF]
  | c :: d, v, h, hv => by
    simp only [List.all_cons, Bool.and_eq_true, isD_iff] at h
    rw [List.length_cons, Nat.pow_succ, Nat.mul_comm (10 ^ d.length) 10, ← Nat.mul_assoc] at hv
    have h1 : (v + 1) * 10 ≤ 1000000000000000000 := Nat.le_trans (Nat.le_mul_of_pos_right _ (Nat.pow_pos (by omega))) hv
    have h2 : (v * 10 + (c.toNat - 48) + 1) * 10 ^ d.length ≤ (v + 1) * 10 * 10 ^ d.length := Nat.mul_le_mul_right _ (by omega)
    rw [Lib.parseUint10, if_pos h.1, if_neg (by omega), if_neg (by omega), parseUint_valF d _ h.2 (Nat.le_trans h2 hv), valF_cons]
    congr 3
    omega
theorem parseMag_valF {d : Bytes} (h : d.all isD = true) (h0 : d ≠ []) (hl : d.length ≤ 18) : Lib.parseMag d = .ok (valF 0 d).toNat := by
  rw [Lib.parseMag, if_neg h0, parseUint_valF d 0 h]
  · rfl
  · rw [Nat.zero_add, Nat.one_mul]
    exact Nat.le_trans (Nat.pow_le_pow_right (n := 10) (by omega) hl) (Nat.le_of_eq (by simp))
/-- strconv.Atoi at a number's text. -/
theorem atoi_num {l : Bytes} (h0 : numDig l ≠ []) (hl : (numDig l).length ≤ 18) (hd : (numDig l).all isD = true) : Lib.atoiAll l = .ok (numVal l) := by
  have hv := valF_small hd hl
  cases l with
  | nil => exact absurd (by simp [numDig, numNeg]) h0
  | cons c r =>
    by_cases hn : c = 45
    · subst hn
      have e1 : numNeg (45 :: r) = true := by simp [numNeg]
      have e2 : numDig (45 :: r) = r := by rw [numDig, if_pos e1]; rfl
      rw [e2] at h0 hl hd hv
      have hm := parseMag_valF hd h0 hl
      rw [Lib.atoiAll, if_pos (by simp), hm]
      simp only [numVal, e1, e2, if_true]
      rw [if_neg (by simp), if_neg (by simp; omega), if_pos (by simp)]
      congr 2
      omega
    · have e1 : numNeg (c :: r) = false := by simp [numNeg, hn]
      have e2 : numDig (c :: r) = c :: r := by rw [numDig, if_neg (by simp [e1])]
      rw [e2] at h0 hl hd hv
      have hm := parseMag_valF hd h0 hl
      have hc : 48 ≤ c.toNat ∧ c.toNat ≤ 57 := by simp only [List.all_cons, Bool.and_eq_true, isD_iff] at hd; exact hd.1
      rw [Lib.atoiAll, if_neg (by omega), hm]
      simp only [numVal, e1, e2]
      rw [if_neg (by omega), if_neg (by omega), if_neg (by omega)]
      simp; omega
end Go.Proofs.YtcmnndnigjkldaaGreatDoor
end
