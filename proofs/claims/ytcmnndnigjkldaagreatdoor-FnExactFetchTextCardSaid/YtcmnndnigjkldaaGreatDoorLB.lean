/- Texts laid together: YtcmnndnigjkldaaGreatDoorLFetF, YtcmnndnigjkldaaGreatDoorLFetG, YtcmnndnigjkldaaGreatDoorLFetH, YtcmnndnigjkldaaGreatDoorLFetI, YtcmnndnigjkldaaGreatDoorLFetJ, YtcmnndnigjkldaaGreatDoorLFetN. -/
import Derived.Test.YtcmnndnigjkldaaGreatDoorLA
section
set_option linter.unusedVariables false
set_option linter.unusedSimpArgs false
namespace Go.Proofs.YtcmnndnigjkldaaGreatDoor.PFnExactFetchText
open Go.RowKit Go.Proofs.YtcmnndnigjkldaaGreatDoorW.PrintWords
/-! A number's digits. -/
theorem digits_len : ∀ (n : Nat), n ≤ 5000000000 → (Lib.decDigits n).length ≤ 20 := by
  have : ∀ (d n : Nat), n < 10 ^ (d + 1) → (Lib.decDigits n).length ≤ d + 1 := by
    intro d
    induction d with
    | zero => intro n h; rw [Lib.decDigits, dif_pos (by simpa using h)]; simp
    | succ d ih =>
      intro n h
      rw [Lib.decDigits]
      split
      · simp
      · have := ih (n / 10) (by rw [Nat.pow_succ] at h; omega)
        rw [List.length_append, List.length_singleton]; omega
  intro n hn
  exact Nat.le_trans (this 9 n (Nat.lt_of_le_of_lt hn (by decide))) (by omega)
theorem digits_ev : ∀ (n : Nat), n ≤ 5000000000 → Ev (fun k => spec_l00Digits.f k (n : Int)) (bs (Lib.decDigits n)) := by
  intro n
  induction n using Nat.strongRecOn with
  | ind n ih =>
    intro hn
    refine Ev.step (fun _ => spec_l00Digits.f.eq_2 ..) (ev_neg (by omega) (ev_neg (by omega) ?_))
    rw [Lib.decDigits]
    by_cases h : n < 10
    · rw [dif_pos h]
      refine ev_pos (by omega) (ev_some ?_)
      rw [w64 (by omega) (by omega), strOf_one]
      have : (((48 + (n : Int)) % 256) : Int).toNat = 48 + n := by omega
      rw [this]
    · rw [dif_neg h]
      have e1 : wrap64 (Int.tdiv (n : Int) 10) = ((n / 10 : Nat) : Int) := by
        rw [Int.tdiv_eq_ediv_of_nonneg (by omega), w64 (by omega) (by omega)]; omega
      have e2 : wrap64 (48 + Int.tmod (n : Int) 10) % 256 = ((48 + n % 10 : Nat) : Int) := by
        rw [Int.tmod_eq_emod_of_nonneg (by omega), w64 (by omega) (by omega)]; omega
      rw [e1, e2]
      refine ev_neg (by omega) (Ev.bind (ih (n / 10) (by omega) (by omega)) (ev_bindc rfl ?_))
      rw [strOf_one, Int.toNat_natCast]
      have hlen : (Lib.decDigits (n / 10)).length ≤ 20 := digits_len _ (by omega)
      refine ev_pos (by rw [bs_size, bs_size]; simp; omega) (ev_some ?_)
      rw [bs_append]
theorem itoa_nat (n : Nat) : Lib.itoa (n : Int) = Lib.decDigits n := by unfold Lib.itoa; rw [if_neg (by omega), Int.toNat_natCast]
theorem itoaF (n : Nat) (h : n ≤ 5000000000) : strconv_Itoa.f (n : Int) = some (bs (Lib.decDigits n)) := by
  unfold strconv_Itoa.f; rw [if_pos ⟨by omega, by omega⟩, itoa_nat]
/-! Lists of texts put together. -/
def jn (L : List Bytes) : Bytes := Lib.join L [32]
theorem jn_nil : jn [] = [] := rfl
theorem jn_snoc (L : List Bytes) (x : Bytes) : jn (L ++ [x]) = if L = [] then x else jn L ++ [32] ++ x := by
  unfold jn
  cases L with
  | nil => rw [if_pos rfl]; exact Lib.join_one x [32]
  | cons a r =>
    rw [if_neg (by simp), List.cons_append, Lib.join_cons, Lib.join_cons]
    unfold Lib.joinTail
    rw [List.map_append, List.flatten_append]
    simp
theorem jn_ne (L : List Bytes) (h : ∀ x ∈ L, x ≠ []) (hn : L ≠ []) : jn L ≠ [] := by
  cases L with
  | nil => exact absurd rfl hn
  | cons a r =>
    unfold jn
    rw [Lib.join_cons]
    intro e
    exact h a (by simp) (List.append_eq_nil_iff.mp e).1
theorem jn_len (c : Nat) : ∀ (L : List Bytes), (∀ x ∈ L, x.length ≤ c) → (jn L).length ≤ L.length * (c + 1) := by
  intro L h
  induction L with
  | nil => simp [jn_nil]
  | cons a r ih =>
    have h1 := h a (by simp)
    unfold jn at *
    rw [Lib.join_cons]
    have h2 : ∀ r : List Bytes, (∀ x ∈ r, x.length ≤ c) → (Lib.joinTail [32] r).length ≤ r.length * (c + 1) := by
      intro r
      induction r with
      | nil => intro _; simp [Lib.joinTail]
      | cons b s ihs =>
        intro hb
        have h3 := hb b (by simp)
        have h4 := ihs (fun x hx => hb x (by simp [hx]))
        unfold Lib.joinTail at *
        simp only [List.map_cons, List.flatten_cons, List.length_append, List.length_cons, List.length_nil, Nat.succ_mul]
        omega
    have h5 := h2 r (fun x hx => h x (by simp [hx]))
    simp only [List.length_append, List.length_cons, Nat.succ_mul]
    omega
theorem joinF (L : List Bytes) (h1 : L.length ≤ 1000) (h2 : (jn L).length ≤ 10000000) : strings_Join.f (L.map bs) (⟨#[32]⟩ : ByteArray) = some (bs (jn L)) := by
  have e : Lib.join ((L.map bs).map (·.data.toList)) (⟨#[32]⟩ : ByteArray).data.toList = jn L := by
    rw [List.map_map]
    have : ((fun x : ByteArray => x.data.toList) ∘ bs) = id := by funext x; rfl
    rw [this, List.map_id]; rfl
  unfold strings_Join.f
  rw [e, if_pos ⟨by simp, by simp; omega, by omega⟩]
theorem joinS_ev (L : List Bytes) (h1 : L.length ≤ 1000) (c : Nat) (hc : ∀ x ∈ L, x.length ≤ c) (hcb : c ≤ 10000) : Ev (fun k => spec_l00Join.f k (L.map bs) (⟨#[32]⟩ : ByteArray)) (bs (jn L)) := by
  have hmul : ∀ k : Nat, k ≤ 1000 → k * (c + 1) ≤ 1000 * 10001 := fun k hk => Nat.mul_le_mul hk (by omega)
  have loop : ∀ (m i : Nat), i + m = L.length → Ev (fun k => spec_l00Join.l0 k (L.map bs) (⟨#[32]⟩ : ByteArray) (bs (jn (L.take i))) i) (bs (jn L)) := by
    intro m
    induction m with
    | zero => intro i hi; rw [List.take_of_length_le (by omega)]; exact Ev.step (fun _ => spec_l00Join.l0.eq_2 ..) (ev_neg (by simp; omega) (ev_some rfl))
    | succ m ih =>
      intro i hi
      have hlt : i < L.length := by omega
      have hx := hc L[i] (List.getElem_mem hlt)
      have hj := jn_len c (L.take i) (fun x hx => hc x (List.mem_of_mem_take hx))
      have hq := hmul (L.take i).length (by simp; omega)
      have hI := ih (i + 1) (by omega)
      rw [List.take_succ_eq_append_getElem hlt, jn_snoc] at hI
      refine Ev.step (fun _ => spec_l00Join.l0.eq_2 ..) (ev_pos (by simp; omega) ?_)
      rw [rdB L i hlt, w64n (by omega)]
      by_cases h0 : 0 < i
      · rw [if_neg (by intro e; have := congrArg List.length e; rw [List.length_take, List.length_nil] at this; omega)] at hI
        have e1 : bs (jn (L.take i)) ++ (⟨#[32]⟩ : ByteArray) = bs (jn (L.take i) ++ [32]) := bs_append _ [32]
        refine ev_pos (by omega) (ev_pos (by have e9 : (⟨#[32]⟩ : ByteArray).size = 1 := rfl; rw [bs_size, e9]; omega) (ev_pos (by omega) ?_))
        rw [e1, bs_append]
        exact ev_pos (by rw [bs_size, bs_size, List.length_append, List.length_singleton]; omega) hI
      · obtain rfl : i = 0 := by omega
        rw [if_pos (by simp)] at hI
        refine ev_neg (by omega) (ev_pos (by omega) ?_)
        rw [List.take_zero, jn_nil, bs_append]
        exact ev_pos (by rw [bs_size, bs_size]; simp; omega) (ev_to rfl hI)
  unfold spec_l00Join.f
  exact loop L.length 0 (by omega)
/-! Flags' texts. -/
def flagN : List Bytes := [[92, 83, 101, 101, 110], [92, 65, 110, 115, 119, 101, 114, 101, 100], [92, 70, 108, 97, 103, 103, 101, 100], [92, 68, 101, 108, 101, 116, 101, 100], [92, 68, 114, 97, 102, 116]]
def chosen (n : Nat) : Nat → List Bytes
  | 0 => []
  | i + 1 => if n.testBit i then chosen n i ++ [flagN.getD i []] else chosen n i
def flagT (n : Nat) : Bytes := [40] ++ jn (chosen n 5) ++ [41]
theorem bitF : ∀ (n : Fin 32) (i : Fin 5), Go.bits .and .i64 (shr .i64 (n.val : Int) (IntKind.u64.wrap (i.val : Int))) 1 = if n.val.testBit i.val then 1 else 0 := by decide +kernel
theorem bitG : ∀ (n : Fin 32) (i : Fin 5), Go.bits .and .i64 (shr .i64 (n.val : Int) (i.val : Int)) 1 = if n.val.testBit i.val then 1 else 0 := by decide +kernel
theorem wrapU : ∀ (i : Fin 5), 0 ≤ IntKind.u64.wrap (i.val : Int) := by decide +kernel
theorem chosen_mem (n : Nat) : ∀ i, i ≤ 5 → (chosen n i).length ≤ i ∧ ∀ x ∈ chosen n i, x ≠ [] ∧ x.length ≤ 9
  | 0, _ => ⟨Nat.le_refl _, fun x h => by cases h⟩
  | i + 1, hi => by
    have ih := chosen_mem n i (by omega)
    unfold chosen
    split
    · refine ⟨by simp; omega, fun x hx => ?_⟩
      rcases List.mem_append.mp hx with hx | hx
      · exact ih.2 x hx
      · obtain rfl := List.mem_singleton.mp hx
        rcases (by omega : i = 0 ∨ i = 1 ∨ i = 2 ∨ i = 3 ∨ i = 4) with rfl | rfl | rfl | rfl | rfl <;> decide
    · exact ⟨by omega, ih.2⟩
theorem chosen_jn (n i : Nat) (hi : i ≤ 5) : (jn (chosen n i)).length ≤ 50 := by
  have h := chosen_mem n i hi
  have := jn_len 9 (chosen n i) (fun x hx => (h.2 x hx).2)
  omega
theorem flagT_len (n : Nat) : (flagT n).length ≤ 52 := by have := chosen_jn n 5 (Nat.le_refl _); unfold flagT; simp; omega
theorem flagN_at (i : Nat) (hi : i < 5) : rdOf ByteArray.empty (flagN.map bs) (i : Int) = bs (flagN.getD i []) := by
  rw [rdB flagN i (by simpa [flagN] using hi), List.getD, List.getElem?_eq_getElem (by simpa [flagN] using hi)]; rfl
theorem flagN_len (i : Nat) (hi : i < 5) : (flagN.getD i []).length ≤ 9 := by
  rcases (by omega : i = 0 ∨ i = 1 ∨ i = 2 ∨ i = 3 ∨ i = 4) with rfl | rfl | rfl | rfl | rfl <;> decide
theorem flagsS_ev (n : Nat) (hn : n < 32) : Ev (fun k => spec_l11Flags.f k (n : Int)) (bs (flagT n)) := by
  have loop : ∀ (m i : Nat), i + m = 5 → Ev (fun k => spec_l11Flags.l0 k (n : Int) (bs (jn (chosen n i))) (flagN.map bs) i) (bs (flagT n)) := by
    intro m
    induction m with
    | zero =>
      intro i hi
      obtain rfl : i = 5 := by omega
      have hj := chosen_jn n 5 (Nat.le_refl _)
      have e1 : (⟨#[40]⟩ : ByteArray) ++ bs (jn (chosen n 5)) = bs ([40] ++ jn (chosen n 5)) := bs_append [40] _
      refine Ev.step (fun _ => spec_l11Flags.l0.eq_2 ..) (ev_neg (by omega) (ev_pos (by rw [bs_size]; omega) ?_))
      rw [e1]
      exact ev_pos (by rw [bs_size]; simp; omega) (ev_some (bs_append _ [41]))
    | succ m ih =>
      intro i hi
      have hI := ih (i + 1) (by omega)
      have hb := bitF ⟨n, hn⟩ ⟨i, by omega⟩
      have hw := wrapU ⟨i, by omega⟩
      dsimp only at hb hw
      have hj := chosen_jn n i (by omega)
      have hm := chosen_mem n i (by omega)
      have hl := flagN_len i (by omega)
      refine Ev.step (fun _ => spec_l11Flags.l0.eq_2 ..) (ev_pos (by omega) (ev_pos hw ?_))
      rw [hb, w64n (by omega), flagN_at i (by omega)]
      unfold chosen at hI
      by_cases ht : n.testBit i = true
      · rw [if_pos ht, jn_snoc] at hI
        rw [if_pos ht]
        refine ev_neg (by omega) ?_
        by_cases hc : chosen n i = []
        · rw [if_pos hc] at hI
          refine ev_pos (by rw [hc, jn_nil]; exact (bs_nilq []).mpr rfl) (ev_pos (by omega) (ev_pos (by simp [flagN]; omega) ?_))
          rw [hc, jn_nil, bs_append]
          exact ev_pos (by rw [bs_size, bs_size, List.length_nil]; omega) hI
        · rw [if_neg hc] at hI
          have e1 : bs (jn (chosen n i)) ++ (⟨#[32]⟩ : ByteArray) = bs (jn (chosen n i) ++ [32]) := bs_append _ [32]
          refine ev_neg (fun x => jn_ne _ (fun x hx => (hm.2 x hx).1) hc ((bs_nilq _).mp x)) (ev_pos (by rw [bs_size]; omega) (ev_pos (by omega) (ev_pos (by simp [flagN]; omega) ?_)))
          rw [e1, bs_append]
          exact ev_pos (by rw [bs_size, bs_size, List.length_append, List.length_singleton]; omega) hI
      · rw [if_neg ht] at hI
        rw [if_neg ht]
        exact ev_pos rfl hI
  unfold spec_l11Flags.f
  exact ev_bindc (a := flagN.map bs) rfl (loop 5 0 rfl)
theorem flagsI_ev (n : Nat) (hn : n < 32) : Ev (fun k => impl_flagsText.f k (n : Int)) (bs (flagT n)) := by
  have loop : ∀ (m i : Nat), i + m = 5 → Ev (fun k => impl_flagsText.l0 k (n : Int) ((chosen n i).map bs) (flagN.map bs) 5 i) (bs (flagT n)) := by
    intro m
    induction m with
    | zero =>
      intro i hi
      obtain rfl : i = 5 := by omega
      have hj := chosen_jn n 5 (Nat.le_refl _)
      have hm := chosen_mem n 5 (Nat.le_refl _)
      have e1 : (⟨#[40]⟩ : ByteArray) ++ bs (jn (chosen n 5)) = bs ([40] ++ jn (chosen n 5)) := bs_append [40] _
      refine Ev.step (fun _ => impl_flagsText.l0.eq_2 ..) (ev_neg (by omega) (ev_bindc (joinF _ (by omega) (by omega)) (ev_pos (by rw [bs_size]; omega) ?_)))
      rw [e1]
      exact ev_pos (by rw [bs_size]; simp; omega) (ev_some (bs_append _ [41]))
    | succ m ih =>
      intro i hi
      have hI := ih (i + 1) (by omega)
      have hb := bitG ⟨n, hn⟩ ⟨i, by omega⟩
      dsimp only at hb
      have hm := chosen_mem n i (by omega)
      refine Ev.step (fun _ => impl_flagsText.l0.eq_2 ..) (ev_pos (by omega) (ev_pos (by omega) (ev_pos (by simp [flagN]; omega) ?_)))
      rw [hb, w64n (by omega), flagN_at i (by omega)]
      unfold chosen at hI
      by_cases ht : n.testBit i = true
      · rw [if_pos ht, List.map_append] at hI
        rw [if_pos ht]
        exact ev_pos rfl (ev_pos (by simp; omega) hI)
      · rw [if_neg ht] at hI
        rw [if_neg ht]
        exact ev_neg (by omega) hI
  unfold impl_flagsText.f
  exact ev_bindc (a := flagN.map bs) rfl (loop 5 0 rfl)
end Go.Proofs.YtcmnndnigjkldaaGreatDoor.PFnExactFetchText
end
section
set_option linter.unusedVariables false
set_option linter.unusedSimpArgs false
namespace Go.Proofs.YtcmnndnigjkldaaGreatDoor.PFnExactFetchText
open Go.RowKit Go.Proofs.YtcmnndnigjkldaaGreatDoorW.PrintWords
/-! Items of a fetch: their words. -/
abbrev wFlags : Bytes := [70, 76, 65, 71, 83]
abbrev wUid : Bytes := [85, 73, 68]
abbrev wSize : Bytes := [82, 70, 67, 56, 50, 50, 46, 83, 73, 90, 69]
abbrev wHead : Bytes := [72, 69, 65, 68, 69, 82]
abbrev wText : Bytes := [84, 69, 88, 84]
abbrev hBody : Bytes := [66, 79, 68, 89]
abbrev hPeek : Bytes := [66, 79, 68, 89, 46, 80, 69, 69, 75]
def hW (pk : Bool) : Bytes := if pk then hPeek else hBody
def bodyW (q : Bytes × Bool) : Bytes := hW q.2 ++ ([91] ++ (q.1 ++ [93]))
def bodyL : List (Bytes × Bool) := [([], false), (wHead, false), (wText, false), ([], true), (wHead, true), (wText, true)]
def bodyOf (w : Bytes) : Option (Bytes × Bool) := bodyL.find? fun q => bodyW q == w
def isPart (p : Bytes) : Prop := p = [] ∨ p = wHead ∨ p = wText
theorem bodyOf_some {w : Bytes} {q : Bytes × Bool} (h : bodyOf w = some q) : bodyW q = w ∧ isPart q.1 := by
  have h1 := List.find?_some h
  have h2 := List.mem_of_find?_eq_some h
  refine ⟨by simpa using h1, ?_⟩
  unfold isPart
  simp only [bodyL, List.mem_cons, List.not_mem_nil, or_false] at h2
  rcases h2 with rfl | rfl | rfl | rfl | rfl | rfl <;> simp
theorem bodyOf_none {w : Bytes} (h : bodyOf w = none) (p : Bytes) (pk : Bool) (hp : isPart p) : bodyW (p, pk) ≠ w := by
  have h1 := List.find?_eq_none.mp h (p, pk) (by
    unfold isPart at hp
    rcases hp with rfl | rfl | rfl <;> cases pk <;> simp [bodyL])
  simpa using h1
theorem idx_of_free (sub : Bytes) (h0 : sub ≠ []) (r : Bytes) : ∀ p : Bytes, Free sub p (sub ++ r) → Lib.index (p ++ (sub ++ r)) sub = p.length
  | [], _ => by
    rw [List.nil_append]
    cases hs : sub ++ r with
    | nil => exact absurd (List.append_eq_nil_iff.mp hs).1 h0
    | cons b l =>
      unfold Lib.index
      rw [if_pos (by rw [← hs]; exact List.isPrefixOf_iff_prefix.mpr ⟨r, rfl⟩)]; rfl
  | c :: p, h => by
    rw [List.cons_append]
    unfold Lib.index
    rw [if_neg (by rw [h.1]; simp), idx_of_free sub h0 r p h.2, if_neg (by first | (simp; done) | (simp; omega))]
    simp
theorem free_one (c : UInt8) (q : Bytes) : ∀ p : Bytes, c ∉ p → Free [c] p q
  | [], _ => trivial
  | d :: p, h => ⟨by have hne : c ≠ d := (by rintro rfl; exact h (by simp)); simp [List.isPrefixOf, hne], free_one c q p (fun x => h (by simp [x]))⟩
theorem cutW (h r : Bytes) (hn : 91 ∉ h) (hl : (h ++ ([91] ++ r)).length ≤ 1048576) : strings_Cut.f (bs (h ++ ([91] ++ r))) (⟨#[91]⟩ : ByteArray) = some (bs h, bs r, true) := by
  unfold strings_Cut.f
  rw [if_pos (by rw [bs_size]; omega)]
  have e := idx_of_free [91] (by decide) r h (free_one 91 _ h hn)
  show some (bs (Lib.cut (h ++ ([91] ++ r)) [91]).1, bs (Lib.cut (h ++ ([91] ++ r)) [91]).2.1, (Lib.cut (h ++ ([91] ++ r)) [91]).2.2) = _
  unfold Lib.cut
  rw [e, if_pos (by omega)]
  simp only [Int.toNat_natCast, List.length_singleton]
  rw [List.take_left, ← List.append_assoc, show h.length + 1 = (h ++ [91]).length by simp, List.drop_left]
theorem cutNo (w : Bytes) (hl : w.length ≤ 1048576) : (strings_Cut.f (bs w) (⟨#[91]⟩ : ByteArray) = some (bs w, bs [], false)) ∨ ∃ h r, w = h ++ ([91] ++ r) ∧ strings_Cut.f (bs w) (⟨#[91]⟩ : ByteArray) = some (bs h, bs r, true) := by
  rcases idx_cases [91] (by decide) w with ⟨e, hf⟩ | ⟨h, r, rfl, e2, hf⟩
  · left
    unfold strings_Cut.f
    rw [if_pos (by rw [bs_size]; omega)]
    show some (bs (Lib.cut w [91]).1, bs (Lib.cut w [91]).2.1, (Lib.cut w [91]).2.2) = _
    unfold Lib.cut
    rw [e, if_neg (by decide)]
  · right
    refine ⟨h, r, rfl, ?_⟩
    unfold strings_Cut.f
    rw [if_pos (by rw [bs_size]; omega)]
    show some (bs (Lib.cut (h ++ ([91] ++ r)) [91]).1, bs (Lib.cut (h ++ ([91] ++ r)) [91]).2.1, (Lib.cut (h ++ ([91] ++ r)) [91]).2.2) = _
    unfold Lib.cut
    rw [e2, if_pos (by omega)]
    simp only [Int.toNat_natCast, List.length_singleton]
    rw [List.take_left, ← List.append_assoc, show h.length + 1 = (h ++ [91]).length by simp, List.drop_left]
def kept (w : Bytes) : Prop := w = wFlags ∨ w = wUid ∨ w = wSize
def nmB (p : Bytes) : Bytes := [66, 79, 68, 89, 91] ++ p ++ [93]
abbrev NOI : ByteArray × ByteArray × Bool × Bool × Bool := ((⟨#[]⟩ : ByteArray), (⟨#[]⟩ : ByteArray), false, false, false)
def upB (x : Bytes) : Bytes := x.map upC
/-- An item that is right, by its word. -/
def itS (w : Bytes) : Option S48 := if w = wFlags ∨ w = wUid ∨ w = wSize then some ⟨bs w, (⟨#[]⟩ : ByteArray), false, false⟩ else (bodyOf w).map fun q => ⟨bs (nmB q.1), bs q.1, true, q.2⟩
theorem leafI (h p : Bytes) (hp : p.length ≤ 100) : (if 5 + (bs p).size ≤ 9223372036854775807 then (if ((⟨#[66, 79, 68, 89, 91]⟩ : ByteArray) ++ bs p).size + 1 ≤ 9223372036854775807 then (some (((⟨#[66, 79, 68, 89, 91]⟩ : ByteArray) ++ bs p) ++ (⟨#[93]⟩ : ByteArray), bs p, true, ((bs h).toList == ([66, 79, 68, 89, 46, 80, 69, 69, 75] : List UInt8)), true)) else (none)) else (none)) = some (bs (nmB p), bs p, true, (h == hPeek), true) := by
  have e1 : (⟨#[66, 79, 68, 89, 91]⟩ : ByteArray) ++ bs p = bs ([66, 79, 68, 89, 91] ++ p) := bs_append [66, 79, 68, 89, 91] p
  have e2 : bs ([66, 79, 68, 89, 91] ++ p) ++ (⟨#[93]⟩ : ByteArray) = bs (nmB p) := bs_append _ [93]
  rw [if_pos (by rw [bs_size]; omega), e1, if_pos (by rw [bs_size]; simp; omega), e2, bs_toList]
theorem itemI_j0 (w : Bytes) (hl : w.length ≤ 1048576) : Ev (fun k => impl_itemOf.j0 k (bs w) false) (match bodyOf w with | none => NOI | some q => (bs (nmB q.1), bs q.1, true, q.2, true)) := by
  refine Ev.step (fun _ => impl_itemOf.j0.eq_2 ..) (ev_neg (by simp) ?_)
  cases hb : bodyOf w with
  | some q =>
    obtain ⟨e, hp⟩ := bodyOf_some hb
    obtain ⟨p, pk⟩ := q
    subst e
    have hpl : p.length ≤ 100 := by rcases hp with h | h | h <;> (dsimp only at h; rw [h]; decide)
    have hn : 91 ∉ hW pk := by cases pk <;> decide
    have hs : (p ++ [93]).length ≤ 1048576 := by simp; omega
    refine ev_bindc (cutW (hW pk) (p ++ [93]) hn hl) (ev_bindc (cutSuf (p ++ [93]) [93] hs (by decide)) ?_)
    rw [if_pos (List.isSuffixOf_iff_suffix.mpr (List.suffix_append _ _))]
    have et : (p ++ [93]).take ((p ++ [93]).length - [(93 : UInt8)].length) = p := by simp
    rw [et]
    refine ev_pos rfl ?_
    dsimp only at hp
    cases pk with
    | false =>
      refine ev_pos (bs_toList hBody) ?_
      rcases hp with rfl | rfl | rfl
      · exact ev_pos ((bs_nilq []).mpr rfl) (ev_to (by first | rfl | (simp [hW]; done)) (ev_bindc (f := fun _ x => some x) (leafI hBody [] (by decide)) (ev_some rfl)))
      · exact ev_neg (fun x => by have := (bs_nilq _).mp x; cases this) (ev_pos (bs_toList wHead) (ev_bindc (f := fun _ x => some x) (leafI hBody wHead (by decide)) (ev_some rfl)))
      · exact ev_neg (fun x => by have := (bs_nilq _).mp x; cases this) (ev_neg (by rw [bs_toList]; decide) (ev_pos (bs_toList wText) (ev_bindc (f := fun _ x => some x) (leafI hBody wText (by decide)) (ev_some rfl))))
    | true =>
      refine ev_neg (by show ¬ (bs hPeek).toList = _; rw [bs_toList]; decide) (ev_pos (bs_toList hPeek) ?_)
      rcases hp with rfl | rfl | rfl
      · exact ev_pos ((bs_nilq []).mpr rfl) (ev_bindc (f := fun _ x => some x) (leafI hPeek [] (by decide)) (ev_some rfl))
      · exact ev_neg (fun x => by have := (bs_nilq _).mp x; cases this) (ev_pos (bs_toList wHead) (ev_bindc (f := fun _ x => some x) (leafI hPeek wHead (by decide)) (ev_some rfl)))
      · exact ev_neg (fun x => by have := (bs_nilq _).mp x; cases this) (ev_neg (by rw [bs_toList]; decide) (ev_pos (bs_toList wText) (ev_bindc (f := fun _ x => some x) (leafI hPeek wText (by decide)) (ev_some rfl))))
  | none =>
    rcases cutNo w hl with hc | ⟨h, r, e, hc⟩
    · refine ev_bindc hc (ev_bindc (cutSuf [] [93] (by simp) (by decide)) ?_)
      rw [if_neg (by decide)]
      first | exact ev_some rfl | exact ev_neg (by simp) (ev_some rfl)
    · have hrl : r.length ≤ 1048576 := by rw [e] at hl; simp at hl; omega
      refine ev_bindc hc (ev_bindc (cutSuf r [93] hrl (by decide)) ?_)
      cases hs : List.isSuffixOf [93] r with
      | false => rw [if_neg (by simp)]; first | exact ev_some rfl | exact ev_neg (by simp) (ev_some rfl)
      | true =>
        rw [if_pos rfl]
        obtain ⟨p, hp⟩ := List.isSuffixOf_iff_suffix.mp hs
        subst hp
        have et : (p ++ [93]).take ((p ++ [93]).length - [(93 : UInt8)].length) = p := by simp
        rw [et]
        have hno : ∀ pk, h = hW pk → ¬ isPart p := fun pk he hq => bodyOf_none hb p pk hq (by rw [e, he]; rfl)
        refine ev_pos rfl ?_
        by_cases h1 : h = hBody
        · have hq := hno false h1
          subst h1
          refine ev_pos (bs_toList hBody) (ev_neg (fun x => hq (Or.inl ((bs_nilq _).mp x))) (ev_neg (fun x => hq (Or.inr (Or.inl (by rw [bs_toList] at x; exact x)))) (ev_neg (fun x => hq (Or.inr (Or.inr (by rw [bs_toList] at x; exact x)))) (ev_some rfl))))
        · refine ev_neg (fun x => h1 (by rw [bs_toList] at x; exact x)) ?_
          by_cases h2 : h = hPeek
          · have hq := hno true h2
            subst h2
            refine ev_pos (bs_toList hPeek) (ev_neg (fun x => hq (Or.inl ((bs_nilq _).mp x))) (ev_neg (fun x => hq (Or.inr (Or.inl (by rw [bs_toList] at x; exact x)))) (ev_neg (fun x => hq (Or.inr (Or.inr (by rw [bs_toList] at x; exact x)))) (ev_some rfl))))
          · exact ev_neg (fun x => h2 (by rw [bs_toList] at x; exact x)) (ev_some rfl)
theorem upperI (x : Bytes) (hx : x.length ≤ 1048576) : impl_upper.f (bs x) = some (bs (upB x)) := by
  have hmx : (1048576 : Nat) ≤ maxLen := by decide
  unfold impl_upper.f
  rw [if_pos (by rw [bs_size]; omega)]; rfl
theorem upperS (x : Bytes) (hx : x.length ≤ 1048576) : spec_l11Upper.f (bs x) = some (bs (upB x)) := by
  have hmx : (1048576 : Nat) ≤ maxLen := by decide
  unfold spec_l11Upper.f
  rw [if_pos (by rw [bs_size]; omega)]; rfl
theorem itemI_ev (x : Bytes) (hx : x.length ≤ 1048576) : Ev (fun k => impl_itemOf.f k (bs x)) (match itS (upB x) with | none => NOI | some y => (y.f0, y.f1, y.f2, y.f3, true)) := by
  have hu : (upB x).length ≤ 1048576 := by unfold upB; rw [List.length_map]; exact hx
  unfold impl_itemOf.f
  refine ev_bindc (upperI x hx) ?_
  have yes : ∀ w : Bytes, Ev (fun k => impl_itemOf.j0 k (bs w) true) (bs w, (⟨#[]⟩ : ByteArray), false, false, true) := fun w => Ev.step (fun _ => impl_itemOf.j0.eq_2 ..) (ev_pos rfl (ev_some rfl))
  generalize upB x = w at *
  unfold itS
  by_cases h1 : w = wFlags
  · subst h1; exact ev_pos (bs_toList wFlags) (ev_to (by simp) (yes wFlags))
  · refine ev_neg (fun e => h1 (by rw [bs_toList] at e; exact e)) ?_
    by_cases h2 : w = wUid
    · subst h2; exact ev_pos (bs_toList wUid) (ev_to (by simp) (yes wUid))
    · refine ev_neg (fun e => h2 (by rw [bs_toList] at e; exact e)) ?_
      by_cases h3 : w = wSize
      · subst h3
        rw [show ((bs wSize).toList == ([82, 70, 67, 56, 50, 50, 46, 83, 73, 90, 69] : List UInt8)) = true from by rw [bs_toList]; decide]
        exact ev_to (by simp) (yes wSize)
      · rw [show ((bs w).toList == ([82, 70, 67, 56, 50, 50, 46, 83, 73, 90, 69] : List UInt8)) = false from by rw [bs_toList]; simpa using h3, if_neg (by simp [h1, h2, h3])]
        refine ev_to ?_ (itemI_j0 w hu)
        cases bodyOf w <;> rfl
end Go.Proofs.YtcmnndnigjkldaaGreatDoor.PFnExactFetchText
end
section
set_option linter.unusedVariables false
set_option linter.unusedSimpArgs false
namespace Go.Proofs.YtcmnndnigjkldaaGreatDoor.PFnExactFetchText
open Go.RowKit Go.Proofs.YtcmnndnigjkldaaGreatDoorW.PrintWords
/-! A mail's parts, both ways. -/
def wh (t : Bytes) : Option (Flds × Bytes) := if mailB t = true then parse (t.length + 1) t [] else none
theorem wholeS_ev (t : Bytes) (ht : t.length ≤ 1048576) : Ev (fun k => spec_l07Whole.f k (bs t)) (match wh t with | none => NOM | some q => (flS q.1, bs q.2, true)) := by
  obtain ⟨x, hx1, hx2⟩ := parS_ev t ht
  unfold spec_l07Whole.f wh
  refine Ev.bind hx1 ?_
  cases hp : parse (t.length + 1) t [] with
  | none =>
    rw [hp] at hx2
    have hx3 : x.2.2 = false := hx2
    refine ev_neg (by rw [hx3]; simp) (ev_some ?_)
    cases mailB t <;> rfl
  | some q =>
    rw [hp] at hx2
    have hx3 : x = (flS q.1, bs q.2, true) := hx2
    subst hx3
    refine ev_pos rfl (Ev.bind (mailS_ok t ht) ?_)
    cases mailB t with
    | true => exact ev_pos rfl (ev_some rfl)
    | false => exact ev_neg (by simp) (ev_some rfl)
theorem parse_tail (b : Bytes) : ∀ (n : Nat) (s : Bytes) (fs : Flds) (q : Flds × Bytes), s.length < n → headIn s → parse n (s ++ (CRLF ++ b)) fs = some q → q.2 = b := by
  intro n
  induction n with
  | zero => intro s fs q hn; omega
  | succ n ih =>
    intro s fs q hn hin h
    unfold parse at h
    rcases hin with rfl | ⟨h1, h2, h3⟩
    · rw [if_pos (by simp)] at h
      cases h; rfl
    · have hsl : 2 ≤ s.length := by have := (List.isSuffixOf_iff_suffix.mp h1).length_le; simpa using this
      have hp : CRLF.isPrefixOf (s ++ (CRLF ++ b)) = false := by
        rw [← Bool.not_eq_true, pre_take, List.take_append_of_le_length (by simpa using hsl), ← pre_take, h2]; simp
      rw [if_neg (by rw [hp]; simp), fEnd_front b s h1] at h
      cases hq : fEnd s with
      | none => rw [hq] at h; cases h
      | some x =>
        obtain ⟨f, r'⟩ := x
        rw [hq] at h
        dsimp only [Option.map_some, Option.bind_some] at h
        obtain ⟨e4, a, e5⟩ := fEnd_parts hq
        have hf2 : 2 ≤ f.length := by rw [e5]; simp
        have hlr : f.length + r'.length = s.length := by have := congrArg List.length e4; simp at this; omega
        cases hu : unfd f with
        | none => rw [hu] at h; cases h
        | some u =>
          rw [hu] at h
          dsimp only [Option.bind_some] at h
          split at h
          · cases h
          · refine ih r' _ q (by omega) ?_ h
            by_cases hr0 : r' = []
            · exact Or.inl hr0
            · right
              have e6 : s = a ++ (CRLF ++ r') := by rw [e4, e5]; simp
              refine ⟨?_, ?_, fun p q e => h3 (f ++ p) q (by rw [e4, e]; simp)⟩
              · rw [e6] at h1
                rcases suffix_more.mp h1 with h | h
                · exact absurd h hr0
                · exact h
              · cases hq2 : CRLF.isPrefixOf r' with
                | false => rfl
                | true =>
                  obtain ⟨z, hz⟩ := List.isPrefixOf_iff_prefix.mp hq2
                  exact absurd (show s = a ++ (DD ++ z) by rw [e6, ← hz]; simp) (h3 a z)
theorem headB (t : Bytes) (ht : t.length ≤ 1048576) (fs : Flds) (b : Bytes) (h : parse (t.length + 1) t [] = some (fs, b)) : ∃ e : Nat, 2 ≤ e ∧ e ≤ t.length ∧ impl_headEnd.f (bs t) = some ((e : Int) - 2) ∧ b = t.drop e := by
  rw [headI t ht]
  cases hc : CRLF.isPrefixOf t with
  | true =>
    have hl : 2 ≤ t.length := by have := (List.isPrefixOf_iff_prefix.mp hc).length_le; simpa using this
    refine ⟨2, Nat.le_refl _, hl, rfl, ?_⟩
    unfold parse at h
    rw [if_pos hc] at h
    injection h with h; injection h with _ h; exact h.symm
  | false =>
    rw [if_neg (by simp)]
    rcases idx_cases DD (by decide) t with ⟨e, hf⟩ | ⟨h', b', e1, e2, hf⟩
    · exfalso
      rcases parse_dd _ _ _ _ h with h | ⟨p, q, h⟩
      · rw [h] at hc; cases hc
      · have := Free.before hf (a := p) (c := q) (by rw [List.append_nil]; exact h)
        have h2 := congrArg List.length h
        simp at h2; omega
    · have hl : h'.length + 4 + b'.length = t.length := by have := congrArg List.length e1; simp at this; omega
      have es : t = (h' ++ CRLF) ++ (CRLF ++ b') := by rw [e1]; simp
      have hin : headIn (h' ++ CRLF) := by
        refine Or.inr ⟨List.isSuffixOf_iff_suffix.mpr (List.suffix_append _ _), ?_, ?_⟩
        · cases hq : CRLF.isPrefixOf (h' ++ CRLF) with
          | false => rfl
          | true =>
            rw [List.isPrefixOf_iff_prefix] at hq
            rw [List.isPrefixOf_iff_prefix.mpr (hq.trans ⟨CRLF ++ b', es.symm⟩)] at hc; cases hc
        · intro p q e
          have := Free.before hf (a := p) (c := q ++ (CRLF ++ b')) (by rw [← e1, es, e]; simp)
          have h2 := congrArg List.length e
          simp at h2; omega
      refine ⟨h'.length + 4, by omega, by omega, by rw [e2, if_neg (by omega)]; congr 1; omega, ?_⟩
      have hb : b = b' := parse_tail b' (t.length + 1) (h' ++ CRLF) [] (fs, b) (by simp; omega) hin (by rw [← es]; exact h)
      rw [hb, es, ← List.append_assoc, show h'.length + 4 = (h' ++ CRLF ++ CRLF).length by simp, List.drop_left]
def partOf (t b p : Bytes) : Bytes := if p = [] then t else if p = wHead then t.take (t.length - b.length) else b
theorem partOf_len (t b p : Bytes) (hb : b.length ≤ t.length) : (partOf t b p).length ≤ t.length := by
  unfold partOf; split
  · exact Nat.le_refl _
  · split
    · rw [List.length_take]; omega
    · exact hb
theorem wh_some {t : Bytes} {q : Flds × Bytes} (h : wh t = some q) : mailB t = true ∧ parse (t.length + 1) t [] = some q := by
  unfold wh at h
  split at h
  · exact ⟨by assumption, h⟩
  · cases h
theorem wh_len {t : Bytes} {q : Flds × Bytes} (h : wh t = some q) : q.2.length ≤ t.length := by
  obtain ⟨z, hz⟩ := parse_body _ _ _ _ (wh_some h).2
  have := congrArg List.length hz; simp at this; omega
theorem partS_ev (t p : Bytes) (ht : t.length ≤ 1048576) : Ev (fun k => spec_l07Part.f k (bs t) (bs p)) (match wh t with | none => ((⟨#[]⟩ : ByteArray), false) | some q => if p = [] ∨ p = wHead ∨ p = wText then (bs (partOf t q.2 p), true) else ((⟨#[]⟩ : ByteArray), false)) := by
  unfold spec_l07Part.f
  refine Ev.bind (wholeS_ev t ht) ?_
  cases hw : wh t with
  | none => exact ev_neg (by simp) (ev_some rfl)
  | some q =>
    have hl := wh_len hw
    refine ev_pos rfl ?_
    unfold partOf
    by_cases h1 : p = []
    · subst h1; exact ev_pos ((bs_nilq []).mpr rfl) (ev_some (by simp))
    · refine ev_neg (fun x => h1 ((bs_nilq _).mp x)) ?_
      by_cases h2 : p = wHead
      · subst h2
        refine ev_pos (bs_toList wHead) ?_
        rw [bs_size, bs_size]
        have e : wrap64 ((t.length : Int) - (q.2.length : Int)) = ((t.length - q.2.length : Nat) : Int) := by rw [w64 (by omega) (by omega)]; omega
        rw [e]
        refine ev_pos (by omega) (ev_pos (by omega) (ev_some ?_))
        rw [Int.toNat_natCast, bs_extract, List.drop_zero]; simp
      · refine ev_neg (fun x => h2 (by rw [bs_toList] at x; exact x)) ?_
        by_cases h3 : p = wText
        · subst h3; exact ev_pos (bs_toList wText) (ev_some (by simp))
        · exact ev_neg (fun x => h3 (by rw [bs_toList] at x; exact x)) (ev_some (by simp [h1, h2, h3]))
theorem parI_wh (t : Bytes) (ht : t.length ≤ 1048576) : Ev (fun k => impl_parseMail.f k (bs t)) (match wh t with | none => NOM | some q => (flS q.1, bs q.2, true)) := by
  have h := parI_ev t ht
  unfold wh
  cases hm : mailB t with
  | false => rw [hm] at h; exact ev_to (if_neg (by simp)) h
  | true =>
    rw [hm] at h
    have h := ev_to (if_pos rfl) h
    refine ev_to ?_ h
    rw [if_pos rfl]
    cases parse (t.length + 1) t [] <;> rfl
theorem partI_ev (t p : Bytes) (ht : t.length ≤ 65536) (hp : p = [] ∨ p = wHead ∨ p = wText) : Ev (fun k => impl_MailPart.f k (bs t) (bs p)) (match wh t with | none => ((⟨#[]⟩ : ByteArray), 3) | some q => (bs (partOf t q.2 p), 0)) := by
  have hpl : p.length ≤ 100 := by rcases hp with h | h | h <;> (rw [h]; decide)
  have j1 : Ev (fun k => impl_MailPart.j1 k (bs t) (bs p)) (match wh t with | none => ((⟨#[]⟩ : ByteArray), 3) | some q => (bs (partOf t q.2 p), 0)) := by
    refine Ev.step (fun _ => impl_MailPart.j1.eq_2 ..) (Ev.bind (parI_wh t (by omega)) ?_)
    cases hw : wh t with
    | none => exact ev_neg (by simp) (ev_some rfl)
    | some q =>
      obtain ⟨hm, hq⟩ := wh_some hw
      obtain ⟨fs, b⟩ := q
      obtain ⟨e, he1, he2, he3, he4⟩ := headB t (by omega) fs b hq
      refine ev_pos rfl (ev_bindc (a := bs (partOf t b p)) ?_ (ev_some rfl))
      unfold impl_mailPart.f partOf
      have ew : wrap64 ((e : Int) - 2 + 2) = (e : Int) := by rw [w64 (by omega) (by omega)]; omega
      rw [he3, Option.bind_some, ew, bs_size]
      have hlen : t.length - b.length = e := by rw [he4, List.length_drop]; omega
      rcases hp with rfl | rfl | rfl
      · rw [if_neg (by rw [bs_toList]; decide), if_neg (by rw [bs_toList]; decide)]; rfl
      · rw [if_pos (bs_toList wHead), if_pos (by omega), if_pos (by omega), Int.toNat_natCast, bs_extract, List.drop_zero, if_neg (by decide), if_pos rfl, hlen]
      · rw [if_neg (by rw [bs_toList]; decide), if_pos (bs_toList wText), if_pos (by omega), if_pos (by omega), Int.toNat_natCast, bs_extract, List.take_of_length_le (Nat.le_refl _), if_neg (by decide), if_neg (by decide), ← he4]
  unfold impl_MailPart.f
  refine ev_neg (by rw [bs_size]; omega) ?_
  rw [bs_size, decide_eq_false (by omega)]
  refine Ev.step (fun _ => impl_MailPart.j0.eq_2 ..) (ev_neg (by simp) ?_)
  rcases hp with rfl | rfl | rfl
  · exact ev_pos ((bs_nilq []).mpr rfl) j1
  · exact ev_neg (by rw [bs_toList]; decide) (ev_pos (bs_toList wHead) j1)
  · exact ev_neg (by rw [bs_toList]; decide) (ev_neg (by rw [bs_toList]; decide) (ev_pos (bs_toList wText) j1))
/-! What an item tells. -/
def bodyT (p part : Bytes) : Bytes := [66, 79, 68, 89, 91] ++ p ++ [93, 32, 123] ++ Lib.decDigits part.length ++ [125, 13, 10] ++ part
def textOf (u fl : Nat) (t w : Bytes) : Option Bytes :=
  if w = wFlags then some (wFlags ++ [32] ++ flagT fl) else if w = wUid then some (wUid ++ [32] ++ Lib.decDigits u) else if w = wSize then some (wSize ++ [32] ++ Lib.decDigits t.length)
  else (bodyOf w).bind fun q => (wh t).map fun z => bodyT q.1 (partOf t z.2 q.1)
theorem textOf_len {u fl : Nat} {t w x : Bytes} (hu : u ≤ 1000) (ht : t.length ≤ 4000) (h : textOf u fl t w = some x) : x.length ≤ 5000 := by
  have d1 := digits_len u (by omega)
  have d2 := digits_len t.length (by omega)
  have d3 := flagT_len fl
  unfold textOf at h
  split at h
  · cases h; simp; omega
  · split at h
    · cases h; simp; omega
    · split at h
      · cases h; simp; omega
      · cases hb : bodyOf w with
        | none => rw [hb] at h; cases h
        | some q =>
          rw [hb] at h
          cases hz : wh t with
          | none => rw [hz] at h; cases h
          | some z =>
            rw [hz] at h
            simp only [Option.bind_some, Option.map_some, Option.some.injEq] at h
            have hp := (bodyOf_some hb).2
            have hpl : q.1.length ≤ 100 := by rcases hp with h | h | h <;> (rw [h]; decide)
            have hl := partOf_len t z.2 q.1 (wh_len hz)
            have d4 := digits_len (partOf t z.2 q.1).length (by omega)
            subst h
            unfold bodyT; simp; omega
def itemText3 (y : S48) (w : Bytes) : Prop := itS w = some y
theorem textI_ev (u fl : Nat) (hu : u ≤ 1000) (hfl : fl < 32) (t : Bytes) (ht : t.length ≤ 4000) (w : Bytes) (y : S48) (hy : itS w = some y) : ∃ x, Ev (fun k => itemTextF k y.f0 y.f1 y.f2 (u : Int) (fl : Int) (bs t)) x ∧ (match textOf u fl t w with | none => x.2 = false | some r => x = (bs r, true)) := by
  have d1 := digits_len u (by omega)
  have d2 := digits_len t.length (by omega)
  have d3 := flagT_len fl
  have add : ∀ a b : Bytes, (bs a ++ (⟨#[32]⟩ : ByteArray)) ++ bs b = bs (a ++ [32] ++ b) := fun a b => by rw [show bs a ++ (⟨#[32]⟩ : ByteArray) = bs (a ++ [32]) from bs_append a [32], bs_append]
  unfold itS at hy
  unfold itemTextF textOf
  by_cases h1 : w = wFlags
  · rw [if_pos (Or.inl h1)] at hy
    cases hy
    subst h1
    refine ⟨(bs (wFlags ++ [32] ++ flagT fl), true), ev_pos (by rw [bs_size]; decide) (ev_pos (bs_toList wFlags) (Ev.bind (flagsI_ev fl hfl) (ev_pos (by rw [bs_size]; omega) (ev_some (by rw [add]))))), by rw [if_pos rfl]⟩
  · by_cases h2 : w = wUid
    · rw [if_pos (Or.inr (Or.inl h2))] at hy
      cases hy
      subst h2
      refine ⟨(bs (wUid ++ [32] ++ Lib.decDigits u), true), ev_pos (by rw [bs_size]; decide) (ev_neg (by rw [bs_toList]; decide) (ev_pos (bs_toList wUid) (ev_bindc (itoaF u (by omega)) (ev_pos (by rw [bs_size]; omega) (ev_some (by rw [add])))))), by rw [if_neg h1, if_pos rfl]⟩
    · by_cases h3 : w = wSize
      · rw [if_pos (Or.inr (Or.inr h3))] at hy
        cases hy
        subst h3
        refine ⟨(bs (wSize ++ [32] ++ Lib.decDigits t.length), true), ev_pos (by rw [bs_size]; decide) (ev_neg (by rw [bs_toList]; decide) (ev_neg (by rw [bs_toList]; decide) (ev_neg (by simp) ?_))), by rw [if_neg h1, if_neg h2, if_pos rfl]⟩
        rw [bs_size t]
        exact ev_bindc (itoaF t.length (by omega)) (ev_pos (by rw [bs_size]; omega) (ev_some (by rw [add])))
      · rw [if_neg (by simp [h1, h2, h3])] at hy
        rw [if_neg h1, if_neg h2, if_neg h3]
        cases hb : bodyOf w with
        | none => rw [hb] at hy; cases hy
        | some q =>
          rw [hb] at hy
          cases hy
          have hp := (bodyOf_some hb).2
          have hpl : q.1.length ≤ 100 := by rcases hp with h | h | h <;> (rw [h]; decide)
          have hn5 : (nmB q.1).length = q.1.length + 6 := by unfold nmB; first | (simp; done) | (simp; omega)
          have hP := partI_ev t q.1 (by omega) hp
          have n1 : nmB q.1 ≠ wFlags := by unfold nmB; rcases hp with h | h | h <;> (rw [h]; decide)
          have n2 : nmB q.1 ≠ wUid := by unfold nmB; rcases hp with h | h | h <;> (rw [h]; decide)
          have go : ∀ x, Ev (fun k => (impl_MailPart.f k (bs t) (bs q.1)).bind fun z => if z.1.size ≤ 1099511627776 then ((strconv_Itoa.f (z.1.size : Int)).bind fun x => if x.size ≤ 1099511627776 then some (((((bs (nmB q.1) ++ (⟨#[32, 123]⟩ : ByteArray)) ++ x) ++ (⟨#[125]⟩ : ByteArray)) ++ (⟨#[13, 10]⟩ : ByteArray)) ++ z.1, (z.2 == 0)) else none) else none) x → Ev (fun k => if (bs (nmB q.1)).size ≤ 1000 then (if (bs (nmB q.1)).toList = ([70, 76, 65, 71, 83] : List UInt8) then ((impl_flagsText.f k (fl : Int)).bind fun x => if x.size ≤ 1099511627776 then some ((bs (nmB q.1) ++ (⟨#[32]⟩ : ByteArray)) ++ x, true) else none) else if (bs (nmB q.1)).toList = ([85, 73, 68] : List UInt8) then ((strconv_Itoa.f (u : Int)).bind fun x => if x.size ≤ 1099511627776 then some ((bs (nmB q.1) ++ (⟨#[32]⟩ : ByteArray)) ++ x, true) else none) else if true = true then ((impl_MailPart.f k (bs t) (bs q.1)).bind fun z => if z.1.size ≤ 1099511627776 then ((strconv_Itoa.f (z.1.size : Int)).bind fun x => if x.size ≤ 1099511627776 then some (((((bs (nmB q.1) ++ (⟨#[32, 123]⟩ : ByteArray)) ++ x) ++ (⟨#[125]⟩ : ByteArray)) ++ (⟨#[13, 10]⟩ : ByteArray)) ++ z.1, (z.2 == 0)) else none) else none) else ((strconv_Itoa.f ((bs t).size : Int)).bind fun x => if x.size ≤ 1099511627776 then some ((bs (nmB q.1) ++ (⟨#[32]⟩ : ByteArray)) ++ x, true) else none)) else none) x := fun x H => ev_pos (by rw [bs_size]; omega) (ev_neg (by rw [bs_toList]; exact n1) (ev_neg (by rw [bs_toList]; exact n2) (ev_pos rfl H)))
          cases hz : wh t with
          | none =>
            rw [hz] at hP
            have d0 := digits_len 0 (by omega)
            exact ⟨_, go _ (Ev.bind hP (ev_pos (by show (⟨#[]⟩ : ByteArray).size ≤ _; decide) (ev_bindc (a := bs (Lib.decDigits 0)) (itoaF 0 (by omega)) (ev_pos (by rw [bs_size]; omega) (ev_some rfl))))), rfl⟩
          | some z =>
            rw [hz] at hP
            have hl := partOf_len t z.2 q.1 (wh_len hz)
            have d4 := digits_len (partOf t z.2 q.1).length (by omega)
            refine ⟨(bs (bodyT q.1 (partOf t z.2 q.1)), true), go _ (Ev.bind hP (ev_pos (by rw [bs_size]; omega) ?_)), rfl⟩
            rw [bs_size (partOf t z.2 q.1)]
            refine ev_bindc (itoaF _ (by omega)) (ev_pos (by rw [bs_size]; omega) (ev_some ?_))
            have e1 : bs (nmB q.1) ++ (⟨#[32, 123]⟩ : ByteArray) = bs (nmB q.1 ++ [32, 123]) := bs_append _ [32, 123]
            have e2 : ∀ a : Bytes, bs a ++ (⟨#[125]⟩ : ByteArray) = bs (a ++ [125]) := fun a => bs_append a [125]
            have e3 : ∀ a : Bytes, bs a ++ (⟨#[13, 10]⟩ : ByteArray) = bs (a ++ [13, 10]) := fun a => bs_append a [13, 10]
            rw [e1, bs_append, e2, e3, bs_append]
            unfold bodyT nmB
            simp
end Go.Proofs.YtcmnndnigjkldaaGreatDoor.PFnExactFetchText
end
section
set_option linter.unusedVariables false
set_option linter.unusedSimpArgs false
namespace Go.Proofs.YtcmnndnigjkldaaGreatDoor.PFnExactFetchText
open Go.RowKit Go.Proofs.YtcmnndnigjkldaaGreatDoorW.PrintWords
/-! A fetch, the reference's way. -/
def seenW (w : Bytes) : Bool := match bodyOf w with | some q => !q.2 | none => false
def finB (seq : Nat) (P : List Bytes) : Bytes := [42, 32] ++ Lib.decDigits seq ++ [32, 70, 69, 84, 67, 72, 32, 40] ++ jn P ++ [41, 13, 10]
def runW (u fl : Nat) (t : Bytes) : List Bytes → List Bytes → Bool → Bool → Option (List Bytes × Bool × Bool)
  | [], P, s, d => some (P, s, d)
  | w :: r, P, s, d => (textOf u fl t w).bind fun x => runW u fl t r (P ++ [x]) (s || seenW w) (d || (w == wUid))
def uidT (u : Nat) : Bytes := wUid ++ [32] ++ Lib.decDigits u
def finP (wu d : Bool) (u : Nat) (P : List Bytes) : List Bytes := if (wu && !d) = true then uidT u :: P else P
abbrev NOF : ByteArray × Bool × Bool := ((⟨#[]⟩ : ByteArray), false, false)
theorem finS_ev (seq u fl : Nat) (hq : seq ≤ 4294967295) (hu : u ≤ 1000) (t : Bytes) (P : List Bytes) (hP : P.length ≤ 30) (hc : ∀ x ∈ P, x.length ≤ 5000) (s wu d : Bool) : Ev (fun k => spec_l13Fetch.j4 k (seq : Int) (P.map bs) s (wu && !d) (u : Int) (fl : Int) (bs t)) (bs (finB seq (finP wu d u P)), s, true) := by
  have d1 := digits_len u (by omega)
  have d2 := digits_len seq (by omega)
  have tail : ∀ Q : List Bytes, Q.length ≤ 31 → (∀ x ∈ Q, x.length ≤ 5000) → Ev (fun k => (spec_l00Digits.f k (seq : Int)).bind fun t198 => (if 2 + t198.size ≤ 9223372036854775807 then (if ((⟨#[42, 32]⟩ : ByteArray) ++ t198).size + 8 ≤ 9223372036854775807 then ((spec_l00Join.f k (Q.map bs) (⟨#[32]⟩ : ByteArray)).bind fun t199 => (if (((⟨#[42, 32]⟩ : ByteArray) ++ t198) ++ (⟨#[32, 70, 69, 84, 67, 72, 32, 40]⟩ : ByteArray)).size + t199.size ≤ 9223372036854775807 then (if ((((⟨#[42, 32]⟩ : ByteArray) ++ t198) ++ (⟨#[32, 70, 69, 84, 67, 72, 32, 40]⟩ : ByteArray)) ++ t199).size + 3 ≤ 9223372036854775807 then (some (((((⟨#[42, 32]⟩ : ByteArray) ++ t198) ++ (⟨#[32, 70, 69, 84, 67, 72, 32, 40]⟩ : ByteArray)) ++ t199) ++ (⟨#[41, 13, 10]⟩ : ByteArray), s, true)) else (none)) else (none))) else (none)) else (none))) (bs (finB seq Q), s, true) := by
    intro Q hQ hc
    have hj := jn_len 5000 Q hc
    have hj2 : Q.length * 5001 ≤ 31 * 5001 := Nat.mul_le_mul_right _ hQ
    have e1 : (⟨#[42, 32]⟩ : ByteArray) ++ bs (Lib.decDigits seq) = bs ([42, 32] ++ Lib.decDigits seq) := bs_append [42, 32] _
    have e2 : bs ([42, 32] ++ Lib.decDigits seq) ++ (⟨#[32, 70, 69, 84, 67, 72, 32, 40]⟩ : ByteArray) = bs ([42, 32] ++ Lib.decDigits seq ++ [32, 70, 69, 84, 67, 72, 32, 40]) := bs_append _ [32, 70, 69, 84, 67, 72, 32, 40]
    have e3 : bs ([42, 32] ++ Lib.decDigits seq ++ [32, 70, 69, 84, 67, 72, 32, 40] ++ jn Q) ++ (⟨#[41, 13, 10]⟩ : ByteArray) = bs (finB seq Q) := bs_append _ [41, 13, 10]
    refine Ev.bind (digits_ev seq (by omega)) (ev_pos (by rw [bs_size]; omega) ?_)
    rw [e1, e2]
    refine ev_pos (by rw [bs_size]; simp; omega) (Ev.bind (joinS_ev Q (by omega) 5000 hc (by omega)) ?_)
    rw [bs_append, e3]
    exact ev_pos (by rw [bs_size, bs_size]; simp; omega) (ev_pos (by rw [bs_size]; simp; omega) (ev_some rfl))
  refine Ev.step (fun _ => spec_l13Fetch.j4.eq_2 ..) ?_
  unfold finP
  cases hwd : (wu && !d) with
  | true =>
    rw [if_pos rfl]
    have e0 : (⟨#[85, 73, 68, 32]⟩ : ByteArray) ++ bs (Lib.decDigits u) = bs (uidT u) := bs_append [85, 73, 68, 32] _
    refine ev_pos rfl (Ev.bind (digits_ev u (by omega)) (ev_pos (by rw [bs_size]; omega) (ev_bindc rfl (ev_pos (by simp; omega) ?_))))
    rw [e0]
    have := tail (uidT u :: P) (by simp; omega) (fun x hx => by
      rcases List.mem_cons.mp hx with rfl | hx
      · unfold uidT; simp; omega
      · exact hc x hx)
    exact this
  | false =>
    rw [if_neg (by simp)]
    exact ev_neg (by simp) (tail P (by omega) hc)
theorem fetchS_l0 (seq u fl : Nat) (hq : seq ≤ 4294967295) (hu : u ≤ 1000) (hfl : fl < 32) (t : Bytes) (ht : t.length ≤ 4000) (xs : List Bytes) (hxs : xs.length ≤ 30) (hx : ∀ x ∈ xs, x.length ≤ 1048576) (wu : Bool) : ∀ (m i : Nat) (P : List Bytes) (s d : Bool), i + m = xs.length → P.length = i → (∀ x ∈ P, x.length ≤ 5000) →
    Ev (fun k => spec_l13Fetch.l0 k (seq : Int) (xs.map bs) wu (P.map bs) s d i (u : Int) (fl : Int) (bs t)) (match runW u fl t ((xs.drop i).map upB) P s d with | none => NOF | some q => (bs (finB seq (finP wu q.2.2 u q.1)), q.2.1, true)) := by
  intro m
  induction m with
  | zero =>
    intro i P s d hi hPl hc
    rw [List.drop_of_length_le (by omega)]
    refine Ev.step (fun _ => spec_l13Fetch.l0.eq_2 ..) (ev_neg (by rw [List.length_map]; omega) ?_)
    show Ev _ (bs (finB seq (finP wu d u P)), s, true)
    have hf := finS_ev seq u fl hq hu t P (by omega) hc s wu d
    cases wu with
    | true => exact ev_pos rfl hf
    | false => exact ev_neg (by simp) hf
  | succ m ih =>
    intro i P s d hi hPl hc
    have hlt : i < xs.length := by omega
    have hxl := hx xs[i] (List.getElem_mem hlt)
    have hul : (upB xs[i]).length = (xs[i]).length := by unfold upB; rw [List.length_map]
    have d1 := digits_len u (by omega)
    have d2 := digits_len t.length (by omega)
    have d3 := flagT_len fl
    -- one item more
    have more : ∀ (T : Bytes) (s' d' : Bool), T.length ≤ 5000 → Ev (fun k => spec_l13Fetch.l0 k (seq : Int) (xs.map bs) wu (P.map bs ++ [bs T]) s' d' ((i + 1 : Nat) : Int) (u : Int) (fl : Int) (bs t)) (match runW u fl t ((xs.drop (i + 1)).map upB) (P ++ [T]) s' d' with | none => NOF | some q => (bs (finB seq (finP wu q.2.2 u q.1)), q.2.1, true)) := by
      intro T s' d' hT
      have := ih (i + 1) (P ++ [T]) s' d' (by omega) (by simp; omega) (fun x hx => by
        rcases List.mem_append.mp hx with hx | hx
        · exact hc x hx
        · obtain rfl := List.mem_singleton.mp hx; exact hT)
      rwa [List.map_append] at this
    refine Ev.step (fun _ => spec_l13Fetch.l0.eq_2 ..) (ev_pos (by rw [List.length_map]; omega) (ev_pos (by omega) ?_))
    rw [rdB xs i hlt, List.drop_eq_getElem_cons hlt, List.map_cons, runW, w64n (by omega)]
    refine ev_bindc (upperS xs[i] hxl) ?_
    generalize upB xs[i] = w at *
    have b1 : bodyOf wFlags = none := by decide
    have b2 : bodyOf wUid = none := by decide
    have b3 : bodyOf wSize = none := by decide
    by_cases h1 : w = wFlags
    · subst h1
      have hT : textOf u fl t wFlags = some (wFlags ++ [32] ++ flagT fl) := by unfold textOf; rw [if_pos rfl]
      have e : (⟨#[70, 76, 65, 71, 83, 32]⟩ : ByteArray) ++ bs (flagT fl) = bs (wFlags ++ [32] ++ flagT fl) := bs_append [70, 76, 65, 71, 83, 32] _
      refine ev_pos (bs_toList wFlags) (Ev.bind (flagsS_ev fl hfl) (ev_pos (by rw [bs_size]; omega) (ev_pos (by rw [List.length_map]; omega) ?_)))
      rw [e, hT, Option.bind_some]
      have hs : (s || seenW wFlags) = s := by unfold seenW; rw [b1]; simp
      have hd : (d || (wFlags == wUid)) = d := by simp
      rw [hs, hd]
      exact more _ s d (by simp; omega)
    · refine ev_neg (fun x => h1 (by rw [bs_toList] at x; exact x)) ?_
      by_cases h2 : w = wUid
      · subst h2
        have hT : textOf u fl t wUid = some (wUid ++ [32] ++ Lib.decDigits u) := by unfold textOf; rw [if_neg h1, if_pos rfl]
        have e : (⟨#[85, 73, 68, 32]⟩ : ByteArray) ++ bs (Lib.decDigits u) = bs (wUid ++ [32] ++ Lib.decDigits u) := bs_append [85, 73, 68, 32] _
        refine ev_pos (bs_toList wUid) (Ev.bind (digits_ev u (by omega)) (ev_pos (by rw [bs_size]; omega) (ev_pos (by rw [List.length_map]; omega) ?_)))
        rw [e, hT, Option.bind_some]
        have hs : (s || seenW wUid) = s := by unfold seenW; rw [b2]; simp
        have hd : (d || (wUid == wUid)) = true := by simp
        rw [hs, hd]
        exact more _ s true (by simp; omega)
      · refine ev_neg (fun x => h2 (by rw [bs_toList] at x; exact x)) ?_
        have hd : (d || (w == wUid)) = d := by rw [show (w == wUid) = false from by simpa using h2]; simp
        rw [hd]
        by_cases h3 : w = wSize
        · subst h3
          have hT : textOf u fl t wSize = some (wSize ++ [32] ++ Lib.decDigits t.length) := by unfold textOf; rw [if_neg h1, if_neg h2, if_pos rfl]
          have e : (⟨#[82, 70, 67, 56, 50, 50, 46, 83, 73, 90, 69, 32]⟩ : ByteArray) ++ bs (Lib.decDigits t.length) = bs (wSize ++ [32] ++ Lib.decDigits t.length) := bs_append [82, 70, 67, 56, 50, 50, 46, 83, 73, 90, 69, 32] _
          rw [bs_size t]
          refine ev_pos (bs_toList wSize) (Ev.bind (digits_ev t.length (by omega)) (ev_pos (by rw [bs_size]; omega) (ev_pos (by rw [List.length_map]; omega) ?_)))
          rw [e, hT, Option.bind_some]
          have hs : (s || seenW wSize) = s := by unfold seenW; rw [b3]; simp
          rw [hs]
          exact more _ s d (by simp; omega)
        · refine ev_neg (fun x => h3 (by rw [bs_toList] at x; exact x)) ?_
          have hT : textOf u fl t w = (bodyOf w).bind fun q => (wh t).map fun z => bodyT q.1 (partOf t z.2 q.1) := by unfold textOf; rw [if_neg h1, if_neg h2, if_neg h3]
          rw [hT]
          -- the word's head
          obtain ⟨H, hH⟩ : ∃ pk : Bool, pk = (decide (10 < w.length) && (w.take 10 == hPeek ++ [91])) := ⟨_, rfl⟩
          have hHl : (hW H ++ [91]).length ≤ 10 := by cases H <;> decide
          suffices hJ : Ev (fun k => spec_l13Fetch.j2 k (seq : Int) (xs.map bs) wu (P.map bs) s d i (bs w) (bs (hW H ++ [91])) (u : Int) (fl : Int) (bs t)) (match ((bodyOf w).bind fun q => (wh t).map fun z => bodyT q.1 (partOf t z.2 q.1)).bind fun x => runW u fl t ((xs.drop (i + 1)).map upB) (P ++ [x]) (s || seenW w) d with | none => NOF | some q => (bs (finB seq (finP wu q.2.2 u q.1)), q.2.1, true)) by
            have j1t : ∀ x, Ev (fun k => spec_l13Fetch.j2 k (seq : Int) (xs.map bs) wu (P.map bs) s d i (bs w) (bs (hPeek ++ [91])) (u : Int) (fl : Int) (bs t)) x → Ev (fun k => spec_l13Fetch.j1 k (seq : Int) (xs.map bs) wu (P.map bs) s d i (bs w) (⟨#[66, 79, 68, 89, 91]⟩ : ByteArray) true (u : Int) (fl : Int) (bs t)) x := fun x h => Ev.step (fun _ => spec_l13Fetch.j1.eq_2 ..) (ev_pos rfl h)
            have j1f : ∀ x, Ev (fun k => spec_l13Fetch.j2 k (seq : Int) (xs.map bs) wu (P.map bs) s d i (bs w) (bs (hBody ++ [91])) (u : Int) (fl : Int) (bs t)) x → Ev (fun k => spec_l13Fetch.j1 k (seq : Int) (xs.map bs) wu (P.map bs) s d i (bs w) (⟨#[66, 79, 68, 89, 91]⟩ : ByteArray) false (u : Int) (fl : Int) (bs t)) x := fun x h => Ev.step (fun _ => spec_l13Fetch.j1.eq_2 ..) (ev_neg (by simp) h)
            rw [bs_size]
            by_cases h4 : 10 < w.length
            · refine ev_pos (by omega) (ev_pos (by omega) (ev_pos (by omega) ?_))
              have e : (((bs w).extract 0 10).toList == ([66, 79, 68, 89, 46, 80, 69, 69, 75, 91] : List UInt8)) = H := by
                rw [hH, decide_eq_true h4, Bool.true_and, bs_extract, bs_toList, List.drop_zero]; rfl
              rw [e]
              cases H with
              | true => exact j1t _ hJ
              | false => exact j1f _ hJ
            · have e : H = false := by rw [hH, decide_eq_false h4]; rfl
              subst e
              exact ev_neg (by omega) (j1f _ hJ)
          have bad : Ev (fun k => spec_l13Fetch.j3 k (seq : Int) (xs.map bs) wu (P.map bs) s d i (bs w) (bs (hW H ++ [91])) true (u : Int) (fl : Int) (bs t)) NOF := Ev.step (fun _ => spec_l13Fetch.j3.eq_2 ..) (ev_pos rfl (ev_some rfl))
          by_cases hA : ∃ p, w = (hW H ++ [91]) ++ (p ++ [93])
          · obtain ⟨p, hp⟩ := hA
            have hwl : w.length = (hW H ++ [91]).length + p.length + 1 := by rw [hp]; simp; omega
            have hlast : w[w.length - 1]'(by omega) = 93 := by
              have : w[w.length - 1]? = some 93 := by
                have hk : w.length - 1 - (hW H ++ [91]).length = p.length := by omega
                have hge : (hW H ++ [91]).length ≤ w.length - 1 := by omega
                generalize w.length - 1 = n at hk hge ⊢
                rw [hp, List.getElem?_append_right hge, hk, List.getElem?_append_right (Nat.le_refl _)]; simp
              rw [List.getElem?_eq_getElem (by omega)] at this; exact Option.some.inj this
            have e1 : wrap64 ((w.length : Int) - 1) = ((w.length - 1 : Nat) : Int) := by rw [w64 (by omega) (by omega)]; omega
            have e2 : ((bs w).extract 0 (((hW H ++ [91]).length : Int)).toNat).toList = (bs (hW H ++ [91])).toList := by
              rw [Int.toNat_natCast, bs_extract, bs_toList, bs_toList, List.drop_zero, hp, List.take_left]
            refine Ev.step (fun _ => spec_l13Fetch.j2.eq_2 ..) ?_
            rw [bs_size, bs_size, e1]
            refine ev_neg (by omega) (ev_pos (by omega) (ev_pos (by omega) (ev_pos e2 (ev_pos (by omega) (ev_pos (by omega) ?_)))))
            rw [bt_bs w (w.length - 1) (by omega), hlast, show ((((93 : UInt8).toNat : Int)) != 93) = false from rfl]
            -- the part's name
            have e3 : (bs w).extract (((hW H ++ [91]).length : Int)).toNat ((w.length - 1 : Nat) : Int).toNat = bs p := by
              rw [Int.toNat_natCast, Int.toNat_natCast, bs_extract]
              congr 1
              have hk : w.length - 1 - (hW H ++ [91]).length = p.length := by omega
              generalize w.length - 1 = n at hk ⊢
              rw [List.drop_take, hp, List.drop_left, hk, List.take_left]
            refine Ev.step (fun _ => spec_l13Fetch.j3.eq_2 ..) (ev_neg (by simp) ?_)
            rw [bs_size w, bs_size (hW H ++ [91]), e1, e3]
            refine ev_pos (by omega) (ev_pos (by omega) (ev_pos (by omega) ?_))
            have hpv := partS_ev t p (by omega)
            cases hz : wh t with
            | none =>
              rw [hz] at hpv
              refine Ev.bind hpv (ev_neg (by simp) (ev_some ?_))
              cases bodyOf w <;> rfl
            | some z =>
              by_cases hpp : p = [] ∨ p = wHead ∨ p = wText
              · have hb : bodyOf w = some (p, H) := by
                  cases hbo : bodyOf w with
                  | none => exact absurd (show bodyW (p, H) = w by rw [hp]; unfold bodyW; simp) (bodyOf_none hbo p H hpp)
                  | some q =>
                    obtain ⟨h6, h7⟩ := bodyOf_some hbo
                    obtain ⟨q1, q2⟩ := q
                    congr 1
                    have h8 : hW q2 ++ ([91] ++ (q1 ++ [93])) = hW H ++ ([91] ++ (p ++ [93])) := by rw [show hW q2 ++ ([91] ++ (q1 ++ [93])) = bodyW (q1, q2) from rfl, h6, hp]; simp
                    have h9 : q2 = H := by
                      cases q2 <;> cases H
                      · rfl
                      · have := congrArg (fun l => l[4]?) h8; simp [hW] at this
                      · have := congrArg (fun l => l[4]?) h8; simp [hW] at this
                      · rfl
                    subst h9
                    have h10 := List.append_cancel_left h8
                    have h11 := List.append_cancel_left h10
                    have h12 := List.append_cancel_right h11
                    rw [h12]
                rw [hb, Option.bind_some, Option.map_some, Option.bind_some]
                rw [hz] at hpv
                dsimp only at hpv
                rw [if_pos hpp] at hpv
                refine Ev.bind hpv ?_
                have hpl : p.length ≤ 100 := by rcases hpp with h | h | h <;> (rw [h]; decide)
                have hl := partOf_len t z.2 p (wh_len hz)
                have d4 := digits_len (partOf t z.2 p).length (by omega)
                have hse : seenW w = !H := by unfold seenW; rw [hb]
                have hTl : (bodyT p (partOf t z.2 p)).length ≤ 5000 := by unfold bodyT; simp; omega
                have q1 : (⟨#[66, 79, 68, 89, 91]⟩ : ByteArray) ++ bs p = bs ([66, 79, 68, 89, 91] ++ p) := bs_append [66, 79, 68, 89, 91] p
                have q2 : bs ([66, 79, 68, 89, 91] ++ p) ++ (⟨#[93, 32, 123]⟩ : ByteArray) = bs ([66, 79, 68, 89, 91] ++ p ++ [93, 32, 123]) := bs_append _ [93, 32, 123]
                have q3 : bs ([66, 79, 68, 89, 91] ++ p ++ [93, 32, 123] ++ Lib.decDigits (partOf t z.2 p).length) ++ (⟨#[125, 13, 10]⟩ : ByteArray) = bs ([66, 79, 68, 89, 91] ++ p ++ [93, 32, 123] ++ Lib.decDigits (partOf t z.2 p).length ++ [125, 13, 10]) := bs_append _ [125, 13, 10]
                have q4 : bs ([66, 79, 68, 89, 91] ++ p ++ [93, 32, 123] ++ Lib.decDigits (partOf t z.2 p).length ++ [125, 13, 10]) ++ bs (partOf t z.2 p) = bs (bodyT p (partOf t z.2 p)) := bs_append _ _
                dsimp only
                rw [q1, q2, bs_size (partOf t z.2 p), w64n (by omega)]
                refine ev_pos rfl ?_
                have fin : ∀ s', (s' = (s || seenW w)) → Ev (fun k => if 5 + (bs p).size ≤ 9223372036854775807 then (if (bs ([66, 79, 68, 89, 91] ++ p)).size + 3 ≤ 9223372036854775807 then ((spec_l00Digits.f k (((partOf t z.2 p).length : Nat) : Int)).bind fun t185 => (if (bs ([66, 79, 68, 89, 91] ++ p ++ [93, 32, 123])).size + t185.size ≤ 9223372036854775807 then (if (bs ([66, 79, 68, 89, 91] ++ p ++ [93, 32, 123]) ++ t185).size + 3 ≤ 9223372036854775807 then (if ((bs ([66, 79, 68, 89, 91] ++ p ++ [93, 32, 123]) ++ t185) ++ (⟨#[125, 13, 10]⟩ : ByteArray)).size + (partOf t z.2 p).length ≤ 9223372036854775807 then (if (P.map bs).length < 8796093022208 then (spec_l13Fetch.l0 k (seq : Int) (xs.map bs) wu (P.map bs ++ [((bs ([66, 79, 68, 89, 91] ++ p ++ [93, 32, 123]) ++ t185) ++ (⟨#[125, 13, 10]⟩ : ByteArray)) ++ bs (partOf t z.2 p)]) s' d ((i + 1 : Nat) : Int) (u : Int) (fl : Int) (bs t)) else (none)) else (none)) else (none)) else (none))) else (none)) else (none)) (match runW u fl t ((xs.drop (i + 1)).map upB) (P ++ [bodyT p (partOf t z.2 p)]) (s || seenW w) d with | none => NOF | some q => (bs (finB seq (finP wu q.2.2 u q.1)), q.2.1, true)) := by
                  intro s' hs'
                  subst hs'
                  refine ev_pos (by rw [bs_size]; omega) (ev_pos (by rw [bs_size]; simp; omega) (Ev.bind (digits_ev _ (by omega)) (ev_pos (by rw [bs_size, bs_size]; simp; omega) ?_)))
                  rw [bs_append, q3, q4]
                  exact ev_pos (by rw [bs_size]; simp; omega) (ev_pos (by rw [bs_size]; simp; omega) (ev_pos (by rw [List.length_map]; omega) (more _ _ d hTl)))
                cases s with
                | true => exact ev_pos rfl (fin true (by simp))
                | false =>
                  refine ev_neg (by simp) (fin _ ?_)
                  rw [hse, Bool.false_or, bs_toList]
                  cases H <;> decide
              · have hb : bodyOf w = none := by
                  cases hbo : bodyOf w with
                  | none => rfl
                  | some q =>
                    exfalso
                    obtain ⟨h6, h7⟩ := bodyOf_some hbo
                    obtain ⟨q1, q2⟩ := q
                    have h8 : hW q2 ++ ([91] ++ (q1 ++ [93])) = hW H ++ ([91] ++ (p ++ [93])) := by rw [show hW q2 ++ ([91] ++ (q1 ++ [93])) = bodyW (q1, q2) from rfl, h6, hp]; simp
                    have h9 : q2 = H := by
                      cases q2 <;> cases H
                      · rfl
                      · have := congrArg (fun l => l[4]?) h8; simp [hW] at this
                      · have := congrArg (fun l => l[4]?) h8; simp [hW] at this
                      · rfl
                    subst h9
                    have h10 := List.append_cancel_left h8
                    have h11 := List.append_cancel_left h10
                    have h12 := List.append_cancel_right h11
                    subst h12
                    exact hpp h7
                rw [hb]
                rw [hz] at hpv
                dsimp only at hpv
                rw [if_neg hpp] at hpv
                exact Ev.bind hpv (ev_neg (by simp) (ev_some rfl))
          · have hb : bodyOf w = none := by
              cases hbo : bodyOf w with
              | none => rfl
              | some q =>
                exfalso
                obtain ⟨h6, h7⟩ := bodyOf_some hbo
                obtain ⟨q1, q2⟩ := q
                refine hA ⟨q1, ?_⟩
                have hq : H = q2 := by
                  rw [hH, ← h6]
                  dsimp only at h7
                  rcases h7 with rfl | rfl | rfl <;> cases q2 <;> decide
                rw [hq, ← h6]; unfold bodyW; simp
            rw [hb]
            refine Ev.step (fun _ => spec_l13Fetch.j2.eq_2 ..) ?_
            rw [bs_size, bs_size]
            by_cases h5 : w.length ≤ (hW H ++ [91]).length
            · exact ev_pos (by omega) bad
            · refine ev_neg (by omega) (ev_pos (by omega) (ev_pos (by omega) ?_))
              have e1 : wrap64 ((w.length : Int) - 1) = ((w.length - 1 : Nat) : Int) := by rw [w64 (by omega) (by omega)]; omega
              by_cases h6 : w.take (hW H ++ [91]).length = hW H ++ [91]
              · refine ev_pos (by rw [Int.toNat_natCast, bs_extract, bs_toList, bs_toList, List.drop_zero, h6]) ?_
                rw [e1]
                refine ev_pos (by omega) (ev_pos (by omega) ?_)
                rw [bt_bs w (w.length - 1) (by omega)]
                have h7 : (w[w.length - 1]'(by omega)).toNat ≠ 93 := by
                  intro h7
                  apply hA
                  refine ⟨(w.drop (hW H ++ [91]).length).take (w.length - 1 - (hW H ++ [91]).length), ?_⟩
                  have h8 : w = w.take (hW H ++ [91]).length ++ w.drop (hW H ++ [91]).length := (List.take_append_drop _ _).symm
                  have h9 : w.drop (hW H ++ [91]).length = (w.drop (hW H ++ [91]).length).take (w.length - 1 - (hW H ++ [91]).length) ++ [93] := by
                    have h10 := List.take_append_drop (w.length - 1 - (hW H ++ [91]).length) (w.drop (hW H ++ [91]).length)
                    have h11 : (w.drop (hW H ++ [91]).length).drop (w.length - 1 - (hW H ++ [91]).length) = [93] := by
                      have hk : (hW H ++ [91]).length + (w.length - 1 - (hW H ++ [91]).length) = w.length - 1 := by omega
                      rw [List.drop_drop, hk, List.drop_eq_getElem_cons (by omega), List.drop_of_length_le (by omega)]
                      congr 1
                      rw [← UInt8.toNat_inj]; exact h7
                    rw [h11] at h10; exact h10.symm
                  rw [h6] at h8
                  rw [← h9]; exact h8
                rw [show (((w[w.length - 1]'(by omega)).toNat : Int) != 93) = true from by simp; omega]
                exact bad
              · exact ev_neg (by rw [Int.toNat_natCast, bs_extract, bs_toList, bs_toList, List.drop_zero]; exact h6) bad
end Go.Proofs.YtcmnndnigjkldaaGreatDoor.PFnExactFetchText
end
section
set_option linter.unusedVariables false
set_option linter.unusedSimpArgs false
namespace Go.Proofs.YtcmnndnigjkldaaGreatDoor.PFnExactFetchText
open Go.RowKit Go.Proofs.YtcmnndnigjkldaaGreatDoorW.PrintWords
/-! A fetch, the implementation's way; and both together. -/
def itemsW : List Bytes → Option (List S48)
  | [] => some []
  | w :: r => (itS w).bind fun y => (itemsW r).map fun Z => y :: Z
def texts (u fl : Nat) (t : Bytes) : List Bytes → Option (List Bytes)
  | [] => some []
  | w :: r => (textOf u fl t w).bind fun x => (texts u fl t r).map fun Z => x :: Z
theorem runW_eq (u fl : Nat) (t : Bytes) : ∀ (ws P : List Bytes) (s d : Bool), runW u fl t ws P s d = (texts u fl t ws).map fun Q => (P ++ Q, s || ws.any seenW, d || ws.any fun w => w == wUid) := by
  intro ws
  induction ws with
  | nil => intro P s d; simp [runW, texts]
  | cons w r ih =>
    intro P s d
    rw [runW, texts]
    cases textOf u fl t w with
    | none => rfl
    | some x =>
      rw [Option.bind_some, Option.bind_some, ih]
      cases texts u fl t r with
      | none => rfl
      | some Q => simp [Bool.or_assoc]
theorem itS_none {w : Bytes} (u fl : Nat) (t : Bytes) (h : itS w = none) : textOf u fl t w = none := by
  unfold itS at h
  unfold textOf
  by_cases h1 : w = wFlags
  · rw [if_pos (Or.inl h1)] at h; cases h
  · by_cases h2 : w = wUid
    · rw [if_pos (Or.inr (Or.inl h2))] at h; cases h
    · by_cases h3 : w = wSize
      · rw [if_pos (Or.inr (Or.inr h3))] at h; cases h
      · rw [if_neg (by simp [h1, h2, h3])] at h
        rw [if_neg h1, if_neg h2, if_neg h3]
        cases hb : bodyOf w with
        | none => rfl
        | some q => rw [hb] at h; cases h
theorem itS_facts {w : Bytes} {y : S48} (h : itS w = some y) : seesB y = seenW w ∧ uidB y = (w == wUid) := by
  have b1 : bodyOf wFlags = none := by decide
  have b2 : bodyOf wUid = none := by decide
  have b3 : bodyOf wSize = none := by decide
  unfold itS at h
  by_cases hk : w = wFlags ∨ w = wUid ∨ w = wSize
  · rw [if_pos hk] at h
    cases h
    unfold seesB seenW uidB
    rcases hk with rfl | rfl | rfl
    · rw [b1]; exact ⟨rfl, by rw [bs_toList]⟩
    · rw [b2]; exact ⟨rfl, by rw [bs_toList]⟩
    · rw [b3]; exact ⟨rfl, by rw [bs_toList]⟩
  · rw [if_neg hk] at h
    cases hb : bodyOf w with
    | none => rw [hb] at h; cases h
    | some q =>
      rw [hb] at h
      cases h
      unfold seesB seenW uidB
      rw [hb]
      refine ⟨by simp, ?_⟩
      rw [bs_toList]
      have n2 : nmB q.1 ≠ wUid := by have hp := (bodyOf_some hb).2; unfold nmB; rcases hp with h | h | h <;> (rw [h]; decide)
      have n3 : w ≠ wUid := fun x => hk (Or.inr (Or.inl x))
      rw [show (nmB q.1 == wUid) = false from by simpa using n2, show (w == wUid) = false from by simpa using n3]
theorem itemsW_none (u fl : Nat) (t : Bytes) : ∀ ws : List Bytes, itemsW ws = none → texts u fl t ws = none := by
  intro ws
  induction ws with
  | nil => intro h; cases h
  | cons w r ih =>
    intro h
    rw [itemsW] at h
    rw [texts]
    cases hi : itS w with
    | none => rw [itS_none u fl t hi]; rfl
    | some y =>
      rw [hi, Option.bind_some] at h
      cases hr : itemsW r with
      | none => rw [ih hr]; cases textOf u fl t w <;> rfl
      | some Z => rw [hr] at h; cases h
/-- The items answer to the words. -/
def Items (L : List S48) (ws : List Bytes) : Prop := L.length = ws.length ∧ ∀ (j : Nat) (h : j < L.length) (h' : j < ws.length), itS ws[j] = some L[j]
theorem itemsW_some : ∀ (ws : List Bytes) (L : List S48), itemsW ws = some L → Items L ws ∧ L.any seesB = ws.any seenW ∧ L.any uidB = ws.any fun w => w == wUid := by
  intro ws
  induction ws with
  | nil => intro L h; cases h; exact ⟨⟨rfl, fun j h => absurd h (by simp)⟩, rfl, rfl⟩
  | cons w r ih =>
    intro L h
    rw [itemsW] at h
    cases hi : itS w with
    | none => rw [hi] at h; cases h
    | some y =>
      rw [hi, Option.bind_some] at h
      cases hr : itemsW r with
      | none => rw [hr] at h; cases h
      | some Z =>
        rw [hr] at h
        cases h
        obtain ⟨⟨h1, h2⟩, h3, h4⟩ := ih Z hr
        obtain ⟨h5, h6⟩ := itS_facts hi
        refine ⟨⟨by simp [h1], ?_⟩, by simp [h3, h5], by simp [h4, h6]⟩
        intro j hj hj'
        cases j with
        | zero => exact hi
        | succ j => exact h2 j (by simpa using hj) (by simpa using hj')
theorem items_cons {L : List S48} {ws : List Bytes} {w : Bytes} {y : S48} (h : Items L ws) (hi : itS w = some y) : Items (y :: L) (w :: ws) := by
  refine ⟨by simp [h.1], ?_⟩
  intro j hj hj'
  cases j with
  | zero => exact hi
  | succ j => exact h.2 j (by simpa using hj) (by simpa using hj')
theorem itemsI_l0 (xs : List Bytes) (hxs : xs.length ≤ 30) (hx : ∀ x ∈ xs, x.length ≤ 1048576) : ∀ (m i : Nat) (Y : List S48), i + m = xs.length → Y.length = i →
    Ev (fun k => impl_itemsOf.l0 k (Y ++ List.replicate m z48) (xs.map bs) (xs.length : Int) i) (match itemsW ((xs.drop i).map upB) with | none => (([] : List S48), false) | some Z => (Y ++ Z, true)) := by
  intro m
  induction m with
  | zero =>
    intro i Y hi hY
    rw [List.drop_of_length_le (by omega)]
    refine Ev.step (fun _ => impl_itemsOf.l0.eq_2 ..) (ev_neg (by omega) (ev_some ?_))
    simp [itemsW]
  | succ m ih =>
    intro i Y hi hY
    have hlt : i < xs.length := by omega
    have hxl := hx xs[i] (List.getElem_mem hlt)
    refine Ev.step (fun _ => impl_itemsOf.l0.eq_2 ..) (ev_pos (by omega) (ev_pos (by omega) (ev_pos (by rw [List.length_map]; omega) ?_)))
    rw [rdB xs i hlt, List.drop_eq_getElem_cons hlt, List.map_cons, itemsW, w64n (by omega)]
    have hv := itemI_ev xs[i] hxl
    cases hi' : itS (upB xs[i]) with
    | none =>
      rw [hi'] at hv
      exact Ev.bind hv (ev_neg (by simp) (ev_some rfl))
    | some y =>
      rw [hi'] at hv
      refine Ev.bind hv (ev_pos rfl (ev_pos (by simp; omega) ?_))
      have e : (Y ++ List.replicate (m + 1) z48).set i y = (Y ++ [y]) ++ List.replicate m z48 := by
        rw [List.replicate_succ, List.set_append_right _ _ (by omega), hY, Nat.sub_self]
        simp
      rw [Int.toNat_natCast]
      show Ev (fun k => impl_itemsOf.l0 k ((Y ++ List.replicate (m + 1) z48).set i y) (xs.map bs) (xs.length : Int) ((i + 1 : Nat) : Int)) _
      rw [e]
      have := ih (i + 1) (Y ++ [y]) (by omega) (by simp; omega)
      rw [Option.bind_some]
      cases hr : itemsW ((xs.drop (i + 1)).map upB) with
      | none => rw [hr] at this; exact this
      | some Z =>
        rw [hr] at this
        show Ev _ (Y ++ (y :: Z), true)
        rw [show Y ++ (y :: Z) = (Y ++ [y]) ++ Z from by simp]; exact this
theorem itemsI_ev (xs : List Bytes) (hxs : xs.length ≤ 30) (hx : ∀ x ∈ xs, x.length ≤ 1048576) : Ev (fun k => impl_itemsOf.f k (xs.map bs)) (match itemsW (xs.map upB) with | none => (([] : List S48), false) | some Z => (Z, true)) := by
  unfold impl_itemsOf.f
  rw [List.length_map]
  refine ev_pos (by omega) (ev_pos (by omega) ?_)
  rw [Int.toNat_natCast]
  have := itemsI_l0 xs hxs hx xs.length 0 [] (by omega) rfl
  exact this
theorem fetchFin_eq (seq : Nat) (hq : seq ≤ 4294967295) (P : List Bytes) (hP : P.length ≤ 31) (hc : ∀ x ∈ P, x.length ≤ 5000) : fetchFin (seq : Int) (P.map bs) = some (bs (finB seq P), true) := by
  have d2 := digits_len seq (by omega)
  have hj := jn_len 5000 P hc
  have hj2 : P.length * 5001 ≤ 31 * 5001 := Nat.mul_le_mul_right _ hP
  have e4 : ((⟨#[40]⟩ : ByteArray) ++ bs (jn P)) ++ (⟨#[41]⟩ : ByteArray) = bs ([40] ++ jn P ++ [41]) := by
    rw [show (⟨#[40]⟩ : ByteArray) ++ bs (jn P) = bs ([40] ++ jn P) from bs_append [40] _]; exact bs_append _ [41]
  unfold fetchFin
  rw [itoaF seq (by omega), Option.bind_some, joinF P (by omega) (by omega), Option.bind_some, if_pos (by rw [bs_size]; omega), e4]
  have e5 : ([(⟨#[42]⟩ : ByteArray), bs (Lib.decDigits seq), (⟨#[70, 69, 84, 67, 72]⟩ : ByteArray), bs ([40] ++ jn P ++ [41])]) = [[42], Lib.decDigits seq, [70, 69, 84, 67, 72], [40] ++ jn P ++ [41]].map bs := rfl
  have e6 : jn [[42], Lib.decDigits seq, [70, 69, 84, 67, 72], [40] ++ jn P ++ [41]] = [42, 32] ++ Lib.decDigits seq ++ [32, 70, 69, 84, 67, 72, 32, 40] ++ jn P ++ [41] := by
    rw [show [[42], Lib.decDigits seq, [70, 69, 84, 67, 72], [40] ++ jn P ++ [41]] = [[42]] ++ [Lib.decDigits seq] ++ [[70, 69, 84, 67, 72]] ++ [[40] ++ jn P ++ [41]] from rfl]
    rw [jn_snoc, jn_snoc, jn_snoc]
    simp
    rfl
  unfold impl_line.f
  rw [e5, joinF _ (by simp) (by rw [e6]; simp; omega), Option.bind_some, e6, if_pos (by rw [bs_size]; simp; omega), Option.bind_some]
  have e7 : bs ([42, 32] ++ Lib.decDigits seq ++ [32, 70, 69, 84, 67, 72, 32, 40] ++ jn P ++ [41]) ++ (⟨#[13, 10]⟩ : ByteArray) = bs (([42, 32] ++ Lib.decDigits seq ++ [32, 70, 69, 84, 67, 72, 32, 40] ++ jn P ++ [41]) ++ [13, 10]) := bs_append _ [13, 10]
  rw [e7]
  unfold finB
  simp
theorem rdItem (L : List S48) (i : Nat) (h : i < L.length) : rd_T48 L (i : Int) = L[i] := by
  unfold rd_T48; simp [List.getD, List.getElem?_eq_getElem h]
theorem fetchI_l0 (seq u fl : Nat) (hq : seq ≤ 4294967295) (hu : u ≤ 1000) (hfl : fl < 32) (t : Bytes) (ht : t.length ≤ 4000) (L : List S48) (ws : List Bytes) (hL : Items L ws) (hws : ws.length ≤ 31) : ∀ (m i : Nat) (P : List Bytes), i + m = ws.length → P.length = i → (∀ x ∈ P, x.length ≤ 5000) →
    Ev (fun k => impl_fetchText.l0 k (u : Int) (fl : Int) (bs t) (seq : Int) L (P.map bs ++ List.replicate m (⟨#[]⟩ : ByteArray)) i) (match texts u fl t (ws.drop i) with | none => ((⟨#[]⟩ : ByteArray), false) | some Q => (bs (finB seq (P ++ Q)), true)) := by
  intro m
  induction m with
  | zero =>
    intro i P hi hP hc
    have := hL.1
    rw [List.drop_of_length_le (by omega)]
    refine Ev.step (fun _ => impl_fetchText.l0.eq_2 ..) (ev_neg (by omega) ?_)
    rw [List.replicate_zero, List.append_nil, fetchFin_eq seq hq P (by omega) hc]
    exact ev_some (by simp [texts])
  | succ m ih =>
    intro i P hi hP hc
    have hlen := hL.1
    have hlt : i < ws.length := by omega
    have hlt' : i < L.length := by omega
    obtain ⟨x, h1, h2⟩ := textI_ev u fl hu hfl t ht ws[i] L[i] (hL.2 i hlt' hlt)
    refine Ev.step (fun _ => impl_fetchText.l0.eq_2 ..) (ev_pos (by omega) (ev_pos (by omega) ?_))
    rw [rdItem L i hlt', w64n (by omega), List.drop_eq_getElem_cons hlt, texts]
    refine Ev.bind h1 ?_
    cases hx : textOf u fl t ws[i] with
    | none =>
      rw [hx] at h2
      exact ev_neg (by rw [h2]; simp) (ev_some rfl)
    | some r =>
      rw [hx] at h2
      subst h2
      have hr := textOf_len hu ht hx
      refine ev_pos rfl (ev_pos (by simp; omega) ?_)
      have e : (P.map bs ++ List.replicate (m + 1) (⟨#[]⟩ : ByteArray)).set i (bs r) = (P ++ [r]).map bs ++ List.replicate m (⟨#[]⟩ : ByteArray) := by
        rw [List.replicate_succ, List.set_append_right _ _ (by rw [List.length_map]; omega), List.length_map, hP, Nat.sub_self]
        simp
      rw [Int.toNat_natCast]
      show Ev (fun k => impl_fetchText.l0 k (u : Int) (fl : Int) (bs t) (seq : Int) L ((P.map bs ++ List.replicate (m + 1) (⟨#[]⟩ : ByteArray)).set i (bs r)) ((i + 1 : Nat) : Int)) _
      rw [e]
      have := ih (i + 1) (P ++ [r]) (by omega) (by simp; omega) (fun x hx => by
        rcases List.mem_append.mp hx with hx | hx
        · exact hc x hx
        · obtain rfl := List.mem_singleton.mp hx; exact hr)
      rw [Option.bind_some]
      cases hr : texts u fl t (ws.drop (i + 1)) with
      | none => rw [hr] at this; exact this
      | some Q =>
        rw [hr] at this
        show Ev _ (bs (finB seq (P ++ (r :: Q))), true)
        rw [show P ++ (r :: Q) = (P ++ [r]) ++ Q from by simp]; exact this
theorem fetchI_ev (seq u fl : Nat) (hq : seq ≤ 4294967295) (hu : u ≤ 1000) (hfl : fl < 32) (t : Bytes) (ht : t.length ≤ 4000) (L : List S48) (ws : List Bytes) (hL : Items L ws) (hU : L.any uidB = ws.any fun w => w == wUid) (hws : ws.length ≤ 30) (wu : Bool) :
    Ev (fun k => impl_fetchText.f k (u : Int) (fl : Int) (bs t) (seq : Int) L wu) (match texts u fl t ws with | none => ((⟨#[]⟩ : ByteArray), false) | some Q => (bs (finB seq (finP wu (ws.any fun w => w == wUid) u Q)), true)) := by
  have hlen := hL.1
  unfold impl_fetchText.f
  refine ev_pos (by omega) ?_
  have main : ∀ (L' : List S48) (ws' : List Bytes), Items L' ws' → ws'.length ≤ 31 → Ev (fun k => impl_fetchText.l0 k (u : Int) (fl : Int) (bs t) (seq : Int) L' (List.replicate L'.length (⟨#[]⟩ : ByteArray)) 0) (match texts u fl t ws' with | none => ((⟨#[]⟩ : ByteArray), false) | some Q => (bs (finB seq Q), true)) := by
    intro L' ws' h1 h2
    have := fetchI_l0 seq u fl hq hu hfl t ht L' ws' h1 h2 ws'.length 0 [] (by omega) rfl (fun x hx => by cases hx)
    rw [h1.1]
    exact this
  unfold itemsL finP
  rw [hU]
  by_cases h : wu = true ∧ (ws.any fun w => w == wUid) = false
  · rw [if_pos h]
    have hi : itS wUid = some (⟨(⟨#[85, 73, 68]⟩ : ByteArray), (⟨#[]⟩ : ByteArray), false, false⟩ : S48) := by
      unfold itS; rw [if_pos (Or.inr (Or.inl rfl))]; rfl
    have := main _ (wUid :: ws) (items_cons hL hi) (by simp; omega)
    have hT : textOf u fl t wUid = some (uidT u) := by unfold textOf; rw [if_neg (by decide), if_pos rfl]; rfl
    rw [texts, hT, Option.bind_some] at this
    cases hr : texts u fl t ws with
    | none => rw [hr] at this; exact this
    | some Q => rw [hr] at this; dsimp only; rw [if_pos (by rw [h.1, h.2]; rfl)]; exact this
  · rw [if_neg h]
    have := main L ws hL (by omega)
    cases hr : texts u fl t ws with
    | none => rw [hr] at this; exact this
    | some Q =>
      rw [hr] at this
      dsimp only
      rw [if_neg (fun x => h (by rw [Bool.and_eq_true, Bool.not_eq_true'] at x; exact x))]
      exact this
theorem fetchText_both (a b : Int) (t : Bytes) (ht : t.length ≤ 1048576) (seq : Int) (xs : List Bytes) (hxs : xs.length ≤ 1048576) (hx : ∀ x ∈ xs, x.length ≤ 1048576) (wu : Bool) :
    ∃ v, Ev (fun k => spec_FetchText.f k a b (bs t) seq (xs.map bs) wu) v ∧ Ev (fun k => impl_FetchText.f k a b (bs t) seq (xs.map bs) wu) v := by
  have j1s : Ev (fun k => spec_FetchText.j0 k seq (xs.map bs) wu true a b (bs t)) ((⟨#[]⟩ : ByteArray), false, 1) := Ev.step (fun _ => spec_FetchText.j0.eq_2 ..) (ev_pos rfl (ev_some rfl))
  have j1i : Ev (fun k => impl_FetchText.j0 k seq (xs.map bs) wu true a b (bs t)) ((⟨#[]⟩ : ByteArray), false, 1) := Ev.step (fun _ => impl_FetchText.j0.eq_2 ..) (ev_pos rfl (ev_some rfl))
  unfold spec_FetchText.f impl_FetchText.f
  rw [List.length_map, bs_size]
  by_cases h1 : (xs.length : Int) > 4096
  · exact ⟨_, ev_pos h1 (ev_some rfl), ev_pos h1 (ev_some rfl)⟩
  · by_cases h2 : (xs.length : Int) > 30
    · exact ⟨_, ev_neg h1 (ev_pos h2 j1s), ev_neg h1 (ev_pos h2 j1i)⟩
    · suffices H : ∃ v, Ev (fun k => if inB b 0 31 = true then (if inB a 1 1000 = true then (spec_FetchText.j0 k seq (xs.map bs) wu (decide ((t.length : Int) > 4000)) a b (bs t)) else (spec_FetchText.j0 k seq (xs.map bs) wu true a b (bs t))) else (spec_FetchText.j0 k seq (xs.map bs) wu true a b (bs t))) v ∧ Ev (fun k => if inB a 1 1000 = true then (if inB b 0 31 = true then (impl_FetchText.j0 k seq (xs.map bs) wu (decide ((t.length : Int) > 4000)) a b (bs t)) else (impl_FetchText.j0 k seq (xs.map bs) wu true a b (bs t))) else (impl_FetchText.j0 k seq (xs.map bs) wu true a b (bs t))) v by
        obtain ⟨v, hs, hi⟩ := H
        refine ⟨v, ev_neg h1 (ev_neg h2 (ev_bindc (l01In_f b 0 31) ?_)), ev_neg h1 (ev_neg h2 (ev_bindc (within_f a 1 1000) ?_))⟩
        · by_cases q : inB b 0 31 = true
          · refine ev_pos q (ev_bindc (l01In_f a 1 1000) ?_)
            exact Ev.congr (fun _ => (if_pos q).symm) hs
          · exact ev_neg q (Ev.congr (fun _ => (if_neg q).symm) hs)
        · by_cases q : inB a 1 1000 = true
          · refine ev_pos q (ev_bindc (within_f b 0 31) ?_)
            exact Ev.congr (fun _ => (if_pos q).symm) hi
          · exact ev_neg q (Ev.congr (fun _ => (if_neg q).symm) hi)
      by_cases hb : inB b 0 31 = true
      · by_cases ha : inB a 1 1000 = true
        · by_cases h4 : (t.length : Int) > 4000
          · refine ⟨((⟨#[]⟩ : ByteArray), false, 1), ev_pos hb (ev_pos ha ?_), ev_pos ha (ev_pos hb ?_)⟩
            · rw [decide_eq_true h4]; exact j1s
            · rw [decide_eq_true h4]; exact j1i
          · rw [decide_eq_false h4]
            suffices H : ∃ v, Ev (fun k => spec_FetchText.j0 k seq (xs.map bs) wu false a b (bs t)) v ∧ Ev (fun k => impl_FetchText.j0 k seq (xs.map bs) wu false a b (bs t)) v by
              obtain ⟨v, hs, hi⟩ := H
              exact ⟨v, ev_pos hb (ev_pos ha hs), ev_pos ha (ev_pos hb hi)⟩
            by_cases hq : inB seq 1 4294967295 = true
            · unfold inB at hb ha hq
              simp only [Bool.and_eq_true, decide_eq_true_eq] at hb ha hq
              obtain ⟨u, rfl⟩ := Int.eq_ofNat_of_zero_le (show 0 ≤ a by omega)
              obtain ⟨fl, rfl⟩ := Int.eq_ofNat_of_zero_le (show 0 ≤ b by omega)
              obtain ⟨sq, rfl⟩ := Int.eq_ofNat_of_zero_le (show 0 ≤ seq by omega)
              have hq' : inB ((sq : Nat) : Int) 1 4294967295 = true := by unfold inB; simp; omega
              have rs := fetchS_l0 sq u fl (by omega) (by omega) (by omega) t (by omega) xs (by omega) hx wu xs.length 0 [] false false (by omega) rfl (fun x hx => by cases hx)
              rw [List.drop_zero, runW_eq] at rs
              have ri := itemsI_ev xs (by omega) hx
              cases hT : texts u fl t (xs.map upB) with
              | none =>
                rw [hT] at rs
                refine ⟨((⟨#[]⟩ : ByteArray), false, 3), Ev.step (fun _ => spec_FetchText.j0.eq_2 ..) (ev_neg (by simp) (ev_bindc (l01In_f _ 1 4294967295) (ev_pos hq' (Ev.bind rs (ev_neg (by simp) (ev_some rfl)))))), Ev.step (fun _ => impl_FetchText.j0.eq_2 ..) (ev_neg (by simp) (ev_bindc (within_f _ 1 4294967295) (ev_pos hq' ?_)))⟩
                cases hW : itemsW (xs.map upB) with
                | none => rw [hW] at ri; exact Ev.bind ri (ev_neg (by simp) (ev_some rfl))
                | some L =>
                  rw [hW] at ri
                  obtain ⟨h5, h6, h7⟩ := itemsW_some _ _ hW
                  have rt := fetchI_ev sq u fl (by omega) (by omega) (by omega) t (by omega) L _ h5 h7 (by rw [List.length_map]; omega) wu
                  rw [hT] at rt
                  exact Ev.bind ri (ev_pos rfl (Ev.bind rt (ev_neg (by simp) (ev_some rfl))))
              | some Q =>
                rw [hT] at rs
                cases hW : itemsW (xs.map upB) with
                | none => rw [itemsW_none u fl t _ hW] at hT; cases hT
                | some L =>
                  rw [hW] at ri
                  obtain ⟨h5, h6, h7⟩ := itemsW_some _ _ hW
                  have rt := fetchI_ev sq u fl (by omega) (by omega) (by omega) t (by omega) L _ h5 h7 (by rw [List.length_map]; omega) wu
                  rw [hT] at rt
                  have hl5 := h5.1
                  rw [List.length_map] at hl5
                  have hsee : impl_sees.f L = some ((xs.map upB).any seenW) := by unfold impl_sees.f; rw [if_pos (by omega), h6]
                  simp only [Option.map_some, Bool.false_or, List.nil_append] at rs
                  refine ⟨(bs (finB sq (finP wu ((xs.map upB).any fun w => w == wUid) u Q)), (xs.map upB).any seenW && (Go.bits .and .i64 (fl : Int) 1 == 0), 0), Ev.step (fun _ => spec_FetchText.j0.eq_2 ..) (ev_neg (by simp) (ev_bindc (l01In_f _ 1 4294967295) (ev_pos hq' (Ev.bind rs (ev_pos rfl ?_))))), Ev.step (fun _ => impl_FetchText.j0.eq_2 ..) (ev_neg (by simp) (ev_bindc (within_f _ 1 4294967295) (ev_pos hq' (Ev.bind ri (ev_pos rfl (Ev.bind rt (ev_pos rfl (ev_bindc hsee ?_))))))))⟩
                  · cases (xs.map upB).any seenW with
                    | true => exact ev_pos rfl (ev_some rfl)
                    | false => exact ev_neg (by simp) (ev_some rfl)
                  · cases (xs.map upB).any seenW with
                    | true => exact ev_pos rfl (ev_some rfl)
                    | false => exact ev_neg (by simp) (ev_some rfl)
            · exact ⟨((⟨#[]⟩ : ByteArray), false, 4), Ev.step (fun _ => spec_FetchText.j0.eq_2 ..) (ev_neg (by simp) (ev_bindc (l01In_f _ 1 4294967295) (ev_neg hq (ev_some rfl)))), Ev.step (fun _ => impl_FetchText.j0.eq_2 ..) (ev_neg (by simp) (ev_bindc (within_f _ 1 4294967295) (ev_neg hq (ev_some rfl))))⟩
        · exact ⟨_, ev_pos hb (ev_neg ha j1s), ev_neg ha j1i⟩
      · by_cases ha : inB a 1 1000 = true
        · exact ⟨_, ev_neg hb j1s, ev_pos ha (ev_neg hb j1i)⟩
        · exact ⟨_, ev_neg hb j1s, ev_neg ha j1i⟩
end Go.Proofs.YtcmnndnigjkldaaGreatDoor.PFnExactFetchText
end
section
set_option linter.unusedVariables false
set_option linter.unusedSimpArgs false
namespace Go.Proofs.YtcmnndnigjkldaaGreatDoor.PFnExactFetchText
open Go.RowKit Go.Proofs.YtcmnndnigjkldaaGreatDoorW.PrintWords
theorem szStringS_evG (l : List ByteArray) (hl : l.length ≤ maxLen) (hs : ∀ t ∈ l, t.size ≤ maxLen) (left : Int) (h0 : 0 ≤ left) (h1 : left ≤ 1048576) : ∃ r, Ev (fun k => laws_szStringS.f k l left) r ∧ r ≤ 1048576 ∧ (0 ≤ r → l.length ≤ 1048576 ∧ ∀ t ∈ l, t.size ≤ 1048576) := by
  have hm : maxLen = 9223372036854775807 := by decide
  rw [hm] at hl hs
  have loop : ∀ (m i : Nat) (a : Int), i + m = l.length → 0 ≤ a → a ≤ 1048576 → ∃ r, Ev (fun k => laws_szStringS.l0 k l a i) r ∧ r ≤ 1048576 ∧ (0 ≤ r → ∀ t ∈ l.drop i, t.size ≤ 1048576) := by
    intro m
    induction m with
    | zero => intro i a hi h0 h1; exact ⟨a, Ev.step (fun _ => laws_szStringS.l0.eq_2 ..) (ev_neg (by omega) (ev_some rfl)), h1, fun _ => by rw [List.drop_of_length_le (by omega)]; simp⟩
    | succ m ih =>
      intro i a hi h0 h1
      have hlt : i < l.length := by omega
      have hz := hs l[i] (List.getElem_mem hlt)
      by_cases hn : a - (l[i].size : Int) < 0
      · refine ⟨-1, Ev.step (fun _ => laws_szStringS.l0.eq_2 ..) (ev_pos (by omega) (ev_pos (by omega) ?_)), by omega, fun h => by omega⟩
        rw [rdOf_nat _ l i hlt, w64 (by omega) (by omega)]
        exact ev_pos hn (ev_some rfl)
      · obtain ⟨r, hr, hr1, hx⟩ := ih (i + 1) (a - (l[i].size : Int)) (by omega) (by omega) (by omega)
        refine ⟨r, Ev.step (fun _ => laws_szStringS.l0.eq_2 ..) (ev_pos (by omega) (ev_pos (by omega) ?_)), hr1, fun h => ?_⟩
        · rw [rdOf_nat _ l i hlt, w64 (by omega) (by omega)]
          refine ev_neg hn ?_
          rw [w64n (by omega)]
          exact hr
        · rw [List.drop_eq_getElem_cons hlt]
          intro t ht
          rcases List.mem_cons.mp ht with rfl | ht
          · omega
          · exact hx h t ht
  unfold laws_szStringS.f
  rw [w64 (by omega) (by omega)]
  by_cases hn : left - (l.length : Int) < 0
  · exact ⟨-1, ev_pos hn (ev_some rfl), by omega, fun h => by omega⟩
  · obtain ⟨r, r1, r2, r3⟩ := loop l.length 0 (left - (l.length : Int)) (by omega) (by omega) (by omega)
    exact ⟨r, ev_neg hn r1, r2, fun h => ⟨by omega, by have := r3 h; rwa [List.drop_zero] at this⟩⟩
/-! Lists of texts: copied, alike, marked, held. -/
theorem eqStringS_refl (l : List ByteArray) (hl : l.length ≤ 1099511627776) : Ev (fun k => laws_eqStringS.f k l l) true := by
  have loop : ∀ m i : Nat, i + m = l.length → Ev (fun k => laws_eqStringS.l0 k l l i) true := by
    intro m
    induction m with
    | zero => intro i hi; exact Ev.step (fun _ => laws_eqStringS.l0.eq_2 ..) (ev_neg (by omega) (ev_some rfl))
    | succ m ih =>
      intro i hi
      refine Ev.step (fun _ => laws_eqStringS.l0.eq_2 ..) (ev_pos (by omega) (ev_pos (by omega) (ev_pos (by omega) (ev_pos rfl ?_))))
      rw [w64n (by omega)]
      exact ih (i + 1) (by omega)
  unfold laws_eqStringS.f
  exact ev_pos rfl (loop l.length 0 (by omega))
theorem toStringS_ev (l : List ByteArray) (hl : l.length ≤ 1099511627776) : Ev (fun k => laws_toStringS.f k l) l := by
  have loop : ∀ (m i : Nat) (a : List ByteArray), i + m = l.length → a.length = l.length → a.take i = l.take i → Ev (fun k => laws_toStringS.l0 k l a i) l := by
    intro m
    induction m with
    | zero =>
      intro i a hi ha ht
      rw [List.take_of_length_le (by omega), List.take_of_length_le (by omega)] at ht
      subst ht
      exact Ev.step (fun _ => laws_toStringS.l0.eq_2 ..) (ev_neg (by omega) (ev_some rfl))
    | succ m ih =>
      intro i a hi ha ht
      refine Ev.step (fun _ => laws_toStringS.l0.eq_2 ..) (ev_pos (by omega) (ev_pos (by omega) (ev_pos (by omega) ?_)))
      rw [w64n (by omega), rdOf_nat _ l i (by omega), Int.toNat_natCast]
      refine ih (i + 1) _ (by omega) (by simp; omega) ?_
      rw [List.take_succ_eq_append_getElem (by simp; omega), List.take_succ_eq_append_getElem (by omega : i < l.length), List.take_set_of_le (Nat.le_refl _), ht, List.getElem_set_self]
  unfold laws_toStringS.f
  refine ev_pos (by omega) (ev_pos (by omega) ?_)
  exact loop l.length 0 _ (by omega) (by simp) (by simp)
/-! The law: true. -/
theorem bsL_ex : ∀ l : List ByteArray, ∃ xs : List Bytes, l = xs.map bs
  | [] => ⟨[], rfl⟩
  | t :: r => by
    obtain ⟨x, rfl⟩ := bs_ex t
    obtain ⟨xs, rfl⟩ := bsL_ex r
    exact ⟨x :: xs, rfl⟩
/-- The law's answer: true. -/
theorem law_true (a b : Int) (t : ByteArray) (seq : Int) (l : List ByteArray) (wu : Bool) (ht : t.size ≤ maxLen) (hl : l.length ≤ maxLen) (hs : ∀ x ∈ l, x.size ≤ maxLen) : Ev (fun k => laws_FnExactFetchText.f k a b t seq l wu) true := by
  have hmx : maxLen = 9223372036854775807 := by decide
  unfold laws_FnExactFetchText.f laws_szStored.f
  have e : wrap64 (1048576 - (t.size : Int)) = 1048576 - (t.size : Int) := w64 (by omega) (by omega)
  rw [e]
  by_cases h : (1048576 - (t.size : Int)) < 0
  · refine ev_bindc (a := -1) (if_pos h) (ev_pos (by omega) (ev_some rfl))
  · refine ev_bindc (a := 1048576 - (t.size : Int)) (if_neg h) (ev_neg h ?_)
    obtain ⟨r, hr, -, hr2⟩ := szStringS_evG l hl hs (1048576 - (t.size : Int)) (by omega) (by omega)
    refine Ev.bind hr ?_
    by_cases h0 : r < 0
    · exact ev_pos h0 (ev_some rfl)
    · refine ev_neg h0 ?_
      obtain ⟨h1, h2⟩ := hr2 (by omega)
      obtain ⟨x, rfl⟩ := bs_ex t
      obtain ⟨xs, rfl⟩ := bsL_ex l
      rw [bs_size] at h ht
      obtain ⟨v, r1, r2⟩ := fetchText_both a b x (by omega) seq xs (by rw [List.length_map] at h1; exact h1) (fun y hy => by
        have := h2 (bs y) (List.mem_map_of_mem hy); rwa [bs_size] at this) wu
      have hT := toStringS_ev (xs.map bs) (by omega)
      have hE := eqStringS_refl (xs.map bs) (by omega)
      refine ev_bindc (a := (a, b, bs x)) rfl (Ev.bind hT (Ev.bind r1 (Ev.bind hT (ev_bindc (a := (a, b, bs x)) rfl (Ev.bind r2 (ev_pos rfl (ev_neg (by simp) ?_)))))))
      refine Ev.step (fun _ => laws_FnExactFetchText.j0.eq_2 ..) (ev_neg (by simp) (Ev.bind hT (Ev.bind hE (ev_pos rfl (ev_some rfl)))))
end Go.Proofs.YtcmnndnigjkldaaGreatDoor.PFnExactFetchText
end
