/- A mail's text, both ways. Plain. -/
import Derived.Test.YtifkmkiljpeaaabDoorPFnExactOverLinex4
import Derived.Test.YtifkmkiljpeaaabDoorPFnExactOverLinex5
import Derived.Test.YtifkmkiljpeaaabDoorLOverA
set_option linter.unusedVariables false
set_option linter.unusedSimpArgs false
namespace Go.Proofs.YtifkmkiljpeaaabDoor.PFnExactOverLine
open Go.RowKit Go.Proofs.YtifkmkiljpeaaabDoorW.PrintWords
/-! A mail's text, both ways. -/
theorem mOKS_l0 (l : Bytes) (hl : l.length ≤ 1048576) : ∀ (m i w : Nat), l.length - i ≤ m → i ≤ l.length → w ≤ 998 → Ev (fun k => spec_MailOK.l0 k (bs l) (w : Int) i) (mOK w (l.drop i)) := by
  intro m
  induction m with
  | zero =>
    intro i w hm hi hw
    rw [List.drop_of_length_le (by omega)]
    refine Ev.step (fun _ => spec_MailOK.l0.eq_2 ..) (ev_neg (by rw [bs_size]; omega) (ev_some ?_))
    rw [mOK, Bool.eq_iff_iff]; simp
  | succ m ih =>
    intro i w hm hi hw
    by_cases hlt : i < l.length
    · have hc := (l[i]).toNat_lt
      have e13 : (l[i]).toNat = 13 ↔ l[i] = 13 := by rw [← UInt8.toNat_inj]; rfl
      have e10 : (l[i]).toNat = 10 ↔ l[i] = 10 := by rw [← UInt8.toNat_inj]; rfl
      refine Ev.step (fun _ => spec_MailOK.l0.eq_2 ..) (ev_pos (by rw [bs_size]; omega) (ev_pos (by omega) ?_))
      rw [bt_bs l i hlt, drop_cons l i hlt, mOK, w64n (by omega)]
      -- what is asked of a byte that ends no line
      have hB : ¬ (l[i] = 13 ∧ (l.drop (i + 1)).head? = some 10) → Ev (fun k => spec_MailOK.j1 k (bs l) (w : Int) i ((l[i]).toNat : Int) false) (goodC l[i] && decide (w + 1 ≤ 998) && mOK (w + 1) (l.drop (i + 1))) := by
        intro _
        refine Ev.step (fun _ => spec_MailOK.j1.eq_2 ..) (ev_neg (by simp) ?_)
        rw [w64n (k := w) (by omega), w64n (k := i) (by omega)]
        by_cases h1 : (l[i]).toNat = 13
        · have : goodC l[i] = false := by unfold goodC; rw [e13.mp h1]; rfl
          rw [this]; exact ev_pos (by omega) (ev_some rfl)
        · refine ev_neg (by omega) ?_
          by_cases h2 : (l[i]).toNat = 10
          · have : goodC l[i] = false := by unfold goodC; rw [e10.mp h2]; rfl
            rw [this]; exact ev_pos (by omega) (ev_some rfl)
          · refine ev_neg (by omega) ?_
            by_cases h3 : (l[i]).toNat = 0
            · have : goodC l[i] = false := by unfold goodC; rw [h3]; simp
              rw [this]; exact ev_pos (by omega) (ev_some rfl)
            · refine ev_neg (by omega) ?_
              by_cases h4 : (l[i]).toNat ≤ 127
              · have : goodC l[i] = true := by
                  unfold goodC
                  rw [decide_eq_true (show l[i] ≠ 13 from fun e => h1 (e13.mpr e)), decide_eq_true (show l[i] ≠ 10 from fun e => h2 (e10.mpr e)), decide_eq_true h3, decide_eq_true h4]; rfl
                rw [this]
                refine ev_neg (by omega) ?_
                by_cases h5 : w + 1 ≤ 998
                · rw [decide_eq_true h5]
                  exact ev_neg (by omega) (ev_to (by simp) (ih (i + 1) (w + 1) (by omega) (by omega) h5))
                · rw [decide_eq_false h5]
                  exact ev_pos (by omega) (ev_some (by simp))
              · have : goodC l[i] = false := by unfold goodC; rw [decide_eq_false h4]; simp
                rw [this]; exact ev_pos (by omega) (ev_some rfl)
      by_cases h1 : (l[i]).toNat = 13
      · refine ev_pos (by omega) ?_
        by_cases h2 : i + 1 < l.length
        · refine ev_pos (by rw [bs_size]; omega) (ev_pos (by omega) ?_)
          rw [bt_bs l (i + 1) h2]
          have hd : (l.drop (i + 1)).head? = some l[i + 1] := by rw [drop_cons l (i + 1) h2]; rfl
          have e10' : (l[i + 1]).toNat = 10 ↔ l[i + 1] = 10 := by rw [← UInt8.toNat_inj]; rfl
          by_cases h3 : (l[i + 1]).toNat = 10
          · rw [if_pos ⟨e13.mp h1, by rw [hd, e10'.mp h3]⟩, show (((l[i + 1]).toNat : Int) == 10) = true from by simp; omega]
            refine Ev.step (fun _ => spec_MailOK.j1.eq_2 ..) (ev_pos rfl ?_)
            rw [w64n (by omega), w64n (by omega)]
            exact ev_to (by simp [List.tail_drop]) (ih (i + 1 + 1) 0 (by omega) (by omega) (by omega))
          · have hn : ¬ (l[i] = 13 ∧ (l.drop (i + 1)).head? = some 10) := by rw [hd]; rintro ⟨_, x⟩; injection x with x; exact h3 (e10'.mpr x)
            rw [if_neg hn, show (((l[i + 1]).toNat : Int) == 10) = false from by simp; omega]
            exact hB hn
        · have hn : ¬ (l[i] = 13 ∧ (l.drop (i + 1)).head? = some 10) := by rw [List.drop_of_length_le (by omega)]; simp
          rw [if_neg hn]
          exact ev_neg (by rw [bs_size]; omega) (hB hn)
      · have hn : ¬ (l[i] = 13 ∧ (l.drop (i + 1)).head? = some 10) := fun x => h1 (e13.mpr x.1)
        rw [if_neg hn]
        exact ev_neg (by omega) (hB hn)
    · rw [List.drop_of_length_le (by omega)]
      refine Ev.step (fun _ => spec_MailOK.l0.eq_2 ..) (ev_neg (by rw [bs_size]; omega) (ev_some ?_))
      rw [mOK, Bool.eq_iff_iff]; simp
def mailB (l : Bytes) : Bool := decide (l.length ≤ 65536) && mOK 0 l
theorem mailS_ok (l : Bytes) (hl : l.length ≤ 1048576) : Ev (fun k => spec_MailOK.f k (bs l)) (mailB l) := by
  unfold spec_MailOK.f mailB
  rw [bs_size]
  by_cases h0 : (l.length : Int) > 65536
  · rw [decide_eq_false (by omega : ¬ l.length ≤ 65536)]; exact ev_pos h0 (ev_some (by simp))
  · rw [decide_eq_true (by omega : l.length ≤ 65536), Bool.true_and]
    exact ev_neg h0 (mOKS_l0 l hl l.length 0 0 (by omega) (by omega) (by omega))
theorem hasSuf (l s : Bytes) (hl : l.length ≤ 1048576) (hs : s.length ≤ 100) : stringslite_HasSuffix.f (bs l) (bs s) = some (s.isSuffixOf l) := by
  unfold stringslite_HasSuffix.f
  rw [bs_size, bs_size]
  by_cases h : s.length ≤ l.length
  · have e : wrap64 ((l.length : Int) - (s.length : Int)) = ((l.length - s.length : Nat) : Int) := by rw [w64 (by omega) (by omega)]; omega
    rw [if_pos (by omega), e, if_pos (by omega), if_pos (by omega), Int.toNat_natCast, bs_extract, bs_toList, bs_toList, List.take_of_length_le (Nat.le_refl _)]
    congr 1
    rw [Bool.eq_iff_iff, beq_iff_eq, List.isSuffixOf_iff_suffix, List.suffix_iff_eq_drop]
    exact ⟨fun h => h.symm, fun h => h.symm⟩
  · rw [if_neg (by omega)]
    congr 1
    symm
    rw [← Bool.not_eq_true, List.isSuffixOf_iff_suffix]
    intro x; exact h x.length_le
theorem hasSuf2 (l s : Bytes) (hl : l.length ≤ 1048576) (hs : s.length ≤ 100) : strings_HasSuffix.f (bs l) (bs s) = some (s.isSuffixOf l) := by
  unfold strings_HasSuffix.f; rw [hasSuf l s hl hs]; rfl
theorem any_in (cs : Bytes) : ∀ l : Bytes, Lib.containsAny l cs = l.any (fun c => cs.contains c)
  | [] => rfl
  | c :: l => by
    have ih := any_in cs l
    unfold Lib.containsAny at *
    rw [List.any_cons, ← ih, Lib.indexAny]
    by_cases h : cs.contains c = true
    · rw [if_pos h, h]; rfl
    · rw [if_neg h]
      have h' : cs.contains c = false := by simpa using h
      rw [h', Bool.false_or]
      have hge := Lib.indexAny_ge cs l
      by_cases h2 : Lib.indexAny l cs = -1
      · rw [h2]; rfl
      · rw [if_neg (by simpa using h2), decide_eq_true (by omega), decide_eq_true (by omega)]
def okLineB (p : Bytes) : Bool := decide (p.length ≤ 998) && p.all goodC
theorem okLines (P : List Bytes) : P.all okLineB = true ↔ ∀ p ∈ P, okLine p := by
  simp [List.all_eq_true, okLineB, okLine]
theorem good_parts (p : Bytes) : p.all goodC = (p.all (betw 1 127) && !(p.any fun c => CRLF.contains c)) := by
  induction p with
  | nil => rfl
  | cons c r ih =>
    rw [List.all_cons, List.all_cons, List.any_cons, ih]
    have e : goodC c = (betw 1 127 c && !(CRLF.contains c)) := by
      unfold goodC betw
      by_cases h1 : c = 13
      · subst h1; rfl
      · by_cases h2 : c = 10
        · subst h2; rfl
        · rw [decide_eq_true h1, decide_eq_true h2, show CRLF.contains c = false from by simp [h1, h2]]
          by_cases h3 : c.toNat = 0
          · rw [decide_eq_false (fun x => x h3), decide_eq_false (by omega : ¬ 1 ≤ c.toNat)]; rfl
          · rw [decide_eq_true h3, decide_eq_true (by omega : 1 ≤ c.toNat)]; simp
    rw [e]
    cases betw 1 127 c <;> cases (CRLF.contains c) <;> cases r.all (betw 1 127) <;> cases (r.any fun c => CRLF.contains c) <;> rfl
theorem ascii_of {p : Bytes} (h : p.all (betw 1 127) = true) : asciiL (bs p) = true := by
  unfold asciiL
  rw [bs_data, List.all_eq_true]
  intro c hc
  have := List.all_eq_true.mp h c hc
  simp [betw] at this
  simp; omega
theorem mailI_l0 (P : List Bytes) (hP : P.length ≤ 1048577) (hs : ∀ p ∈ P, p.length ≤ 1048576) : ∀ (m i : Nat), i + m = P.length → Ev (fun k => impl_MailOK.l0 k (P.map bs) (P.length : Int) i) ((P.drop i).all okLineB) := by
  intro m
  induction m with
  | zero => intro i hi; rw [List.drop_of_length_le (by omega)]; exact Ev.step (fun _ => impl_MailOK.l0.eq_2 ..) (ev_neg (by omega) (ev_some rfl))
  | succ m ih =>
    intro i hi
    have hlt : i < P.length := by omega
    refine Ev.step (fun _ => impl_MailOK.l0.eq_2 ..) (ev_pos (by omega) (ev_pos (by omega) (ev_pos (by rw [List.length_map]; omega) ?_)))
    rw [rdB P i hlt, List.drop_eq_getElem_cons hlt, List.all_cons, w64n (by omega), bs_size]
    have hz := hs P[i] (List.getElem_mem hlt)
    by_cases h1 : (P[i]).length ≤ 998
    · refine ev_neg (by omega) (Ev.bind (allW_ev P[i] hz 1 127) ?_)
      have e : okLineB P[i] = ((P[i]).all (betw 1 127) && !((P[i]).any fun c => CRLF.contains c)) := by unfold okLineB; rw [decide_eq_true h1, Bool.true_and, good_parts]
      rw [e]
      cases h2 : (P[i]).all (betw 1 127) with
      | false => exact ev_neg (by simp) (ev_some rfl)
      | true =>
        refine ev_pos rfl (ev_bindc (a := (P[i]).any fun c => CRLF.contains c) ?_ ?_)
        · unfold strings_ContainsAny.f
          rw [if_pos ⟨by rw [bs_size]; omega, by decide, ascii_of h2, by decide⟩, bs_data]
          exact congrArg some (any_in CRLF _)
        · cases h3 : (P[i]).any fun c => CRLF.contains c with
          | true => exact ev_pos rfl (ev_some rfl)
          | false => exact ev_neg (by simp) (ih (i + 1) (by omega))
    · have : okLineB P[i] = false := by unfold okLineB; rw [decide_eq_false h1]; rfl
      rw [this]; exact ev_pos (by omega) (ev_some rfl)
theorem split_sizes (sub : Bytes) (h0 : sub ≠ []) : ∀ (n : Nat) (l : Bytes), l.length ≤ n → ∀ p ∈ Lib.split l sub, p.length ≤ l.length := by
  intro n
  induction n with
  | zero =>
    intro l hl p hp
    obtain rfl : l = [] := List.length_eq_zero_iff.mp (by omega)
    rcases idx_cases sub h0 [] with ⟨e, -⟩ | ⟨a, r, e, -, -⟩
    · rw [split_miss e] at hp; obtain rfl := List.mem_singleton.mp hp; omega
    · have := congrArg List.length e
      have h1 : 1 ≤ sub.length := by cases sub with | nil => exact absurd rfl h0 | cons _ _ => simp
      simp at this; omega
  | succ n ih =>
    intro l hl p hp
    rcases idx_cases sub h0 l with ⟨e, -⟩ | ⟨a, r, rfl, e2, -⟩
    · rw [split_miss e] at hp; obtain rfl := List.mem_singleton.mp hp; omega
    · have h1 : 1 ≤ sub.length := by cases sub with | nil => exact absurd rfl h0 | cons _ _ => simp
      rw [split_hit h0 e2] at hp
      rcases List.mem_cons.mp hp with rfl | hp
      · simp
      · have := ih r (by simp at hl; omega) p hp; simp; omega
theorem mailI_ok (l : Bytes) (hl : l.length ≤ 1048576) : Ev (fun k => impl_MailOK.f k (bs l)) (mailB l) := by
  unfold impl_MailOK.f mailB
  rw [bs_size]
  have bad : Ev (fun k => impl_MailOK.j0 k (bs l) true) false := Ev.step (fun _ => impl_MailOK.j0.eq_2 ..) (ev_pos rfl (ev_some rfl))
  have hs := mOK_split l.length l (Nat.le_refl _)
  have good : (l = [] ∨ CRLF.isSuffixOf l = true) → Ev (fun k => impl_MailOK.j0 k (bs l) false) (mOK 0 l) := by
    intro h
    refine Ev.step (fun _ => impl_MailOK.j0.eq_2 ..) (ev_neg (by simp) (ev_bindc (splitF l CRLF hl (by decide)) ?_))
    have hlen := split_len l CRLF (by decide)
    rw [List.length_map]
    refine ev_to ?_ (mailI_l0 (Lib.split l CRLF) (by omega) (fun p hp => Nat.le_trans (split_sizes CRLF (by decide) l.length l (Nat.le_refl _) p hp) hl) (Lib.split l CRLF).length 0 (by omega))
    rw [List.drop_zero, Bool.eq_iff_iff, okLines, hs]
    exact ⟨fun x => ⟨h, x⟩, fun x => x.2⟩
  by_cases h1 : (l.length : Int) > 65536
  · rw [decide_eq_false (by omega : ¬ l.length ≤ 65536)]; exact ev_pos h1 (ev_to (by simp) bad)
  · rw [decide_eq_true (by omega : l.length ≤ 65536), Bool.true_and]
    refine ev_neg h1 ?_
    by_cases h3 : l = []
    · subst h3; exact ev_pos ((bs_nilq []).mpr rfl) (good (Or.inl rfl))
    · refine ev_neg (fun x => h3 ((bs_nilq _).mp x)) (ev_bindc (hasSuf2 l CRLF hl (by decide)) ?_)
      cases h4 : CRLF.isSuffixOf l with
      | true => exact good (Or.inr h4)
      | false =>
        have : mOK 0 l = false := by
          cases h : mOK 0 l with
          | false => rfl
          | true =>
            rcases (hs.mp h).1 with x | x
            · exact absurd x h3
            · rw [h4] at x; cases x
        rw [this]; exact bad
end Go.Proofs.YtifkmkiljpeaaabDoor.PFnExactOverLine
