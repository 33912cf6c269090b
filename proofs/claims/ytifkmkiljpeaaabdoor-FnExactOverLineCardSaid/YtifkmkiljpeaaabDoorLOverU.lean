/- A field's text, both ways. Plain. -/
import Derived.Test.YtifkmkiljpeaaabDoorPFnExactOverLinex2
import Derived.Test.YtifkmkiljpeaaabDoorPFnExactOverLinex7
import Derived.Test.YtifkmkiljpeaaabDoorLOverB
set_option linter.unusedVariables false
set_option linter.unusedSimpArgs false
namespace Go.Proofs.YtifkmkiljpeaaabDoor.PFnExactOverLine
open Go.RowKit Go.Proofs.YtifkmkiljpeaaabDoorW.PrintWords
/-! A field's text, both ways. -/
theorem unfS_l1 (t v : Bytes) (K : Nat) (hK : K ≤ t.length) (ht : t.length ≤ 1048576) (hv : v.length ≤ 1048576) : ∀ (m i : Nat) (a : Bytes), v.length - i ≤ m → i ≤ v.length → a.length ≤ i → (a ≠ [] ∨ (v.drop i).head? = some 32) →
    Ev (fun k => spec_l03Unfold.l1 k (bs t) (K : Int) (bs v) (ints a) i) (match unf (v.drop i) with | none => ((⟨#[]⟩ : ByteArray), (⟨#[]⟩ : ByteArray), false) | some u => (bs (t.take K), bs ((a ++ u).drop 1), safeB ((a ++ u).drop 1))) := by
  have hend : ∀ (i : Nat) (a : Bytes), v.length ≤ i → a.length ≤ i → (a ≠ [] ∨ (v.drop i).head? = some 32) → a.length ≤ v.length →
      Ev (fun k => spec_l03Unfold.l1 k (bs t) (K : Int) (bs v) (ints a) i) (match unf (v.drop i) with | none => ((⟨#[]⟩ : ByteArray), (⟨#[]⟩ : ByteArray), false) | some u => (bs (t.take K), bs ((a ++ u).drop 1), safeB ((a ++ u).drop 1))) := by
    intro i a hm ha hne hal
    have hd : v.drop i = [] := List.drop_of_length_le (by omega)
    have hne : a ≠ [] := by
      rcases hne with h | h
      · exact h
      · rw [hd] at h; cases h
    have hal : 1 ≤ a.length := List.length_pos_iff.mpr hne
    rw [hd, unf]
    refine Ev.step (fun _ => spec_l03Unfold.l1.eq_2 ..) (ev_neg (by rw [bs_size]; omega) (ev_pos (by rw [ints_length]; omega) (ev_bindc rfl (ev_pos (by omega) (ev_pos (by rw [bs_size]; omega) ?_)))))
    have e : (ints a).drop 1 = ints (a.drop 1) := by simp [ints, List.map_drop]
    rw [e, strOf_ints]
    refine Ev.bind (safeS_ev (a.drop 1) (by simp; omega)) (ev_some ?_)
    rw [bs_extract]; simp
  intro m
  induction m with
  | zero => intro i a hm hi ha hne; exact hend i a (by omega) ha hne (by omega)
  | succ m ih =>
    intro i a hm hi ha hne
    by_cases hlt : i < v.length
    · have hc := (v[i]).toNat_lt
      have e13 : (v[i]).toNat = 13 ↔ v[i] = 13 := by rw [← UInt8.toNat_inj]; rfl
      refine Ev.step (fun _ => spec_l03Unfold.l1.eq_2 ..) (ev_pos (by rw [bs_size]; omega) (ev_pos (by omega) ?_))
      have w1 : wrap64 ((i : Int) + 1) = ((i + 1 : Nat) : Int) := w64n (by omega)
      have w2 : wrap64 ((i : Int) + 2) = ((i + 2 : Nat) : Int) := by rw [w64 (by omega) (by omega)]; rfl
      rw [bt_bs v i hlt, w1, w2, bs_size, ints_length]
      by_cases h1 : (v[i]).toNat = 13
      · have hne : a ≠ [] := by
          rcases hne with h | h
          · exact h
          · rw [drop_cons v i hlt, List.head?_cons] at h; injection h with h; rw [h] at h1; exact absurd h1 (by decide)
        refine ev_pos (by omega) ?_
        rw [drop_cons v i hlt, unf, if_pos (e13.mp h1)]
        by_cases h2 : i + 2 < v.length
        · have hd1 : (v.drop (i + 1)).head? = some v[i + 1] := by rw [drop_cons v (i + 1) (by omega)]; rfl
          have hd2 : (v.drop (i + 1)).tail.head? = some v[i + 2] := by rw [List.tail_drop, drop_cons v (i + 1 + 1) (by omega)]; rfl
          have e10 : (v[i + 1]).toNat = 10 ↔ v[i + 1] = 10 := by rw [← UInt8.toNat_inj]; rfl
          have e32 : (v[i + 2]).toNat = 32 ↔ v[i + 2] = 32 := by rw [← UInt8.toNat_inj]; rfl
          refine ev_neg (by omega) (ev_pos (by omega) (ev_pos (by omega) ?_))
          rw [bt_bs v (i + 1) (by omega), bt_bs v (i + 2) h2]
          by_cases h3 : (v[i + 1]).toNat = 10
          · refine ev_pos (by omega) (ev_pos (by omega) (ev_pos (by omega) ?_))
            by_cases h4 : (v[i + 2]).toNat = 32
            · rw [if_pos ⟨by rw [hd1, e10.mp h3], by rw [hd2, e32.mp h4]⟩]
              refine ev_pos (by omega) ?_
              rw [w64n (by omega), List.tail_drop]
              exact ih (i + 1 + 1) a (by omega) (by omega) (by omega) (Or.inl hne)
            · rw [if_neg (by rw [hd2]; rintro ⟨_, x⟩; injection x with x; exact h4 (e32.mpr x))]
              exact ev_neg (by omega) (ev_some rfl)
          · rw [if_neg (by rw [hd1]; rintro ⟨x, _⟩; injection x with x; exact h3 (e10.mpr x))]
            exact ev_neg (by omega) (ev_some rfl)
        · rw [if_neg (by
            rintro ⟨_, x⟩
            rw [List.tail_drop, List.drop_of_length_le (by omega)] at x; cases x)]
          exact ev_pos (by omega) (ev_some rfl)
      · refine ev_neg (by omega) (ev_pos (by omega) ?_)
        have e : ints a ++ [((v[i]).toNat : Int)] = ints (a ++ [v[i]]) := by simp [ints]
        rw [e]
        refine ev_to ?_ (ih (i + 1) (a ++ [v[i]]) (by omega) (by omega) (by simp; omega) (Or.inl (by simp)))
        rw [drop_cons v i hlt, unf, if_neg (fun x => h1 (e13.mpr x))]
        cases unf (v.drop (i + 1)) with
        | none => rfl
        | some u => simp
    · exact hend i a (by omega) ha hne (by omega)
/-- The reference's way: a field's text taken apart. -/
theorem unfS_ev (t : Bytes) (ht : t.length ≤ 1048576) : ∃ x, Ev (fun k => spec_l03Unfold.f k (bs t)) x ∧ (match unfd t with | none => x.2.2 = false | some q => x = (bs q.1, bs q.2, true)) := by
  have bad : ∀ K : Nat, Ev (fun k => spec_l03Unfold.j2 k (bs t) (K : Int) true) ((⟨#[]⟩ : ByteArray), (⟨#[]⟩ : ByteArray), false) := fun K => Ev.step (fun _ => spec_l03Unfold.j2.eq_2 ..) (ev_pos rfl (ev_some rfl))
  have hlen : (colA t).length + (colB t).length = t.length := by rw [← List.length_append, col_parts]
  -- what is done at the colon, or at the end
  suffices hJ : ∃ x, Ev (fun k => spec_l03Unfold.j1 k (bs t) ((colA t).length : Int)) x ∧ (match unfd t with | none => x.2.2 = false | some q => x = (bs q.1, bs q.2, true)) by
    obtain ⟨x, h1, h2⟩ := hJ
    refine ⟨x, ?_, h2⟩
    have loop : ∀ (m i : Nat), i + m = (colA t).length → Ev (fun k => spec_l03Unfold.l0 k (bs t) i) x := by
      intro m
      induction m with
      | zero =>
        intro i hi
        rcases colB_form t with hb | ⟨r, hb⟩
        · have hz : (colB t).length = 0 := by rw [hb]; rfl
          refine Ev.step (fun _ => spec_l03Unfold.l0.eq_2 ..) (ev_neg (by rw [bs_size]; omega) ?_)
          rw [show i = (colA t).length by omega]; exact h1
        · have hz : 1 ≤ (colB t).length := by rw [hb]; simp
          have hlt : i < t.length := by omega
          have he : t[i] = 58 := by
            have : t[i]? = some 58 := by
              rw [← col_parts t, show i = (colA t).length by omega, List.getElem?_append_right (Nat.le_refl _), Nat.sub_self, hb]; rfl
            rw [List.getElem?_eq_getElem hlt] at this; exact Option.some.inj this
          refine Ev.step (fun _ => spec_l03Unfold.l0.eq_2 ..) (ev_pos (by rw [bs_size]; omega) (ev_pos (by omega) ?_))
          rw [bt_bs t i hlt, he]
          refine ev_pos rfl ?_
          rw [show i = (colA t).length by omega]; exact h1
      | succ m ih =>
        intro i hi
        have hlt : i < t.length := by omega
        have hne : (t[i]).toNat ≠ 58 := by
          have hm : t[i] ∈ colA t := by
            have : (colA t)[i]? = some t[i] := by
              have h3 := List.getElem?_append_left (l₁ := colA t) (l₂ := colB t) (i := i) (by omega)
              rw [col_parts, List.getElem?_eq_getElem hlt] at h3
              exact h3.symm
            exact List.mem_of_getElem? this
          exact fun e => mem_colA hm (by rw [← UInt8.toNat_inj]; exact e)
        refine Ev.step (fun _ => spec_l03Unfold.l0.eq_2 ..) (ev_pos (by rw [bs_size]; omega) (ev_pos (by omega) ?_))
        rw [bt_bs t i hlt, w64n (by omega)]
        exact ev_neg (by omega) (ih (i + 1) (by omega))
    unfold spec_l03Unfold.f
    exact loop (colA t).length 0 (by omega)
  have w1 : wrap64 (((colA t).length : Int) + 1) = (((colA t).length + 1 : Nat) : Int) := w64n (by omega)
  have w3 : wrap64 (((colA t).length : Int) + 3) = (((colA t).length + 3 : Nat) : Int) := by rw [w64 (by omega) (by omega)]; rfl
  have none_of : fldOk t = false → unfd t = none := fun h => by unfold unfd; rw [if_neg (by rw [h]; simp)]
  by_cases h1 : 3 ≤ (colB t).length
  · have w2 : wrap64 ((t.length : Int) - 2) = ((t.length - 2 : Nat) : Int) := by rw [w64 (by omega) (by omega)]; omega
    have hsuf : ((bs t).extract ((t.length - 2 : Nat) : Int).toNat t.length).toList = ([13, 10] : List UInt8) ↔ CRLF.isSuffixOf t = true := by
      rw [Int.toNat_natCast, bs_extract, bs_toList, List.take_of_length_le (Nat.le_refl _), List.isSuffixOf_iff_suffix, List.suffix_iff_eq_drop]
      exact ⟨fun h => h.symm, fun h => h.symm⟩
    have pre : ∀ x, (CRLF.isSuffixOf t = true → Ev (fun k => (spec_HeaderNameOK.f k ((bs t).extract 0 ((colA t).length : Int).toNat)).bind fun t105 => if t105 = true then (if 0 ≤ (((colA t).length + 1 : Nat) : Int) then (if (((colA t).length + 1 : Nat) : Int) < (t.length : Int) then (spec_l03Unfold.j2 k (bs t) ((colA t).length : Int) ((bt (bs t) (((colA t).length + 1 : Nat) : Int)) != 32)) else none) else none) else (spec_l03Unfold.j2 k (bs t) ((colA t).length : Int) true)) x) → CRLF.isSuffixOf t = true → Ev (fun k => spec_l03Unfold.j1 k (bs t) ((colA t).length : Int)) x := by
      intro x H hs
      refine Ev.step (fun _ => spec_l03Unfold.j1.eq_2 ..) ?_
      rw [w3, bs_size, w2, w1]
      exact ev_neg (by omega) (ev_pos (by omega) (ev_pos (by omega) (ev_pos (hsuf.mpr hs) (ev_pos (by omega) (ev_pos (by omega) (H hs))))))
    by_cases h2 : CRLF.isSuffixOf t = true
    · have hx : (bs t).extract 0 ((colA t).length : Int).toNat = bs (colA t) := by
        rw [Int.toNat_natCast, bs_extract, List.drop_zero]
        congr 1
        have h3 := List.take_left (l₁ := colA t) (l₂ := colB t)
        rw [col_parts] at h3; exact h3
      cases h3 : nameOk (colA t) with
      | false =>
        have : fldOk t = false := by unfold fldOk; rw [h3]; simp
        rw [none_of this]
        refine ⟨((⟨#[]⟩ : ByteArray), (⟨#[]⟩ : ByteArray), false), pre _ (fun _ => ?_) h2, rfl⟩
        rw [hx]
        exact Ev.bind (hnameS_ev (colA t) (by omega)) (ev_neg (by rw [h3]; simp) (bad _))
      | true =>
        have hat : ((colB t).drop 1).head? = some (t[(colA t).length + 1]'(by omega)) := by
          rw [List.head?_drop]
          have h4 := List.getElem?_append_right (l₁ := colA t) (l₂ := colB t) (i := (colA t).length + 1) (by omega)
          rw [col_parts, List.getElem?_eq_getElem (by omega), show (colA t).length + 1 - (colA t).length = 1 by omega] at h4
          exact h4.symm
        have e32 : (t[(colA t).length + 1]'(by omega)).toNat = 32 ↔ t[(colA t).length + 1]'(by omega) = 32 := by rw [← UInt8.toNat_inj]; rfl
        by_cases h4 : (t[(colA t).length + 1]'(by omega)).toNat = 32
        · have h5 : 4 ≤ (colB t).length := by
            apply Nat.lt_of_le_of_ne h1
            intro e
            rw [List.isSuffixOf_iff_suffix, List.suffix_iff_eq_drop] at h2
            have h6 := congrArg List.head? h2
            rw [List.head?_drop] at h6
            have h7 : t[t.length - CRLF.length]? = some 32 := by
              rw [show t.length - CRLF.length = (colA t).length + 1 by simp; omega, List.getElem?_eq_getElem (by omega), e32.mp h4]
            rw [h7] at h6; cases h6
          have hok : fldOk t = true := by
            unfold fldOk
            rw [decide_eq_true h5, h3, h2, hat, e32.mp h4]; rfl
          have hrest : (bs t).extract (((colA t).length + 1 : Nat) : Int).toNat ((t.length - 2 : Nat) : Int).toNat = bs (32 :: valV t) := by
            rw [Int.toNat_natCast, Int.toNat_natCast, bs_extract]
            congr 1
            have e1 : (t.take (t.length - 2)).drop ((colA t).length + 1) = (t.drop ((colA t).length + 1)).take ((colB t).length - 3) := by
              rw [List.drop_take]; congr 1; omega
            have e2 : t.drop ((colA t).length + 1) = (colB t).drop 1 := by
              have h8 := List.drop_append (l₁ := colA t) (l₂ := colB t) (i := (colA t).length + 1)
              rw [col_parts] at h8
              rw [h8, List.drop_of_length_le (by omega), List.nil_append, show (colA t).length + 1 - (colA t).length = 1 by omega]
            have e3 : (colB t).drop 1 = 32 :: (colB t).drop 2 := by
              rw [drop_cons (colB t) 1 (by omega)]
              have h9 := hat
              rw [drop_cons (colB t) 1 (by omega), List.head?_cons] at h9
              rw [Option.some.inj h9, e32.mp h4]
            rw [e1, e2, e3]
            unfold valV
            rw [show (colB t).length - 3 = (colB t).length - 4 + 1 by omega, List.take_succ_cons]
          have hL := unfS_l1 t (32 :: valV t) (colA t).length (by omega) ht (by unfold valV; simp; omega) (32 :: valV t).length 0 [] (by omega) (by omega) (by simp) (Or.inr rfl)
          rw [List.drop_zero, unf, if_neg (by decide)] at hL
          have go : ∀ x, Ev (fun k => spec_l03Unfold.l1 k (bs t) ((colA t).length : Int) (bs (32 :: valV t)) (ints []) (0 : Nat)) x → Ev (fun k => spec_l03Unfold.j1 k (bs t) ((colA t).length : Int)) x := by
            intro x H
            refine pre x (fun _ => ?_) h2
            rw [hx]
            refine Ev.bind (hnameS_ev (colA t) (by omega)) (ev_pos h3 (ev_pos (by omega) (ev_pos (by omega) ?_)))
            rw [bt_bs t _ (by omega), show (((t[(colA t).length + 1]'(by omega)).toNat : Int) != 32) = false from by simp; omega]
            refine Ev.step (fun _ => spec_l03Unfold.j2.eq_2 ..) (ev_neg (by simp) ?_)
            rw [w1, bs_size, w2]
            refine ev_pos (by omega) (ev_pos (by omega) (ev_pos (by omega) ?_))
            rw [hrest]; exact H
          refine ⟨_, go _ hL, ?_⟩
          unfold unfd
          rw [if_pos hok]
          cases hu : unf (valV t) with
          | none => rfl
          | some u =>
            simp only [Option.map_some, Option.bind_some, List.nil_append, List.drop_succ_cons, List.drop_zero]
            have ht2 : t.take (colA t).length = colA t := by
              have h3 := List.take_left (l₁ := colA t) (l₂ := colB t)
              rw [col_parts] at h3; exact h3
            cases hs : safeB u with
            | false => rw [if_neg (by simp)]
            | true => rw [if_pos rfl, ht2]
        · have : fldOk t = false := by
            have hq : ¬ (((colB t).drop 1).head? = some 32) := by rw [hat]; intro x; injection x with x; exact h4 (e32.mpr x)
            unfold fldOk
            rw [decide_eq_false hq]; simp
          rw [none_of this]
          refine ⟨((⟨#[]⟩ : ByteArray), (⟨#[]⟩ : ByteArray), false), pre _ (fun _ => ?_) h2, rfl⟩
          rw [hx]
          refine Ev.bind (hnameS_ev (colA t) (by omega)) (ev_pos h3 (ev_pos (by omega) (ev_pos (by omega) ?_)))
          rw [bt_bs t _ (by omega), show (((t[(colA t).length + 1]'(by omega)).toNat : Int) != 32) = true from by simp; omega]
          exact bad _
    · have : fldOk t = false := by unfold fldOk; rw [show CRLF.isSuffixOf t = false from Bool.eq_false_iff.mpr h2]; simp
      rw [none_of this]
      refine ⟨((⟨#[]⟩ : ByteArray), (⟨#[]⟩ : ByteArray), false), Ev.step (fun _ => spec_l03Unfold.j1.eq_2 ..) ?_, rfl⟩
      rw [w3, bs_size, w2]
      exact ev_neg (by omega) (ev_pos (by omega) (ev_pos (by omega) (ev_neg (fun x => h2 (hsuf.mp x)) (bad _))))
  · have : fldOk t = false := by unfold fldOk; rw [decide_eq_false (by omega)]; simp
    rw [none_of this]
    refine ⟨((⟨#[]⟩ : ByteArray), (⟨#[]⟩ : ByteArray), false), Ev.step (fun _ => spec_l03Unfold.j1.eq_2 ..) ?_, rfl⟩
    rw [w3, bs_size]
    exact ev_pos (by omega) (bad _)
/-! A field's text, the program's way. -/
theorem cutPre (l : Bytes) (c : UInt8) (hl : l.length ≤ 1048576) : strings_CutPrefix.f (bs l) (bs [c]) = some (if l.head? = some c then (bs l.tail, true) else (bs l, false)) := by
  unfold strings_CutPrefix.f stringslite_CutPrefix.f stringslite_HasPrefix.f
  rw [bs_size, bs_size]
  cases l with
  | nil =>
    rw [if_neg (by simp)]; rfl
  | cons d r =>
    have h1 : ((d :: r).length : Int) ≥ ([c].length : Int) := by simp only [List.length_cons, List.length_nil]; omega
    rw [if_pos h1, if_pos (by omega), if_pos h1, Int.toNat_natCast]
    have e : ((bs (d :: r)).extract 0 [c].length).toList = [d] := by rw [bs_extract, bs_toList]; rfl
    have e2 : (bs (d :: r)).extract [c].length (d :: r).length = bs r := by rw [bs_extract, List.take_of_length_le (Nat.le_refl _)]; rfl
    rw [e, e2, bs_toList]
    simp only [Option.bind_some]
    by_cases hc : d = c
    · subst hc
      rw [if_pos (show (d :: r).head? = some d from rfl), if_pos (by simp), if_pos (by omega), if_pos h1]; rfl
    · have hb : ([d] == [c]) = false := by simpa using hc
      rw [hb, if_neg (show ¬ ((d :: r).head? = some c) from by intro x; injection x with x; exact hc x), if_neg (by simp)]; rfl
theorem cutSuf (l s : Bytes) (hl : l.length ≤ 1048576) (hs : s.length ≤ 100) : strings_CutSuffix.f (bs l) (bs s) = some (if s.isSuffixOf l = true then (bs (l.take (l.length - s.length)), true) else (bs l, false)) := by
  unfold strings_CutSuffix.f stringslite_CutSuffix.f
  rw [hasSuf l s hl hs, bs_size, bs_size]
  simp only [Option.bind_some]
  cases h : s.isSuffixOf l with
  | false => rw [if_neg (by simp), if_neg (by simp)]; rfl
  | true =>
    have hle := (List.isSuffixOf_iff_suffix.mp h).length_le
    have e : wrap64 ((l.length : Int) - (s.length : Int)) = ((l.length - s.length : Nat) : Int) := by rw [w64 (by omega) (by omega)]; omega
    rw [if_pos rfl, if_pos rfl, e, if_pos (by omega), if_pos (by omega), Int.toNat_natCast, bs_extract, List.drop_zero]; rfl
theorem cutF (l : Bytes) (hl : l.length ≤ 1048576) : strings_Cut.f (bs l) (bs [58]) = some (if colB l = [] then (bs l, bs [], false) else (bs (colA l), bs (colB l).tail, true)) := by
  unfold strings_Cut.f
  rw [if_pos (by rw [bs_size]; omega), bs_data, bs_data, col_cut]
  split <;> rfl
theorem repF (v : Bytes) (hv : v.length ≤ 1048576) : strings_ReplaceAll.f (bs v) (bs FOLD) (bs [32]) = some (bs (Lib.replaceAll v FOLD [32])) := by
  unfold strings_ReplaceAll.f
  rw [if_pos ⟨by rw [bs_size]; omega, by decide, by decide⟩]; rfl
theorem rep_len : ∀ (n : Nat) (v : Bytes), v.length ≤ n → (Lib.replaceAll v FOLD [32]).length ≤ v.length := by
  intro n
  induction n with
  | zero =>
    intro v hv
    obtain rfl : v = [] := List.length_eq_zero_iff.mp (by omega)
    rw [replaceAll_miss (by rfl)]; exact Nat.le_refl _
  | succ n ih =>
    intro v hv
    rcases idx_cases FOLD (by decide) v with ⟨e, hf⟩ | ⟨p, r, rfl, e2, hf⟩
    · rw [replaceAll_miss e]; exact Nat.le_refl _
    · rw [replaceAll_hit (by decide) (by decide) e2]
      have hr := ih r (by simp at hv; omega)
      simp; omega
theorem not_vis {l : Bytes} (h : 13 ∈ l) : safeB l = false := by
  have hs := safeW_split l.length l (Nat.le_refl _)
  unfold safeB
  have : safeW 0 l = false := by
    cases hq : safeW 0 l with
    | false => rfl
    | true =>
      have := List.all_eq_true.mp (hs.mp hq).1 13 h
      simp [visB] at this
  rw [this]; simp
theorem unfI_ev (t : Bytes) (ht : t.length ≤ 1048576) : Ev (fun k => impl_unfold.f k (bs t)) (match unfd t with | none => ((⟨#[]⟩ : ByteArray), (⟨#[]⟩ : ByteArray), false) | some q => (bs q.1, bs q.2, true)) := by
  have hlen : (colA t).length + (colB t).length = t.length := by rw [← List.length_append, col_parts]
  have none_of : fldOk t = false → unfd t = none := fun h => by unfold unfd; rw [if_neg (by rw [h]; simp)]
  unfold impl_unfold.f
  refine ev_bindc (cutF t ht) ?_
  by_cases hb : colB t = []
  · have : fldOk t = false := by unfold fldOk; rw [hb]; simp
    rw [none_of this, if_pos hb]
    refine ev_bindc (cutPre [] 32 (by simp)) ?_
    rw [if_neg (by simp)]
    refine ev_bindc (cutSuf [] CRLF (by simp) (by decide)) ?_
    rw [if_neg (by decide)]
    exact ev_bindc (repF [] (by simp)) (ev_neg (by simp) (ev_some rfl))
  · rw [if_neg hb]
    have hbt : (colB t).tail.length ≤ 1048576 := by simp; omega
    have hb1 : 1 ≤ (colB t).length := List.length_pos_iff.mpr hb
    have htl : (colB t).tail = (colB t).drop 1 := by cases colB t <;> rfl
    refine ev_bindc (cutPre (colB t).tail 32 hbt) ?_
    -- the part behind the colon, and what is left of it
    have step : ∀ (X : Bytes) (p : Bool) (r : ByteArray × ByteArray × Bool), X.length ≤ 1048576 → (p = false → r = ((⟨#[]⟩ : ByteArray), (⟨#[]⟩ : ByteArray), false)) →
        (p = true → CRLF.isSuffixOf X = false → r = ((⟨#[]⟩ : ByteArray), (⟨#[]⟩ : ByteArray), false)) →
        (p = true → CRLF.isSuffixOf X = true → Ev (fun k => (impl_HeaderNameOK.f k (bs (colA t))).bind fun t211 => if t211 = true then ((impl_SafeValue.f k (bs (Lib.replaceAll (X.take (X.length - 2)) FOLD [32]))).bind fun t212 => if t212 = true then (some (bs (colA t), bs (Lib.replaceAll (X.take (X.length - 2)) FOLD [32]), true)) else (some ((⟨#[]⟩ : ByteArray), (⟨#[]⟩ : ByteArray), false))) else (some ((⟨#[]⟩ : ByteArray), (⟨#[]⟩ : ByteArray), false))) r) →
        Ev (fun k => (strings_CutSuffix.f (bs X) (⟨#[13, 10]⟩ : ByteArray)).bind fun bt208 => ((strings_ReplaceAll.f bt208.1 (⟨#[13, 10, 32]⟩ : ByteArray) (⟨#[32]⟩ : ByteArray)).bind fun t210 => (if true = true then (if p = true then (if bt208.2 = true then ((impl_HeaderNameOK.f k (bs (colA t))).bind fun t211 => (if t211 = true then ((impl_SafeValue.f k t210).bind fun t212 => (if t212 = true then (some (bs (colA t), t210, true)) else (some ((⟨#[]⟩ : ByteArray), (⟨#[]⟩ : ByteArray), false)))) else (some ((⟨#[]⟩ : ByteArray), (⟨#[]⟩ : ByteArray), false)))) else (some ((⟨#[]⟩ : ByteArray), (⟨#[]⟩ : ByteArray), false))) else (some ((⟨#[]⟩ : ByteArray), (⟨#[]⟩ : ByteArray), false))) else (some ((⟨#[]⟩ : ByteArray), (⟨#[]⟩ : ByteArray), false))))) r := by
      intro X p r hX h1 h2 h3
      refine ev_bindc (cutSuf X CRLF hX (by decide)) ?_
      cases hs : CRLF.isSuffixOf X with
      | false =>
        rw [if_neg (by simp)]
        refine ev_bindc (repF X hX) (ev_pos rfl ?_)
        cases p with
        | false => exact ev_neg (by simp) (ev_some (h1 rfl).symm)
        | true => exact ev_pos rfl (ev_neg (by simp) (ev_some (h2 rfl hs).symm))
      | true =>
        rw [if_pos rfl]
        refine ev_bindc (repF (X.take (X.length - CRLF.length)) (by rw [List.length_take]; omega)) (ev_pos rfl ?_)
        cases p with
        | false => exact ev_neg (by simp) (ev_some (h1 rfl).symm)
        | true => exact ev_pos rfl (ev_pos rfl (h3 rfl hs))
    by_cases hp : (colB t).tail.head? = some 32
    · rw [if_pos hp]
      have hX : (colB t).tail.tail = (colB t).drop 2 := by rw [htl, List.tail_drop]
      rw [hX]
      have hsufX : CRLF.isSuffixOf ((colB t).drop 2) = true ↔ (4 ≤ (colB t).length ∧ CRLF.isSuffixOf t = true) := by
        have hXt : (colB t).drop 2 <:+ t := (List.drop_suffix 2 (colB t)).trans ⟨colA t, col_parts t⟩
        rw [List.isSuffixOf_iff_suffix, List.isSuffixOf_iff_suffix]
        constructor
        · intro h
          have := h.length_le
          simp at this
          exact ⟨by omega, h.trans hXt⟩
        · rintro ⟨h1, h2⟩
          exact List.suffix_of_suffix_length_le h2 hXt (by simp; omega)
      refine step ((colB t).drop 2) true _ (by simp; omega) (fun h => by cases h) (fun _ h => ?_) (fun _ h => ?_)
      · have : fldOk t = false := by
          unfold fldOk
          by_cases h4 : 4 ≤ (colB t).length
          · have : CRLF.isSuffixOf t = false := by
              cases hq : CRLF.isSuffixOf t with
              | false => rfl
              | true => rw [hsufX.mpr ⟨h4, hq⟩] at h; cases h
            rw [this]; simp
          · rw [decide_eq_false h4]; simp
        rw [none_of this]
      · obtain ⟨h4, h5⟩ := hsufX.mp h
        have hV : ((colB t).drop 2).take (((colB t).drop 2).length - 2) = valV t := by unfold valV; congr 1; simp; omega
        rw [hV]
        have hvl : (valV t).length ≤ 1048576 := by unfold valV; simp; omega
        have hR := rep_len _ (valV t) (Nat.le_refl _)
        have hU := unf_replace _ (valV t) (Nat.le_refl _)
        refine Ev.bind (hnameI_ev (colA t) (by omega)) ?_
        cases h6 : nameOk (colA t) with
        | false =>
          have : fldOk t = false := by unfold fldOk; rw [h6]; simp
          rw [none_of this]; exact ev_neg (by simp) (ev_some rfl)
        | true =>
          have hok : fldOk t = true := by
            unfold fldOk
            rw [htl] at hp
            rw [decide_eq_true h4, decide_eq_true hp, h5, h6]; rfl
          refine ev_pos rfl (Ev.bind (safeI_ev _ (by omega)) ?_)
          unfold unfd
          rw [if_pos hok]
          cases hu : unf (valV t) with
          | none =>
            rw [not_vis (hU.2 hu)]
            exact ev_neg (by simp) (ev_some rfl)
          | some u =>
            rw [hU.1 u hu]
            rw [Option.bind_some]
            cases hs : safeB u with
            | false => exact ev_neg (by simp) (ev_some rfl)
            | true => exact ev_pos rfl (ev_some rfl)
    · rw [if_neg hp]
      have : fldOk t = false := by
        unfold fldOk
        rw [htl] at hp
        rw [decide_eq_false hp]; simp
      rw [none_of this]
      exact step (colB t).tail false _ hbt (fun _ => rfl) (fun h => by cases h) (fun h => by cases h)
end Go.Proofs.YtifkmkiljpeaaabDoor.PFnExactOverLine
