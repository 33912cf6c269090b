/- A mail's text taken apart, both ways. Plain. -/
import Derived.Test.YtifkmkiljpeaaabDoorPFnExactOverLinex3
import Derived.Test.YtifkmkiljpeaaabDoorLOverU
set_option linter.unusedVariables false
set_option linter.unusedSimpArgs false
namespace Go.Proofs.YtifkmkiljpeaaabDoor.PFnExactOverLine
open Go.RowKit Go.Proofs.YtifkmkiljpeaaabDoorW.PrintWords
/-! A mail's text taken apart, both ways. -/
def flS (fs : Flds) : List S50 := fs.map fun x => (⟨bs x.1, bs x.2⟩ : S50)
theorem flS_snoc (fs : Flds) (x : Bytes × Bytes) : flS fs ++ [(⟨bs x.1, bs x.2⟩ : S50)] = flS (fs ++ [x]) := by simp [flS]
theorem flS_len (fs : Flds) : (flS fs).length = fs.length := by simp [flS]
abbrev NOM : List S50 × ByteArray × Bool := (([] : List S50), (⟨#[]⟩ : ByteArray), false)
theorem pre_take (s p : Bytes) : p.isPrefixOf s = true ↔ s.take p.length = p := by
  rw [List.isPrefixOf_iff_prefix, List.prefix_iff_eq_take]
  exact ⟨fun h => h.symm, fun h => h.symm⟩
theorem crlf_at (t : Bytes) (p : Nat) (hp : p + 2 ≤ t.length) : ((bs t).extract (p : Int).toNat ((p + 2 : Nat) : Int).toNat).toList = ([13, 10] : List UInt8) ↔ CRLF.isPrefixOf (t.drop p) = true := by
  rw [Int.toNat_natCast, Int.toNat_natCast, bs_extract, bs_toList, List.drop_take, pre_take, show p + 2 - p = CRLF.length by simp]
theorem l1S (t : Bytes) (ht : t.length ≤ 1048576) (a : Nat) (F : List S50) (B : ByteArray) (X : List S50 × ByteArray × Bool) : ∀ (m p : Nat), t.length - p ≤ m → p ≤ t.length →
    (∀ f r, fEnd (t.drop p) = some (f, r) → Ev (fun k => spec_l07Parse.j3 k (bs t) (a : Int) ((p + f.length - 2 : Nat) : Int) F B) X) →
    (fEnd (t.drop p) = none → ∀ q : Nat, t.length < q + 2 → q ≤ t.length → Ev (fun k => spec_l07Parse.j3 k (bs t) (a : Int) (q : Int) F B) X) →
    Ev (fun k => spec_l07Parse.l1 k (bs t) (a : Int) (p : Int) F B) X := by
  intro m
  induction m with
  | zero =>
    intro p hm hp h1 h2
    refine Ev.step (fun _ => spec_l07Parse.l1.eq_2 ..) (ev_neg (by rw [bs_size, w64n (by omega)]; omega) ?_)
    exact h2 (by rw [List.drop_of_length_le (by omega)]; rfl) p (by omega) hp
  | succ m ih =>
    intro p hm hp h1 h2
    have w1 : wrap64 ((p : Int) + 1) = ((p + 1 : Nat) : Int) := w64n (by omega)
    have w2 : wrap64 ((p : Int) + 2) = ((p + 2 : Nat) : Int) := by rw [w64 (by omega) (by omega)]; rfl
    refine Ev.step (fun _ => spec_l07Parse.l1.eq_2 ..) ?_
    rw [w1, w2, bs_size]
    by_cases hlt : p + 1 < t.length
    · refine ev_pos (by omega) (ev_pos (by omega) (ev_pos (by omega) (ev_pos (by omega) ?_)))
      have hd : t.drop p = t[p] :: t.drop (p + 1) := drop_cons t p (by omega)
      -- one byte on
      have next : ¬ (t[p] = 13 ∧ (t.drop (p + 1)).head? = some 10 ∧ (t.drop (p + 1)).tail.head? ≠ some 32) → Ev (fun k => spec_l07Parse.l1 k (bs t) (a : Int) ((p + 1 : Nat) : Int) F B) X := by
        intro hn
        have he : fEnd (t.drop p) = (fEnd (t.drop (p + 1))).map fun q => (t[p] :: q.1, q.2) := by rw [hd, fEnd, if_neg hn]
        refine ih (p + 1) (by omega) (by omega) (fun f r hf => ?_) (fun hf q hq hq2 => h2 (by rw [he, hf]; rfl) q hq hq2)
        have := h1 (t[p] :: f) r (by rw [he, hf]; rfl)
        rwa [show p + (t[p] :: f).length - 2 = p + 1 + f.length - 2 by simp; omega] at this
      by_cases hc : CRLF.isPrefixOf (t.drop p) = true
      · refine ev_pos ((crlf_at t p (by omega)).mpr hc) ?_
        obtain ⟨r, hr⟩ := List.isPrefixOf_iff_prefix.mp hc
        have hr' : t.drop p = 13 :: (10 :: r) := hr.symm
        have h3 : t[p] = 13 ∧ t.drop (p + 1) = 10 :: r := by rw [hd] at hr'; injection hr' with x y; exact ⟨x, y⟩
        have hr2 : t.drop (p + 2) = r := by rw [← List.drop_drop (i := 1), h3.2] <;> rfl
        have stop : (t.drop (p + 1)).tail.head? ≠ some 32 → Ev (fun k => spec_l07Parse.j3 k (bs t) (a : Int) (p : Int) F B) X := by
          intro hq
          have := h1 CRLF r (by rw [hd, fEnd, if_pos ⟨h3.1, by rw [h3.2]; rfl, hq⟩, h3.2]; rfl)
          rwa [show p + CRLF.length - 2 = p by simp] at this
        by_cases he : p + 2 = t.length
        · refine ev_pos (by omega) (stop ?_)
          rw [List.tail_drop, List.drop_of_length_le (by omega)]; simp
        · refine ev_neg (by omega) (ev_pos (by omega) (ev_pos (by omega) ?_))
          have hh : (t.drop (p + 1)).tail.head? = some t[p + 2] := by rw [List.tail_drop, drop_cons t (p + 1 + 1) (by omega)]; rfl
          have e32 : (t[p + 2]).toNat = 32 ↔ t[p + 2] = 32 := by rw [← UInt8.toNat_inj]; rfl
          rw [bt_bs t (p + 2) (by omega)]
          by_cases h4 : (t[p + 2]).toNat = 32
          · exact ev_neg (by omega) (next (by rw [hh]; rintro ⟨_, _, x⟩; exact x (by rw [e32.mp h4])))
          · exact ev_pos (by omega) (stop (by rw [hh]; intro x; injection x with x; exact h4 (e32.mpr x)))
      · refine ev_neg (fun x => hc ((crlf_at t p (by omega)).mp x)) (next ?_)
        rintro ⟨x1, x2, _⟩
        refine crlf_not (c := t[p]) (r := t.drop (p + 1)) ?_ ⟨x1, x2⟩
        rw [← hd]; exact Bool.eq_false_iff.mpr hc
    · refine ev_neg (by omega) (h2 ?_ p (by omega) hp)
      by_cases hp2 : p < t.length
      · rw [drop_cons t p hp2, List.drop_of_length_le (by omega)]
        unfold fEnd
        rw [if_neg (by simp)]; rfl
      · rw [List.drop_of_length_le (by omega)]; rfl
theorem parS_l0 (t : Bytes) (ht : t.length ≤ 1048576) : ∀ (n a : Nat) (fs : Flds), t.length - a < n → a ≤ t.length → fs.length ≤ 40 →
    ∃ x, Ev (fun k => spec_l07Parse.l0 k (bs t) (a : Int) (flS fs) (⟨#[]⟩ : ByteArray)) x ∧ (match parse n (t.drop a) fs with | none => x.2.2 = false | some q => x = (flS q.1, bs q.2, true)) := by
  intro n
  induction n with
  | zero => intro a fs hn; omega
  | succ n ih =>
    intro a fs hn ha hf
    have w2 : wrap64 ((a : Int) + 2) = ((a + 2 : Nat) : Int) := by rw [w64 (by omega) (by omega)]; rfl
    unfold parse
    -- the fields' end, or a field
    have start : ∀ x, (Ev (fun k => spec_l07Parse.j1 k (bs t) (a : Int) (CRLF.isPrefixOf (t.drop a)) (flS fs) (⟨#[]⟩ : ByteArray)) x) → Ev (fun k => spec_l07Parse.l0 k (bs t) (a : Int) (flS fs) (⟨#[]⟩ : ByteArray)) x := by
      intro x H
      refine Ev.step (fun _ => spec_l07Parse.l0.eq_2 ..) ?_
      rw [w2, bs_size]
      by_cases h : a + 2 ≤ t.length
      · refine ev_pos (by omega) (ev_pos (by omega) (ev_pos (by omega) ?_))
        have e : (((bs t).extract (a : Int).toNat ((a + 2 : Nat) : Int).toNat).toList == ([13, 10] : List UInt8)) = CRLF.isPrefixOf (t.drop a) := by
          rw [Bool.eq_iff_iff, beq_iff_eq]; exact crlf_at t a h
        rw [e]; exact H
      · have e : CRLF.isPrefixOf (t.drop a) = false := by
          rw [← Bool.not_eq_true, List.isPrefixOf_iff_prefix]
          intro x; have := x.length_le; simp at this; omega
        rw [e] at H
        exact ev_neg (by omega) H
    cases hc : CRLF.isPrefixOf (t.drop a) with
    | true =>
      rw [if_pos rfl]
      have hl : a + 2 ≤ t.length := by have := (List.isPrefixOf_iff_prefix.mp hc).length_le; simp at this; omega
      refine ⟨_, start _ ?_, rfl⟩
      rw [hc]
      refine Ev.step (fun _ => spec_l07Parse.j1.eq_2 ..) (ev_pos rfl ?_)
      rw [w2, bs_size]
      refine ev_pos (by omega) (ev_pos (by omega) (ev_some ?_))
      rw [Int.toNat_natCast, bs_extract, List.take_of_length_le (Nat.le_refl _), List.drop_drop]
    | false =>
      rw [if_neg (by simp)]
      have go : ∀ x, Ev (fun k => spec_l07Parse.l1 k (bs t) (a : Int) (a : Int) (flS fs) (⟨#[]⟩ : ByteArray)) x → Ev (fun k => spec_l07Parse.l0 k (bs t) (a : Int) (flS fs) (⟨#[]⟩ : ByteArray)) x := by
        intro x H
        refine start x ?_
        rw [hc]
        exact Ev.step (fun _ => spec_l07Parse.j1.eq_2 ..) (ev_neg (by simp) H)
      cases hq : fEnd (t.drop a) with
      | none =>
        refine ⟨(flS fs, (⟨#[]⟩ : ByteArray), false), go _ (l1S t ht a (flS fs) _ _ t.length a (by omega) ha (fun f r h => by rw [hq] at h; cases h) (fun _ q h1 h2 => ?_)), rfl⟩
        refine Ev.step (fun _ => spec_l07Parse.j3.eq_2 ..) ?_
        rw [bs_size, w64 (x := (q : Int) + 2) (by omega) (by omega)]
        exact ev_pos (by omega) (ev_some rfl)
      | some q =>
        obtain ⟨f, r⟩ := q
        obtain ⟨e1, a', e2⟩ := fEnd_parts hq
        have hfl : 2 ≤ f.length := by rw [e2]; simp
        have hle : a + f.length ≤ t.length := by have := congrArg List.length e1; simp at this; omega
        have hr : t.drop (a + f.length) = r := by rw [← List.drop_drop, e1, List.drop_left]
        have hf2 : (t.take (a + f.length)).drop a = f := by rw [List.drop_take, show a + f.length - a = f.length by omega, e1, List.take_left]
        obtain ⟨x, hx1, hx2⟩ := unfS_ev f (by omega)
        -- behind the field
        have j3 : ∀ y, Ev (fun k => if x.2.2 = true then (if ((flS fs).length : Int) = 40 then (some (flS fs, (⟨#[]⟩ : ByteArray), false)) else (if (flS fs).length < 4398046511104 then (spec_l07Parse.l0 k (bs t) ((a + f.length : Nat) : Int) (flS fs ++ [(⟨x.1, x.2.1⟩ : S50)]) (⟨#[]⟩ : ByteArray)) else (none))) else (some (flS fs, (⟨#[]⟩ : ByteArray), false))) y → Ev (fun k => spec_l07Parse.l0 k (bs t) (a : Int) (flS fs) (⟨#[]⟩ : ByteArray)) y := by
          intro y H
          refine go y (l1S t ht a (flS fs) _ _ t.length a (by omega) ha (fun f' r' h => ?_) (fun h => by rw [hq] at h; cases h))
          rw [hq] at h
          injection h with h; injection h with h3 h4
          subst h3
          refine Ev.step (fun _ => spec_l07Parse.j3.eq_2 ..) ?_
          have e3 : wrap64 (((a + f.length - 2 : Nat) : Int) + 2) = ((a + f.length : Nat) : Int) := by rw [w64 (by omega) (by omega)]; omega
          rw [e3, bs_size]
          refine ev_neg (by omega) (ev_pos (by omega) (ev_pos (by omega) (ev_pos (by omega) ?_)))
          rw [Int.toNat_natCast, Int.toNat_natCast, bs_extract, hf2]
          exact Ev.bind hx1 H
        simp only [Option.bind_some]
        cases hu : unfd f with
        | none =>
          rw [hu] at hx2
          refine ⟨(flS fs, (⟨#[]⟩ : ByteArray), false), j3 _ ?_, rfl⟩
          rw [show x.2.2 = false from hx2]
          exact ev_neg (by simp) (ev_some rfl)
        | some u =>
          rw [hu] at hx2
          have hx3 : x = (bs u.1, bs u.2, true) := hx2
          subst hx3
          simp only [Option.bind_some]
          by_cases h40 : fs.length = 40
          · rw [if_pos h40]
            exact ⟨(flS fs, (⟨#[]⟩ : ByteArray), false), j3 _ (ev_pos rfl (ev_pos (by rw [flS_len]; omega) (ev_some rfl))), rfl⟩
          · rw [if_neg h40]
            obtain ⟨y, hy1, hy2⟩ := ih (a + f.length) (fs ++ [u]) (by omega) hle (by simp; omega)
            rw [hr] at hy2
            refine ⟨y, j3 y (ev_pos rfl (ev_neg (by rw [flS_len]; omega) (ev_pos (by rw [flS_len]; omega) ?_))), hy2⟩
            have e := flS_snoc fs u
            rw [e]; exact hy1
theorem parS_ev (t : Bytes) (ht : t.length ≤ 1048576) : ∃ x, Ev (fun k => spec_l07Parse.f k (bs t)) x ∧ (match parse (t.length + 1) t [] with | none => x.2.2 = false | some q => x = (flS q.1, bs q.2, true)) := by
  obtain ⟨x, h1, h2⟩ := parS_l0 t ht (t.length + 1) 0 [] (by omega) (by omega) (by simp)
  rw [List.drop_zero] at h2
  exact ⟨x, h1, h2⟩
/-! A mail's text taken apart, the program's way. -/
theorem headI (t : Bytes) (ht : t.length ≤ 1048576) : impl_headEnd.f (bs t) = some (if CRLF.isPrefixOf t = true then 0 else if Lib.index t DD < 0 then -1 else Lib.index t DD + 2) := by
  have hp : strings_HasPrefix.f (bs t) (⟨#[13, 10]⟩ : ByteArray) = some (CRLF.isPrefixOf t) := by
    unfold strings_HasPrefix.f stringslite_HasPrefix.f
    have e0 : ((⟨#[13, 10]⟩ : ByteArray).size : Int) = 2 := rfl
    rw [e0, bs_size]
    by_cases h : (t.length : Int) ≥ 2
    · rw [if_pos h, if_pos (by omega), if_pos h]
      simp only [Option.bind_some]
      congr 1
      have e2 : ((bs t).extract 0 (2 : Int).toNat).toList = t.take 2 := by rw [bs_extract, bs_toList, List.drop_zero]; rfl
      rw [e2, show (⟨#[13, 10]⟩ : ByteArray).toList = [13, 10] from bs_toList [13, 10], Bool.eq_iff_iff, beq_iff_eq]
      exact (pre_take t CRLF).symm
    · rw [if_neg h]
      simp only [Option.bind_some]
      congr 1
      symm
      rw [← Bool.not_eq_true, List.isPrefixOf_iff_prefix]
      intro x; have := x.length_le; simp at this; omega
  unfold impl_headEnd.f
  rw [hp]
  simp only [Option.bind_some]
  cases h : CRLF.isPrefixOf t with
  | true => rw [if_pos rfl, if_pos rfl]
  | false =>
    rw [if_neg (by simp), if_neg (by simp)]
    unfold strings_Index.f
    rw [if_pos (by rw [bs_size]; omega)]
    simp only [Option.bind_some]
    show (if Lib.index t DD < 0 then some (-1) else some (wrap64 (Lib.index t DD + 2))) = _
    by_cases h2 : Lib.index t DD < 0
    · rw [if_pos h2, if_pos h2]
    · rw [if_neg h2, if_neg h2]
      have := Lib.index_room t DD (by omega)
      simp only [List.length_cons, List.length_nil] at this
      rw [w64 (by omega) (by omega)]
theorem idxF2 (s : Bytes) (hs : s.length ≤ 1048576) : strings_Index.f (bs s) (⟨#[13, 10]⟩ : ByteArray) = some (Lib.index s CRLF) := by
  unfold strings_Index.f
  rw [if_pos (by rw [bs_size]; omega)]; rfl
theorem suf_hit {s : Bytes} (h : CRLF.isSuffixOf s = true) : ∃ p r, s = p ++ (CRLF ++ r) ∧ Lib.index s CRLF = p.length ∧ Free CRLF p (CRLF ++ r) := by
  rcases idx_cases CRLF (by decide) s with ⟨e, hf⟩ | hh
  · exfalso
    obtain ⟨a, ha⟩ := List.isSuffixOf_iff_suffix.mp h
    have := Free.before hf (a := a) (c := []) (by rw [List.append_nil, List.append_nil]; exact ha.symm)
    have h2 := congrArg List.length ha
    simp at h2; omega
  · exact hh
theorem suf_drop {s : Bytes} (h : CRLF.isSuffixOf s = true) {n : Nat} (hn : n < s.length) (hb : s[n] = 32) : CRLF.isSuffixOf (s.drop n) = true := by
  rw [List.isSuffixOf_iff_suffix] at h ⊢
  by_cases h2 : 2 ≤ s.length - n
  · exact List.suffix_of_suffix_length_le h (List.drop_suffix n s) (by simp; omega)
  · exfalso
    have e := List.suffix_iff_eq_drop.mp h
    have h3 : s.length - CRLF.length + 1 = n := by have := h.length_le; simp at this ⊢; omega
    have h4 : s[n]? = some 10 := by
      have h5 := congrArg (fun l => l[1]?) e
      simp only [List.getElem?_drop] at h5
      rw [h3] at h5; exact h5.symm
    rw [List.getElem?_eq_getElem hn, hb] at h4; cases h4
/-- What is done at a field's end. -/
def afterF (k : Nat) (s : Bytes) (n : Nat) (F : List S50) (B : ByteArray) : Option (List S50 × ByteArray × Bool) :=
  (impl_unfold.f k ((bs s).extract 0 ((n : Nat) : Int).toNat)).bind fun q => (if q.2.2 = true then (if (F.length : Int) = 40 then (some NOM) else (if F.length < 4398046511104 then (impl_parseMail.l0 k ((bs s).extract ((n : Nat) : Int).toNat s.length) (F ++ [(⟨q.1, q.2.1⟩ : S50)]) B) else (none))) else (some NOM))
theorem l1I (s : Bytes) (hs : s.length ≤ 1048576) (hsuf : CRLF.isSuffixOf s = true) (F : List S50) (B : ByteArray) (X : List S50 × ByteArray × Bool) : ∀ (m n : Nat), s.length - n ≤ m → n ≤ s.length →
    (∀ n', ((s.drop n).head? ≠ some 32 ∧ n' = n) ∨ (∃ g r, (s.drop n).head? = some 32 ∧ fEnd (s.drop n) = some (g, r) ∧ n' = n + g.length) → n' ≤ s.length → Ev (fun k => afterF k s n' F B) X) →
    Ev (fun k => impl_parseMail.l1 k (bs s) (n : Int) F B) X := by
  intro m
  induction m with
  | zero =>
    intro n hm hn H
    refine Ev.step (fun _ => impl_parseMail.l1.eq_2 ..) (ev_neg (by rw [bs_size]; omega) (ev_pos (by omega) (ev_pos (by rw [bs_size]; omega) ?_)))
    rw [bs_size]
    exact H n (Or.inl ⟨by rw [List.drop_of_length_le (by omega)]; simp, rfl⟩) hn
  | succ m ih =>
    intro n hm hn H
    by_cases hlt : n < s.length
    · refine Ev.step (fun _ => impl_parseMail.l1.eq_2 ..) (ev_pos (by rw [bs_size]; omega) (ev_pos (by omega) ?_))
      have hh : (s.drop n).head? = some s[n] := by rw [drop_cons s n hlt]; rfl
      have e32 : (s[n]).toNat = 32 ↔ s[n] = 32 := by rw [← UInt8.toNat_inj]; rfl
      rw [bt_bs s n hlt, bs_size]
      by_cases hb : (s[n]).toNat = 32
      · refine ev_pos (by omega) (ev_pos (by omega) ?_)
        have ex : (bs s).extract (n : Int).toNat s.length = bs (s.drop n) := by rw [Int.toNat_natCast, bs_extract, List.take_of_length_le (Nat.le_refl _)]
        rw [ex]
        refine ev_bindc (idxF2 (s.drop n) (by simp; omega)) ?_
        obtain ⟨p, r, e1, e2, hf⟩ := suf_hit (suf_drop hsuf hlt (e32.mp hb))
        have hl : n + p.length + 2 + r.length = s.length := by have := congrArg List.length e1; simp at this; omega
        have e3 : wrap64 ((n : Int) + wrap64 (Lib.index (s.drop n) CRLF + 2)) = ((n + p.length + 2 : Nat) : Int) := by
          rw [e2, w64 (x := (p.length : Int) + 2) (by omega) (by omega), w64 (by omega) (by omega)]; omega
        rw [e3]
        have hr : s.drop (n + p.length + 2) = r := by
          rw [Nat.add_assoc, ← List.drop_drop, e1, ← List.append_assoc, show p.length + 2 = (p ++ CRLF).length by simp, List.drop_left]
        have hfe : fEnd (s.drop n) = if r.head? ≠ some 32 then some (p ++ CRLF, r) else (fEnd r).map fun q => (p ++ (CRLF ++ q.1), q.2) := by rw [e1]; exact fEnd_hit r hf
        refine ih (n + p.length + 2) (by omega) (by omega) (fun n' h hn' => H n' (Or.inr ?_) hn')
        rw [hr] at h
        rcases h with ⟨h1, h2⟩ | ⟨g, r', h1, h2, h3⟩
        · exact ⟨p ++ CRLF, r, by rw [hh, e32.mp hb], by rw [hfe, if_pos h1], by rw [h2]; simp; omega⟩
        · exact ⟨p ++ (CRLF ++ g), r', by rw [hh, e32.mp hb], by rw [hfe, if_neg (by simp [h1]), h2]; rfl, by rw [h3]; simp; omega⟩
      · refine ev_neg (by omega) (ev_pos (by omega) ?_)
        exact H n (Or.inl ⟨by rw [hh]; intro x; injection x with x; exact hb (e32.mpr x), rfl⟩) hn
    · refine Ev.step (fun _ => impl_parseMail.l1.eq_2 ..) (ev_neg (by rw [bs_size]; omega) (ev_pos (by omega) (ev_pos (by rw [bs_size]; omega) ?_)))
      rw [bs_size]
      exact H n (Or.inl ⟨by rw [List.drop_of_length_le (by omega)]; simp, rfl⟩) hn
def headIn (s : Bytes) : Prop := s = [] ∨ (CRLF.isSuffixOf s = true ∧ CRLF.isPrefixOf s = false ∧ ∀ p q, s ≠ p ++ (DD ++ q))
theorem parI_l0 (b : Bytes) : ∀ (n : Nat) (s : Bytes) (fs : Flds), s.length < n → s.length ≤ 1048576 → headIn s → fs.length ≤ 40 →
    Ev (fun k => impl_parseMail.l0 k (bs s) (flS fs) (bs b)) (match parse n (s ++ (CRLF ++ b)) fs with | none => NOM | some q => (flS q.1, bs q.2, true)) := by
  intro n
  induction n with
  | zero => intro s fs hn; omega
  | succ n ih =>
    intro s fs hn hs hin hf
    rcases hin with rfl | ⟨h1, h2, h3⟩
    · unfold parse
      rw [if_pos (by simp)]
      exact Ev.step (fun _ => impl_parseMail.l0.eq_2 ..) (ev_pos ((bs_nilq []).mpr rfl) (ev_some rfl))
    · have hne : s ≠ [] := by rintro rfl; simp at h1
      have hsl : 2 ≤ s.length := by have := (List.isSuffixOf_iff_suffix.mp h1).length_le; simpa using this
      have hp : CRLF.isPrefixOf (s ++ (CRLF ++ b)) = false := by
        rw [← Bool.not_eq_true, pre_take, List.take_append_of_le_length (by simpa using hsl), ← pre_take, h2]; simp
      obtain ⟨p, r, e1, e2, hfr⟩ := suf_hit h1
      have hl : p.length + 2 + r.length = s.length := by have := congrArg List.length e1; simp at this; omega
      have hr : s.drop (p.length + 2) = r := by rw [e1, ← List.append_assoc, show p.length + 2 = (p ++ CRLF).length by simp, List.drop_left]
      have hfe : fEnd s = if r.head? ≠ some 32 then some (p ++ CRLF, r) else (fEnd r).map fun q => (p ++ (CRLF ++ q.1), q.2) := by rw [e1]; exact fEnd_hit r hfr
      refine Ev.step (fun _ => impl_parseMail.l0.eq_2 ..) (ev_neg (fun x => hne ((bs_nilq _).mp x)) (ev_bindc (idxF2 s hs) ?_))
      have e3 : wrap64 (Lib.index s CRLF + 2) = ((p.length + 2 : Nat) : Int) := by rw [e2, w64 (by omega) (by omega)]; rfl
      rw [e3]
      refine l1I s hs h1 (flS fs) (bs b) _ s.length (p.length + 2) (by omega) (by omega) (fun n' hn' hle => ?_)
      -- the field
      obtain ⟨f, r', hq, hfl⟩ : ∃ f r', fEnd s = some (f, r') ∧ f.length = n' := by
        rw [hr] at hn'
        rcases hn' with ⟨h4, h5⟩ | ⟨g, r', h4, h5, h6⟩
        · exact ⟨p ++ CRLF, r, by rw [hfe, if_pos h4], by rw [h5]; simp⟩
        · exact ⟨p ++ (CRLF ++ g), r', by rw [hfe, if_neg (by simp [h4]), h5]; rfl, by rw [h6]; simp; omega⟩
      obtain ⟨e4, a, e5⟩ := fEnd_parts hq
      have hf2 : 2 ≤ f.length := by rw [e5]; simp
      have hx1 : (bs s).extract 0 ((n' : Nat) : Int).toNat = bs f := by rw [Int.toNat_natCast, bs_extract, List.drop_zero, e4, ← hfl, List.take_left]
      have hx2 : (bs s).extract ((n' : Nat) : Int).toNat s.length = bs r' := by rw [Int.toNat_natCast, bs_extract, List.take_of_length_le (Nat.le_refl _)]; congr 1; rw [e4, ← hfl, List.drop_left]
      have hlr : r'.length + 2 ≤ s.length := by have := congrArg List.length e4; simp at this; omega
      unfold afterF
      rw [hx1, hx2]
      refine Ev.bind (unfI_ev f (by omega)) ?_
      unfold parse
      rw [if_neg (by rw [hp]; simp), fEnd_front b s h1, hq]
      simp only [Option.map_some, Option.bind_some]
      cases hu : unfd f with
      | none => exact ev_neg (by simp) (ev_some rfl)
      | some u =>
        simp only [Option.bind_some]
        by_cases h40 : fs.length = 40
        · rw [if_pos h40]; exact ev_pos (by first | rfl | trivial) (ev_pos (by rw [flS_len]; omega) (ev_some rfl))
        · rw [if_neg h40]
          refine ev_pos (by first | rfl | trivial) (ev_neg (by rw [flS_len]; omega) (ev_pos (by rw [flS_len]; omega) ?_))
          rw [flS_snoc fs u]
          refine ih r' (fs ++ [u]) (by omega) (by omega) ?_ (by simp; omega)
          by_cases hr0 : r' = []
          · exact Or.inl hr0
          · right
            have e6 : s = a ++ (CRLF ++ r') := by rw [e4, e5]; simp
            refine ⟨?_, ?_, fun p q e => h3 (f ++ p) q (by rw [e4, e]; simp)⟩
            · rw [e6] at h1
              rcases suffix_more.mp h1 with h | h
              · exact absurd h hr0
              · exact h
            · cases hq2 : CRLF.isPrefixOf r' with
              | false => rfl
              | true =>
                obtain ⟨z, hz⟩ := List.isPrefixOf_iff_prefix.mp hq2
                exact absurd (show s = a ++ (DD ++ z) by rw [e6, ← hz]; simp) (h3 a z)
theorem parI_ev (t : Bytes) (ht : t.length ≤ 1048576) : Ev (fun k => impl_parseMail.f k (bs t)) (if mailB t = true then (match parse (t.length + 1) t [] with | none => NOM | some q => (flS q.1, bs q.2, true)) else NOM) := by
  have bad : ∀ e : Int, Ev (fun k => impl_parseMail.j0 k (bs t) e true) NOM := fun e => Ev.step (fun _ => impl_parseMail.j0.eq_2 ..) (ev_pos rfl (ev_some rfl))
  unfold impl_parseMail.f
  refine ev_bindc (headI t ht) (Ev.bind (mailI_ok t ht) ?_)
  cases hm : mailB t with
  | false => exact ev_to (if_neg (by simp)).symm (ev_neg (by simp) (bad _))
  | true =>
    refine ev_to (if_pos rfl).symm (ev_pos rfl ?_)
    cases hc : CRLF.isPrefixOf t with
    | true =>
      rw [if_pos rfl]
      obtain ⟨b, hb⟩ := List.isPrefixOf_iff_prefix.mp hc
      have hl : 2 ≤ t.length := by have := congrArg List.length hb; simp at this; omega
      refine Ev.step (fun _ => impl_parseMail.j0.eq_2 ..) (ev_neg (by simp) ?_)
      have e2 : wrap64 ((0 : Int) + 2) = 2 := by rw [w64 (by omega) (by omega)]; rfl
      rw [e2, bs_size]
      refine ev_pos (by omega) (ev_pos (by omega) (ev_pos (by omega) (ev_pos (by omega) ?_)))
      have ex : (bs t).extract (2 : Int).toNat t.length = bs b := by
        rw [bs_extract, List.take_of_length_le (Nat.le_refl _), ← hb]; rfl
      rw [ex]
      have := parI_l0 b (t.length + 1) [] [] (by simp) (by simp) (Or.inl rfl) (by simp)
      rw [List.nil_append, hb] at this
      have e0 : (bs t).extract 0 (0 : Int).toNat = bs [] := by rw [bs_extract]; simp
      rw [e0]; exact this
    | false =>
      rw [if_neg (by simp)]
      rcases idx_cases DD (by decide) t with ⟨e, hf⟩ | ⟨h', b, e1, e2, hf⟩
      · rw [e, if_pos (by decide)]
        have hn : parse (t.length + 1) t [] = none := by
          cases hq : parse (t.length + 1) t [] with
          | none => rfl
          | some x =>
            exfalso
            rcases parse_dd _ _ _ _ hq with h | ⟨p, q, h⟩
            · rw [h] at hc; cases hc
            · have := Free.before hf (a := p) (c := q) (by rw [List.append_nil]; exact h)
              have h2 := congrArg List.length h
              simp at h2; omega
        rw [hn]
        exact bad _
      · rw [e2, if_neg (by omega)]
        have hl : h'.length + 4 + b.length = t.length := by have := congrArg List.length e1; simp at this; omega
        have es : t = (h' ++ CRLF) ++ (CRLF ++ b) := by rw [e1]; simp
        refine Ev.step (fun _ => impl_parseMail.j0.eq_2 ..) (ev_neg (by simp; omega) ?_)
        have e4 : wrap64 (((h'.length : Int) + 2) + 2) = ((h'.length + 4 : Nat) : Int) := by rw [w64 (by omega) (by omega)]; omega
        rw [e4, bs_size]
        refine ev_pos (by omega) (ev_pos (by omega) (ev_pos (by omega) (ev_pos (by omega) ?_)))
        have ex1 : (bs t).extract 0 ((h'.length : Int) + 2).toNat = bs (h' ++ CRLF) := by
          rw [show ((h'.length : Int) + 2).toNat = (h' ++ CRLF).length by simp; omega, bs_extract, List.drop_zero]
          congr 1
          rw [es, List.take_left]
        have ex2 : (bs t).extract ((h'.length + 4 : Nat) : Int).toNat t.length = bs b := by
          rw [Int.toNat_natCast, bs_extract, List.take_of_length_le (Nat.le_refl _)]
          congr 1
          rw [es, ← List.append_assoc, show h'.length + 4 = (h' ++ CRLF ++ CRLF).length by simp, List.drop_left]
        rw [ex1, ex2]
        have := parI_l0 b (t.length + 1) (h' ++ CRLF) [] (by simp; omega) (by simp; omega) (Or.inr ⟨List.isSuffixOf_iff_suffix.mpr (List.suffix_append _ _), ?_, ?_⟩) (by simp)
        · rw [← es] at this; exact this
        · cases hq : CRLF.isPrefixOf (h' ++ CRLF) with
          | false => rfl
          | true =>
            rw [List.isPrefixOf_iff_prefix] at hq
            rw [List.isPrefixOf_iff_prefix.mpr (hq.trans ⟨CRLF ++ b, es.symm⟩)] at hc; cases hc
        · intro p q e
          have := Free.before hf (a := p) (c := q ++ (CRLF ++ b)) (by rw [← e1, es, e]; simp)
          have h2 := congrArg List.length e
          simp at h2; omega
end Go.Proofs.YtifkmkiljpeaaabDoor.PFnExactOverLine
