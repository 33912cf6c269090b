import Derived.Test.YtifkmkiljpeaaacGreatLWor
import Derived.Test.YtifkmkiljpeaaacGreatPFnExactWorldOKxB
import Derived.Test.YtifkmkiljpeaaacGreatPFnExactWorldOKxC
set_option linter.unusedVariables false
set_option linter.unusedSimpArgs false
namespace Go.Proofs.YtifkmkiljpeaaacGreat.PFnExactWorldOK
open Go.RowKit Go.Proofs.YtifkmkiljpeaaacGreatW.PrintWords
theorem numL3 (l : Bytes) (h : l.length ≤ 3) : numL l < 16777216 := Nat.lt_of_lt_of_le (numL_lt l) (Nat.pow_le_pow_right (by decide) h : 256 ^ l.length ≤ 256 ^ 3)
theorem numS_ev (l : Bytes) (h : l.length ≤ 3) : Ev (fun k => spec_l08Number.f k (bs l)) (numL l : Int) := by
  have loop : ∀ (m i : Nat), i + m = l.length → Ev (fun k => spec_l08Number.l0 k (bs l) (numL (l.take i) : Int) i) (numL l : Int) := by
    intro m
    induction m with
    | zero => intro i hi; rw [List.take_of_length_le (by omega)]; exact Ev.step (fun _ => spec_l08Number.l0.eq_2 ..) (ev_neg (by rw [bs_size]; omega) (ev_some rfl))
    | succ m ih =>
      intro i hi
      have hlt : i < l.length := by omega
      have h3 := numL3 (l.take i) (by rw [List.length_take]; omega)
      have hc := (l[i]).toNat_lt
      refine Ev.step (fun _ => spec_l08Number.l0.eq_2 ..) (ev_pos (by rw [bs_size]; omega) (ev_pos (by omega) ?_))
      have e := numL_snoc l i hlt
      rw [bt_bs l i hlt, w64n (by omega), w64 (x := (numL (l.take i) : Int) * 256) (by omega) (by omega), w64 (x := ((l[i]).toNat : Int)) (by omega) (by omega), w64 (by omega) (by omega)]
      have := ih (i + 1) (by omega)
      rw [e] at this
      rw [show ((numL (l.take i) : Int) * 256 + ((l[i]).toNat : Int)) = ((numL (l.take i) * 256 + (l[i]).toNat : Nat) : Int) by omega]
      exact this
  unfold spec_l08Number.f
  exact loop l.length 0 (by omega)
theorem numI_ev (l : Bytes) (h : l.length ≤ 3) : Ev (fun k => impl_numberOf.f k (bs l)) (numL l : Int) := by
  have loop : ∀ (m i : Nat), i + m = l.length → Ev (fun k => impl_numberOf.l0 k (bs l) (numL (l.take i) : Int) (l.length : Int) i) (numL l : Int) := by
    intro m
    induction m with
    | zero => intro i hi; rw [List.take_of_length_le (by omega)]; exact Ev.step (fun _ => impl_numberOf.l0.eq_2 ..) (ev_neg (by omega) (ev_some rfl))
    | succ m ih =>
      intro i hi
      have hlt : i < l.length := by omega
      have h3 := numL3 (l.take i) (by rw [List.length_take]; omega)
      have hc := (l[i]).toNat_lt
      refine Ev.step (fun _ => impl_numberOf.l0.eq_2 ..) (ev_pos (by omega) (ev_pos (by omega) (ev_pos (by rw [bs_size]; omega) ?_)))
      have e := numL_snoc l i hlt
      have := ih (i + 1) (by omega)
      rw [e] at this
      generalize numL (l.take i) = m at *
      have hor : bits .or .i64 ((m : Int) * 256) ((l[i]).toNat : Int) = ((m * 256 + (l[i]).toNat : Nat) : Int) := by
        rw [bits_join .i64 63 (by decide) (fun n h0 h1 => by rw [IntKind.wrap_i64]; omega) 8 _ _ (by omega) (by omega) (by omega) (by omega) (by omega) (by omega)]
        omega
      rw [bt_bs l i hlt, w64n (by omega), w64 (x := (m : Int) * 256) (by omega) (by omega), w64 (x := ((l[i]).toNat : Int)) (by omega) (by omega), hor]
      exact this
  unfold impl_numberOf.f
  rw [bs_size]
  exact loop l.length 0 (by omega)
theorem recsS_ev (d : Bytes) (hd : d.length ≤ 65000) : Ev (fun k => spec_l08Records.f k (bs d)) ((recs d).1.map bs, ((recs d).2.1 : Int), (recs d).2.2) := by
  have loop : ∀ (m at_ : Nat) (acc : List Bytes), d.length - at_ ≤ m → at_ ≤ d.length → acc.length ≤ at_ → recs d = (acc ++ (recs (d.drop at_)).1, at_ + (recs (d.drop at_)).2.1, (recs (d.drop at_)).2.2) →
      Ev (fun k => spec_l08Records.l0 k (bs d) (acc.map bs) at_) ((recs d).1.map bs, ((recs d).2.1 : Int), (recs d).2.2) := by
    intro m
    induction m with
    | zero =>
      intro at_ acc hm ha hl hr
      have hdn : d.drop at_ = [] := List.drop_of_length_le (by omega)
      rw [recs_at_end hr hdn]
      exact Ev.step (fun _ => spec_l08Records.l0.eq_2 ..) (ev_neg (by rw [bs_size]; omega) (ev_some rfl))
    | succ m ih =>
      intro at_ acc hm ha hl hr
      by_cases hlt : at_ < d.length
      · have hne : d.drop at_ ≠ [] := by intro e; have := congrArg List.length e; simp at this; omega
        have hdl : (d.drop at_).length = d.length - at_ := List.length_drop
        refine Ev.step (fun _ => spec_l08Records.l0.eq_2 ..) (ev_pos (by rw [bs_size]; omega) ?_)
        have w7 : wrap64 ((at_ : Int) + 7) = ((at_ + 7 : Nat) : Int) := by rw [w64 (by omega) (by omega)]; omega
        have w3 : wrap64 ((at_ : Int) + 3) = ((at_ + 3 : Nat) : Int) := by rw [w64 (by omega) (by omega)]; omega
        rw [w7, w3, bs_size]
        clear w7 w3
        by_cases h7 : d.length - at_ < 7
        · have hra : recAt (d.drop at_) = .inl 18 := by unfold recAt; rw [if_pos (by omega)]
          rw [recs_at_stop hr hne hra]
          exact ev_pos (by omega) (ev_some rfl)
        refine ev_neg (by omega) (ev_pos (by omega) (ev_pos (by omega) (ev_pos (by omega) ?_)))
        have e3 : (bs d).extract (at_ : Int).toNat ((at_ + 3 : Nat) : Int).toNat = bs ((d.drop at_).take 3) := by
          rw [bs_extract, Int.toNat_natCast, Int.toNat_natCast, List.drop_take]; congr 2; omega
        have hN := numS_ev ((d.drop at_).take 3) (by rw [List.length_take]; omega)
        have hN3 := numL3 ((d.drop at_).take 3) (by rw [List.length_take]; omega)
        rw [e3]
        refine Ev.bind hN (ev_bindc (l01In_f _ _ _) ?_)
        cases hin : inB (numL ((d.drop at_).take 3) : Int) 1 20000 with
        | false =>
          have hra : recAt (d.drop at_) = .inl 8 := by unfold recAt; rw [if_neg (by omega), if_pos hin]
          rw [recs_at_stop hr hne hra]
          exact ev_neg (by simp) (ev_some rfl)
        | true =>
          have hnr := inB_iff.mp hin
          refine ev_pos rfl ?_
          have hra0 : recAt (d.drop at_) = if (d.drop at_).length < 7 + numL ((d.drop at_).take 3) then .inl 18 else if (frameL (((d.drop at_).drop 7).take (numL ((d.drop at_).take 3)))).isPrefixOf (d.drop at_) then .inr (((d.drop at_).drop 7).take (numL ((d.drop at_).take 3))) else .inl 8 := by
            unfold recAt; rw [if_neg (by omega), if_neg (by rw [hin]; simp)]
          generalize numL ((d.drop at_).take 3) = n at *
          have w7n : wrap64 (((at_ + 7 : Nat) : Int) + (n : Int)) = ((at_ + 7 + n : Nat) : Int) := by rw [w64 (by omega) (by omega)]; omega
          have wn : wrap64 ((at_ : Int) + wrap64 (7 + (n : Int))) = ((at_ + (7 + n) : Nat) : Int) := by rw [w64 (x := 7 + (n : Int)) (by omega) (by omega), w64 (by omega) (by omega)]; omega
          rw [w7n, wn]
          clear w7n wn
          by_cases hsh : d.length - at_ < 7 + n
          · rw [if_pos (by omega)] at hra0
            rw [recs_at_stop hr hne hra0]
            exact ev_pos (by omega) (ev_some rfl)
          rw [if_neg (by omega)] at hra0
          have er : (bs d).extract ((at_ + 7 : Nat) : Int).toNat ((at_ + 7 + n : Nat) : Int).toNat = bs (((d.drop at_).drop 7).take n) := by
            rw [bs_extract, Int.toNat_natCast, Int.toNat_natCast, List.drop_take, List.drop_drop]; congr 2; omega
          have ef : (bs d).extract (at_ : Int).toNat ((at_ + 7 + n : Nat) : Int).toNat = bs ((d.drop at_).take (7 + n)) := by
            rw [bs_extract, Int.toNat_natCast, Int.toNat_natCast, List.drop_take]; congr 2; omega
          have hrl : (((d.drop at_).drop 7).take n).length = n := by rw [List.length_take, List.length_drop, hdl]; omega
          rw [er, ef]
          generalize hr0 : ((d.drop at_).drop 7).take n = r at *
          have hF : spec_l08Frame.f (bs r) = some (bs (frameL r)) := by unfold spec_l08Frame.f; rw [if_pos (by rw [bs_size]; omega)]; rfl
          refine ev_neg (by omega) (ev_pos (by omega) (ev_pos (by omega) (ev_pos (by omega) (ev_bindc hF (ev_pos (by omega) ?_)))))
          have hpre : (frameL r).isPrefixOf (d.drop at_) = true ↔ frameL r = (d.drop at_).take (7 + n) := by
            rw [List.isPrefixOf_iff_prefix, List.prefix_iff_eq_take, frameL_length, hrl]
          by_cases hp : frameL r = (d.drop at_).take (7 + n)
          · have hra : recAt (d.drop at_) = .inr r := by rw [hra0, if_pos (hpre.mpr hp)]
            have hr2 := recs_from hr hra
            rw [hrl] at hr2
            refine ev_pos (by rw [bs_toList, bs_toList]; exact hp) (ev_pos (by rw [List.length_map]; omega) ?_)
            have := ih (at_ + (7 + n)) (acc ++ [r]) (by omega) (by omega) (by simp; omega) hr2
            rw [List.map_append] at this
            exact this
          · have hra : recAt (d.drop at_) = .inl 8 := by rw [hra0, if_neg (fun h => hp (hpre.mp h))]
            rw [recs_at_stop hr hne hra]
            exact ev_neg (by rw [bs_toList, bs_toList]; exact hp) (ev_some rfl)
      · have hdn : d.drop at_ = [] := List.drop_of_length_le (by omega)
        rw [recs_at_end hr hdn]
        exact Ev.step (fun _ => spec_l08Records.l0.eq_2 ..) (ev_neg (by rw [bs_size]; omega) (ev_some rfl))
  unfold spec_l08Records.f
  exact loop d.length 0 [] (by omega) (by omega) (by simp) (by simp)
theorem recsN_ok (k : Nat) : ∀ t : Bytes, t.length < k → (∀ r ∈ (recsN k t).1, 1 ≤ r.length ∧ r.length ≤ 20000) ∧ ((recsN k t).1.length ≤ t.length) ∧ ((recsN k t).2.2 = 0 → (recsN k t).2.1 = t.length) := by
  induction k with
  | zero => intro t h; omega
  | succ k ih =>
    intro t hk
    unfold recsN
    by_cases ht : t = []
    · rw [if_pos ht]; subst ht; exact ⟨by simp, by simp, by simp⟩
    · rw [if_neg ht]
      cases hr : recAt t with
      | inl c =>
        refine ⟨by simp, by simp, ?_⟩
        intro h
        exfalso
        dsimp only at h
        revert hr
        unfold recAt
        split; · intro e; injection e with e; omega
        split; · intro e; injection e with e; omega
        split; · intro e; injection e with e; omega
        split
        · intro e; cases e
        · intro e; injection e with e; omega
      | inr r =>
        have hl := recAt_len hr
        obtain ⟨i1, i2, i3⟩ := ih (t.drop (7 + r.length)) (by simp; omega)
        simp only [List.length_drop] at i2 i3
        refine ⟨?_, ?_, ?_⟩
        · intro x hx
          rcases List.mem_cons.mp hx with rfl | hx
          · exact ⟨hl.1, hl.2.1⟩
          · exact i1 x hx
        · simp only [List.length_cons]; omega
        · intro h
          have := i3 h
          dsimp only
          omega
theorem recs_ok (t : Bytes) : (∀ r ∈ (recs t).1, 1 ≤ r.length ∧ r.length ≤ 20000) ∧ ((recs t).1.length ≤ t.length) ∧ ((recs t).2.2 = 0 → (recs t).2.1 = t.length) := recsN_ok _ t (by omega)
def mutB (k u m f : Int) (nm : ByteArray) (l : List S130) : Bool := nameB nm.data.toList && decide (l.length ≤ 20) && l.all itemB && kindB k u m f l.length
theorem mutI_ev (k u m f : Int) (nm : ByteArray) (l : List S130) (hn : nm.size ≤ 1099511627776) (hl : l.length ≤ 1048576) : Ev (fun r => impl_MutationOK.f r k u m f nm l) (mutB k u m f nm l) := by
  unfold impl_MutationOK.f
  exact ev_pos (by omega) (Ev.bind (nameI_ev nm hn) (ev_some rfl))
theorem kindS_ev (k u m f : Int) (nm : ByteArray) (l : List S130) (b : Bool) (hb : b = (decide (k = 1) || decide (k = 4))) : Ev (fun r => spec_MutationOK.j2 r k b k u m f nm l) (kindB k u m f l.length) := by
  have bare : ∀ (x : Bool), (if u = 0 then (if m = 0 then (if f = 0 then some x else some false) else some false) else some false) = some (bareB u m f && x) := by
    intro x
    unfold bareB
    by_cases h1 : u = 0 <;> by_cases h2 : m = 0 <;> by_cases h3 : f = 0 <;> simp [h1, h2, h3]
  refine Ev.step (fun _ => spec_MutationOK.j2.eq_2 ..) ?_
  have e0 : ((l.length : Int) == 0) = decide (l.length = 0) := by rw [Bool.eq_iff_iff]; simp
  have e1 : decide ((l.length : Int) > 0) = decide (0 < l.length) := by rw [Bool.eq_iff_iff]; simp
  rw [e0, e1]
  by_cases h14 : k = 1 ∨ k = 4
  · refine ev_pos (by rw [hb]; simpa using h14) (ev_to (r := bareB u m f && decide (l.length = 0)) (by unfold kindB; rw [if_pos h14]) ?_)
    rw [bare]; exact ev_some rfl
  · refine ev_neg (by rw [hb]; simpa using h14) ?_
    by_cases h2 : k = 2
    · refine ev_pos h2 (ev_to (r := bareB u m f && decide (0 < l.length)) (by unfold kindB; rw [if_neg h14, if_pos h2]) ?_)
      rw [bare]; exact ev_some rfl
    · refine ev_neg h2 ?_
      by_cases h3 : k = 3
      · refine ev_pos h3 (ev_to (r := decide (l.length = 0) && inB u 1 1000 && inB m 1 3 && inB f 0 31) (by unfold kindB; rw [if_neg h14, if_neg h2, if_pos h3]; rfl) (ev_bindc (l01In_f _ _ _) ?_))
        cases q1 : inB u 1 1000 with
        | false => exact ev_neg (by simp) (ev_some (by simp))
        | true =>
          refine ev_pos rfl (ev_bindc (l01In_f _ _ _) ?_)
          cases q2 : inB m 1 3 with
          | false => exact ev_neg (by simp) (ev_some (by simp))
          | true =>
            refine ev_pos rfl (ev_bindc (l01In_f _ _ _) ?_)
            cases q3 : inB f 0 31 with
            | false => exact ev_neg (by simp) (ev_some (by simp))
            | true => exact ev_pos rfl (ev_some (by simp))
      · exact ev_neg h3 (ev_some (by unfold kindB; rw [if_neg h14, if_neg h2, if_neg h3]))
theorem itemsS_ev (k u m f : Int) (nm : ByteArray) (l : List S130) (hl : l.length ≤ 1048576) : ∀ (n i : Nat), i + n = l.length → Ev (fun r => spec_MutationOK.l0 r i k u m f nm l) ((l.drop i).all itemB && kindB k u m f l.length) := by
  intro n
  induction n with
  | zero =>
    intro i hi
    rw [List.drop_of_length_le (by omega), List.all_nil, Bool.true_and]
    refine Ev.step (fun _ => spec_MutationOK.l0.eq_2 ..) (ev_neg (by omega) ?_)
    by_cases h1 : k = 1
    · exact ev_pos h1 (kindS_ev k u m f nm l _ (by simp [h1]))
    · exact ev_neg h1 (kindS_ev k u m f nm l _ (by simp [h1]; rfl))
  | succ n ih =>
    intro i hi
    have hlt : i < l.length := by omega
    refine Ev.step (fun _ => spec_MutationOK.l0.eq_2 ..) (ev_pos (by omega) (ev_pos (by omega) ?_))
    rw [rdItem l i hlt, w64n (by omega), List.drop_eq_getElem_cons hlt, List.all_cons]
    refine ev_bindc (l01In_f _ _ _) ?_
    have e : itemB l[i] = (inB (l[i].f0.size : Int) 1 200 && decide ((l[i].f1.size : Int) ≤ 4000)) := rfl
    rw [e]
    cases q1 : inB (l[i].f0.size : Int) 1 200 with
    | false => exact ev_neg (by simp) (ev_some (by simp))
    | true =>
      refine ev_pos rfl ?_
      by_cases h4 : (l[i].f1.size : Int) > 4000
      · rw [decide_eq_false (by omega)]; exact ev_pos h4 (ev_some (by simp))
      · rw [decide_eq_true (by omega : (l[i].f1.size : Int) ≤ 4000)]
        refine ev_neg h4 (ev_to ?_ (ih (i + 1) (by omega)))
        simp
theorem mutS_ev (k u m f : Int) (nm : ByteArray) (l : List S130) (hn : nm.size ≤ 1099511627776) (hl : l.length ≤ 1048576) : Ev (fun r => spec_MutationOK.f r k u m f nm l) (mutB k u m f nm l) := by
  unfold spec_MutationOK.f mutB
  refine Ev.bind (nameS_ev nm hn) ?_
  cases nameB nm.data.toList with
  | false => exact ev_neg (by simp) (Ev.step (fun _ => spec_MutationOK.j0.eq_2 ..) (ev_pos rfl (ev_some (by simp))))
  | true =>
    refine ev_pos rfl (Ev.step (fun _ => spec_MutationOK.j0.eq_2 ..) ?_)
    by_cases h20 : l.length ≤ 20
    · rw [decide_eq_true h20]
      refine ev_neg (by simp; omega) (ev_to ?_ (itemsS_ev k u m f nm l hl l.length 0 (by omega)))
      simp
    · rw [decide_eq_false h20]
      exact ev_pos (by simp; omega) (ev_some (by simp))
theorem mutB_items {k u m f : Int} {nm : ByteArray} {l : List S130} (h : mutB k u m f nm l = true) : l.length ≤ 20 := by
  unfold mutB at h
  simp only [Bool.and_eq_true, decide_eq_true_eq] at h
  exact h.1.1.2
def takeT (d : Bytes) (b : Bool) (n : Nat) : Bytes × Bytes × Bool := if n ≤ d.length then (d.take n, d.drop n, b) else ([], d, true)
theorem takeT_len (d : Bytes) (b : Bool) (n : Nat) : (takeT d b n).1.length ≤ n ∧ (takeT d b n).2.1.length ≤ d.length := by
  unfold takeT; split <;> simp <;> omega
theorem takeT_ok {d : Bytes} {b : Bool} {n : Nat} (h : (takeT d b n).2.2 = false) : b = false ∧ n ≤ d.length ∧ takeT d b n = (d.take n, d.drop n, false) := by
  unfold takeT at h ⊢
  split at h
  · next hn => dsimp only at h; subst h; rw [if_pos hn]; exact ⟨rfl, hn, rfl⟩
  · cases h
theorem takeT_yes {d : Bytes} {n : Nat} (h : n ≤ d.length) : takeT d false n = (d.take n, d.drop n, false) := if_pos h
theorem taker_text_f (d : Bytes) (b : Bool) (n : Nat) (hd : d.length ≤ 1048576) : impl_taker_text.f (bs d) b (n : Int) = some (bs (takeT d b n).1, bs (takeT d b n).2.1, (takeT d b n).2.2) := by
  unfold impl_taker_text.f takeT
  rw [bs_size]
  by_cases h : n ≤ d.length
  · rw [if_neg (by omega), if_pos (by omega), if_pos (by omega), if_pos h, Int.toNat_natCast, bs_extract, bs_extract, List.take_of_length_le (Nat.le_refl d.length), List.drop_zero]
  · rw [if_pos (by omega), if_neg h]; rfl
theorem taker_number_ev (d : Bytes) (b : Bool) (n : Nat) (hd : d.length ≤ 1048576) (hn : n ≤ 3) : Ev (fun k => impl_taker_number.f k (bs d) b (n : Int)) ((numL (takeT d b n).1 : Int), bs (takeT d b n).2.1, (takeT d b n).2.2) := by
  unfold impl_taker_number.f
  exact ev_bindc (taker_text_f d b n hd) (Ev.bind (numI_ev _ (by have := (takeT_len d b n).1; omega)) (ev_some rfl))
def itemsR : Nat → Bytes → List S130 → Option (List S130 × Bytes)
  | 0, d, acc => some (acc, d)
  | n + 1, d, acc => if d.length < 4 then none else if (d.drop 4).length < numL (d.take 2) + numL ((d.drop 2).take 2) then none
    else itemsR n ((d.drop 4).drop (numL (d.take 2) + numL ((d.drop 2).take 2))) (acc ++ [⟨bs ((d.drop 4).take (numL (d.take 2))), bs (((d.drop 4).drop (numL (d.take 2))).take (numL ((d.drop 2).take 2)))⟩])
theorem numL2 (l : Bytes) (h : l.length ≤ 2) : numL l < 65536 := Nat.lt_of_lt_of_le (numL_lt l) (Nat.pow_le_pow_right (by decide) h : 256 ^ l.length ≤ 256 ^ 2)
section
variable (kind uid mode flags : Int) (nm : ByteArray)
theorem readS_items (d : Bytes) (hd : d.length ≤ 20000) (hnm : nm.size ≤ 1099511627776) : ∀ (n at_ : Nat) (acc : List S130), at_ ≤ d.length → acc.length + n ≤ 255 →
    (itemsR n (d.drop at_) acc = none → Ev (fun k => spec_l09Read.l0 k (bs d) at_ n kind uid mode flags nm acc) (0, 0, 0, 0, (⟨#[]⟩ : ByteArray), [], false)) ∧
    (∀ l r, itemsR n (d.drop at_) acc = some (l, r) → Ev (fun k => spec_l09Read.l0 k (bs d) at_ n kind uid mode flags nm acc) (kind, uid, mode, flags, nm, l, if r = [] then mutB kind uid mode flags nm l else false)) := by
  intro n
  induction n with
  | zero =>
    intro at_ acc ha hn
    refine ⟨fun h => (by unfold itemsR at h; cases h), fun l r h => ?_⟩
    unfold itemsR at h
    injection h with h
    injection h with h1 h2
    subst h1
    refine Ev.step (fun _ => spec_l09Read.l0.eq_2 ..) (ev_neg (by omega) ?_)
    by_cases he : at_ = d.length
    · have : r = [] := by rw [← h2, he]; exact List.drop_length
      rw [if_pos this]
      exact ev_pos (by rw [bs_size]; omega) (Ev.bind (mutS_ev kind uid mode flags nm acc hnm (by omega)) (ev_some rfl))
    · have : r ≠ [] := by rw [← h2]; intro e; have := congrArg List.length e; simp at this; omega
      rw [if_neg this]
      exact ev_neg (by rw [bs_size]; omega) (ev_some rfl)
  | succ n ih =>
    intro at_ acc ha hn
    have hdl : (d.drop at_).length = d.length - at_ := List.length_drop
    have w4 : wrap64 ((at_ : Int) + 4) = ((at_ + 4 : Nat) : Int) := by rw [w64 (by omega) (by omega)]; omega
    have w2 : wrap64 ((at_ : Int) + 2) = ((at_ + 2 : Nat) : Int) := by rw [w64 (by omega) (by omega)]; omega
    have wn : wrap64 (((n + 1 : Nat) : Int) - 1) = (n : Int) := by rw [w64 (by omega) (by omega)]; omega
    by_cases h4 : d.length - at_ < 4
    · have e : itemsR (n + 1) (d.drop at_) acc = none := by unfold itemsR; rw [if_pos (by omega)]
      rw [e]
      refine ⟨fun _ => Ev.step (fun _ => spec_l09Read.l0.eq_2 ..) (ev_pos (by clear w4 w2 wn; omega) ?_), fun l r h => by cases h⟩
      rw [w4, bs_size]
      exact ev_pos (by clear w4 w2 wn; omega) (ev_some rfl)
    have e1 : (bs d).extract (at_ : Int).toNat ((at_ + 2 : Nat) : Int).toNat = bs ((d.drop at_).take 2) := by
      rw [bs_extract, Int.toNat_natCast, Int.toNat_natCast, List.drop_take]; congr 2; clear w4 w2 wn; omega
    have e2 : (bs d).extract ((at_ + 2 : Nat) : Int).toNat ((at_ + 4 : Nat) : Int).toNat = bs (((d.drop at_).drop 2).take 2) := by
      rw [bs_extract, Int.toNat_natCast, Int.toNat_natCast, List.drop_take, List.drop_drop]; congr 2; clear w4 w2 wn; omega
    have hA := numS_ev ((d.drop at_).take 2) (by rw [List.length_take]; clear w4 w2 wn; omega)
    have hB := numS_ev (((d.drop at_).drop 2).take 2) (by rw [List.length_take]; clear w4 w2 wn; omega)
    have hA2 := numL2 ((d.drop at_).take 2) (by rw [List.length_take]; clear w4 w2 wn; omega)
    have hB2 := numL2 (((d.drop at_).drop 2).take 2) (by rw [List.length_take]; clear w4 w2 wn; omega)
    have hir : itemsR (n + 1) (d.drop at_) acc = if ((d.drop at_).drop 4).length < numL ((d.drop at_).take 2) + numL (((d.drop at_).drop 2).take 2) then none else itemsR n (((d.drop at_).drop 4).drop (numL ((d.drop at_).take 2) + numL (((d.drop at_).drop 2).take 2))) (acc ++ [⟨bs (((d.drop at_).drop 4).take (numL ((d.drop at_).take 2))), bs ((((d.drop at_).drop 4).drop (numL ((d.drop at_).take 2))).take (numL (((d.drop at_).drop 2).take 2)))⟩]) := by
      rw [itemsR, if_neg (by clear w4 w2 wn; omega)]
    generalize numL ((d.drop at_).take 2) = a at *
    generalize numL (((d.drop at_).drop 2).take 2) = b at *
    have wa : wrap64 (((at_ + 4 : Nat) : Int) + (a : Int)) = ((at_ + 4 + a : Nat) : Int) := by clear w4 w2 wn; rw [w64 (by omega) (by omega)]; omega
    have wab : wrap64 (((at_ + 4 + a : Nat) : Int) + (b : Int)) = ((at_ + 4 + a + b : Nat) : Int) := by clear w4 w2 wn wa; rw [w64 (by omega) (by omega)]; omega
    have wab2 : wrap64 (((at_ + 4 : Nat) : Int) + wrap64 ((a : Int) + (b : Int))) = ((at_ + 4 + (a + b) : Nat) : Int) := by clear w4 w2 wn wa wab; rw [w64 (x := (a : Int) + (b : Int)) (by omega) (by omega), w64 (by omega) (by omega)]; omega
    have hdd : ((d.drop at_).drop 4).length = d.length - at_ - 4 := by rw [List.length_drop, hdl]
    have go : ∀ q, Ev (fun k => if ((at_ + 4 + a + b : Nat) : Int) > (d.length : Int) then some (0, 0, 0, 0, (⟨#[]⟩ : ByteArray), ([] : List S130), false) else spec_l09Read.l0 k (bs d) ((at_ + 4 + (a + b) : Nat) : Int) (n : Int) kind uid mode flags nm (acc ++ [⟨(bs d).extract ((at_ + 4 : Nat) : Int).toNat ((at_ + 4 + a : Nat) : Int).toNat, (bs d).extract ((at_ + 4 + a : Nat) : Int).toNat ((at_ + 4 + a + b : Nat) : Int).toNat⟩])) q → Ev (fun k => spec_l09Read.l0 k (bs d) at_ ((n + 1 : Nat) : Int) kind uid mode flags nm acc) q := by
      intro q H
      refine Ev.step (fun _ => spec_l09Read.l0.eq_2 ..) (ev_pos (by clear w4 w2 wn wa wab wab2; omega) ?_)
      rw [w4, w2, bs_size, e1, e2]
      refine ev_neg (by clear w4 w2 wn wa wab wab2; omega) (ev_pos (by clear w4 w2 wn wa wab wab2; omega) (ev_pos (by clear w4 w2 wn wa wab wab2; omega) (ev_pos (by clear w4 w2 wn wa wab wab2; omega) (Ev.bind hA (ev_pos (by clear w4 w2 wn wa wab wab2; omega) (ev_pos (by clear w4 w2 wn wa wab wab2; omega) (ev_pos (by clear w4 w2 wn wa wab wab2; omega) (Ev.bind hB ?_))))))))
      rw [wa, wab, wab2, wn]
      clear w4 w2 wn wa wab wab2
      by_cases hs : ((at_ + 4 + a + b : Nat) : Int) > (d.length : Int)
      · exact ev_pos hs (ev_to (ev_one (ev_pos hs (ev_some rfl)) H) (ev_some rfl))
      · refine ev_neg hs (ev_pos (by omega) (ev_pos (by omega) (ev_pos (by omega) (ev_pos (by omega) (ev_pos (by omega) (ev_pos (by omega) (ev_pos (by omega) ?_)))))))
        obtain ⟨K, H⟩ := H
        exact ⟨K, fun k hk => (if_neg hs).symm.trans (H k hk)⟩
    clear w4 w2 wn wa wab wab2 hA hB
    rw [hir, hdd]
    by_cases hs : d.length - at_ - 4 < a + b
    · rw [if_pos hs]
      exact ⟨fun _ => go _ (ev_pos (by omega) (ev_some rfl)), fun l r h => by cases h⟩
    · rw [if_neg hs]
      have e3 : (bs d).extract ((at_ + 4 : Nat) : Int).toNat ((at_ + 4 + a : Nat) : Int).toNat = bs (((d.drop at_).drop 4).take a) := by
        rw [bs_extract, Int.toNat_natCast, Int.toNat_natCast, List.drop_take, List.drop_drop]; congr 2; omega
      have e4 : (bs d).extract ((at_ + 4 + a : Nat) : Int).toNat ((at_ + 4 + a + b : Nat) : Int).toNat = bs ((((d.drop at_).drop 4).drop a).take b) := by
        rw [bs_extract, Int.toNat_natCast, Int.toNat_natCast, List.drop_take, List.drop_drop, List.drop_drop]; congr 2 <;> first | omega | (congr 1; omega)
      have e5 : ((d.drop at_).drop 4).drop (a + b) = d.drop (at_ + 4 + (a + b)) := by rw [List.drop_drop, List.drop_drop]; congr 1; omega
      have h2 := ih (at_ + 4 + (a + b)) (acc ++ [⟨bs (((d.drop at_).drop 4).take a), bs ((((d.drop at_).drop 4).drop a).take b)⟩]) (by omega) (by simp; omega)
      rw [e5]
      rw [e3, e4] at go
      exact ⟨fun h => go _ (ev_neg (by omega) (h2.1 h)), fun l r h => go _ (ev_neg (by omega) (h2.2 l r h))⟩
theorem readI_bad (N i : Int) (r : ByteArray) (acc : List S130) : Ev (fun k => impl_readMutation.l0 k N i r true kind uid mode flags nm acc) (kind, uid, mode, flags, nm, acc, false) := by
  refine Ev.step (fun _ => impl_readMutation.l0.eq_2 ..) ?_
  by_cases h : i < N
  · exact ev_pos h (Ev.step (fun _ => impl_readMutation.j1.eq_2 ..) (ev_neg (by simp) (ev_pos rfl (ev_some rfl))))
  · exact ev_neg h (Ev.step (fun _ => impl_readMutation.j1.eq_2 ..) (ev_neg (by simp) (ev_pos rfl (ev_some rfl))))
theorem readI_items (hnm : nm.size ≤ 1099511627776) (N : Nat) (hN : N ≤ 255) : ∀ (n i : Nat) (r : Bytes) (acc : List S130), i + n = N → r.length ≤ 20000 → acc.length + n ≤ 255 →
    (itemsR n r acc = none → ∃ q1 q2 q3 q4 q5 q6, Ev (fun k => impl_readMutation.l0 k N i (bs r) false kind uid mode flags nm acc) (q1, q2, q3, q4, q5, q6, false)) ∧
    (∀ l r', itemsR n r acc = some (l, r') → Ev (fun k => impl_readMutation.l0 k N i (bs r) false kind uid mode flags nm acc) (kind, uid, mode, flags, nm, l, if r' = [] then mutB kind uid mode flags nm l else false)) := by
  intro n
  induction n with
  | zero =>
    intro i r acc hi hr hn
    refine ⟨fun h => (by unfold itemsR at h; cases h), fun l r' h => ?_⟩
    unfold itemsR at h
    injection h with h
    injection h with h1 h2
    subst h1
    subst h2
    refine Ev.step (fun _ => impl_readMutation.l0.eq_2 ..) (ev_neg (by omega) (Ev.step (fun _ => impl_readMutation.j1.eq_2 ..) (ev_neg (by simp) (ev_neg (by simp) ?_))))
    by_cases he : r = []
    · rw [if_pos he]
      exact ev_pos (by rw [bs_toList]; exact he) (Ev.bind (mutI_ev kind uid mode flags nm acc hnm (by omega)) (ev_some rfl))
    · rw [if_neg he]
      exact ev_neg (by rw [bs_toList]; exact he) (ev_some rfl)
  | succ n ih =>
    intro i r acc hi hr hn
    have t1 := taker_number_ev r false 2 (by omega) (by omega)
    have l1 := takeT_len r false 2
    obtain ⟨T1, hT1⟩ : ∃ T, takeT r false 2 = T := ⟨_, rfl⟩
    rw [hT1] at t1 l1
    have t2 := taker_number_ev T1.2.1 T1.2.2 2 (by omega) (by omega)
    have l2 := takeT_len T1.2.1 T1.2.2 2
    obtain ⟨T2, hT2⟩ : ∃ T, takeT T1.2.1 T1.2.2 2 = T := ⟨_, rfl⟩
    rw [hT2] at t2 l2
    have t3 := taker_text_f T2.2.1 T2.2.2 (numL T1.1) (by omega)
    have l3 := takeT_len T2.2.1 T2.2.2 (numL T1.1)
    obtain ⟨T3, hT3⟩ : ∃ T, takeT T2.2.1 T2.2.2 (numL T1.1) = T := ⟨_, rfl⟩
    rw [hT3] at t3 l3
    have t4 := taker_text_f T3.2.1 T3.2.2 (numL T2.1) (by omega)
    have l4 := takeT_len T3.2.1 T3.2.2 (numL T2.1)
    obtain ⟨T4, hT4⟩ : ∃ T, takeT T3.2.1 T3.2.2 (numL T2.1) = T := ⟨_, rfl⟩
    rw [hT4] at t4 l4
    have go : ∀ q, Ev (fun k => impl_readMutation.l0 k N ((i + 1 : Nat) : Int) (bs T4.2.1) T4.2.2 kind uid mode flags nm (acc ++ [⟨bs T3.1, bs T4.1⟩])) q → Ev (fun k => impl_readMutation.l0 k N i (bs r) false kind uid mode flags nm acc) q := by
      intro q H
      refine Ev.step (fun _ => impl_readMutation.l0.eq_2 ..) (ev_pos (by omega) (Ev.step (fun _ => impl_readMutation.j1.eq_2 ..) (ev_pos rfl (Ev.bind t1 (Ev.bind t2 (ev_bindc t3 (ev_bindc t4 (ev_pos (by omega) ?_))))))))
      rw [w64n (by omega)]
      exact H
    cases hb : T4.2.2 with
    | true =>
      rw [hb] at go
      refine ⟨fun _ => ⟨_, _, _, _, _, _, go _ (readI_bad kind uid mode flags nm _ _ _ _)⟩, fun l r' h => ?_⟩
      exfalso
      unfold itemsR at h
      split at h; · cases h
      next h4 =>
      rw [takeT_yes (by omega)] at hT1
      subst hT1
      dsimp only at hT2
      rw [takeT_yes (by rw [List.length_drop]; omega)] at hT2
      subst hT2
      dsimp only at hT3 hT4
      split at h; · cases h
      next hs =>
      rw [List.length_drop] at hs
      rw [takeT_yes (by rw [List.length_drop, List.length_drop]; omega)] at hT3
      subst hT3
      dsimp only at hT4
      rw [takeT_yes (by rw [List.length_drop, List.length_drop, List.length_drop]; omega)] at hT4
      subst hT4
      cases hb
    | false =>
      rw [hb] at go
      rw [← hT4] at hb
      obtain ⟨b3, c4, e4⟩ := takeT_ok hb
      rw [← hT3] at b3
      obtain ⟨b2, c3, e3⟩ := takeT_ok b3
      rw [← hT2] at b2
      obtain ⟨b1, c2, e2⟩ := takeT_ok b2
      rw [← hT1] at b1
      obtain ⟨-, c1, e1⟩ := takeT_ok b1
      rw [e1] at hT1
      subst hT1
      dsimp only at e2 c2 hT2
      rw [e2] at hT2
      subst hT2
      dsimp only at e3 c3 hT3
      rw [e3] at hT3
      subst hT3
      dsimp only at e4 c4 hT4
      rw [e4] at hT4
      subst hT4
      dsimp only at go
      simp only [List.length_drop] at c2 c3 c4
      have hir : itemsR (n + 1) r acc = itemsR n ((((r.drop 2).drop 2).drop (numL (r.take 2))).drop (numL ((r.drop 2).take 2))) (acc ++ [⟨bs (((r.drop 2).drop 2).take (numL (r.take 2))), bs ((((r.drop 2).drop 2).drop (numL (r.take 2))).take (numL ((r.drop 2).take 2)))⟩]) := by
        rw [itemsR, if_neg (by omega), if_neg (by rw [List.length_drop]; omega)]
        simp only [List.drop_drop]
        congr 2
        omega
      have h2 := ih (i + 1) ((((r.drop 2).drop 2).drop (numL (r.take 2))).drop (numL ((r.drop 2).take 2))) (acc ++ [⟨bs (((r.drop 2).drop 2).take (numL (r.take 2))), bs ((((r.drop 2).drop 2).drop (numL (r.take 2))).take (numL ((r.drop 2).take 2)))⟩]) (by omega) (by simp only [List.length_drop]; omega) (by simp; omega)
      rw [hir]
      refine ⟨fun h => ?_, fun l r' h => go _ (h2.2 l r' h)⟩
      obtain ⟨q1, q2, q3, q4, q5, q6, hq⟩ := h2.1 h
      exact ⟨q1, q2, q3, q4, q5, q6, go _ hq⟩
end
theorem numL_one (d : Bytes) (k : Nat) (h : k < d.length) : numL ((d.drop k).take 1) = (d[k]).toNat := by
  rw [List.drop_eq_getElem_cons h, List.take_succ_cons, List.take_zero]; simp [numL]
theorem read_both (d : Bytes) (hd : d.length ≤ 20000) : ∃ p1 p2 p3 p4 p5 p6 b q1 q2 q3 q4 q5 q6, Ev (fun k => spec_l09Read.f k (bs d)) (p1, p2, p3, p4, p5, p6, b) ∧ Ev (fun k => impl_readMutation.f k (bs d)) (q1, q2, q3, q4, q5, q6, b) ∧
    (b = true → q1 = p1 ∧ q2 = p2 ∧ q3 = p3 ∧ q4 = p4 ∧ q5 = p5 ∧ q6 = p6 ∧ p6.length ≤ 20) := by
  have t1 := taker_number_ev d false 1 (by omega) (by omega)
  have l1 := takeT_len d false 1
  obtain ⟨T1, hT1⟩ : ∃ T, takeT d false 1 = T := ⟨_, rfl⟩
  rw [hT1] at t1 l1
  have t2 := taker_number_ev T1.2.1 T1.2.2 1 (by omega) (by omega)
  have l2 := takeT_len T1.2.1 T1.2.2 1
  obtain ⟨T2, hT2⟩ : ∃ T, takeT T1.2.1 T1.2.2 1 = T := ⟨_, rfl⟩
  rw [hT2] at t2 l2
  have t3 := taker_number_ev T2.2.1 T2.2.2 1 (by omega) (by omega)
  have l3 := takeT_len T2.2.1 T2.2.2 1
  obtain ⟨T3, hT3⟩ : ∃ T, takeT T2.2.1 T2.2.2 1 = T := ⟨_, rfl⟩
  rw [hT3] at t3 l3
  have t4 := taker_number_ev T3.2.1 T3.2.2 1 (by omega) (by omega)
  have l4 := takeT_len T3.2.1 T3.2.2 1
  obtain ⟨T4, hT4⟩ : ∃ T, takeT T3.2.1 T3.2.2 1 = T := ⟨_, rfl⟩
  rw [hT4] at t4 l4
  have t5 := taker_number_ev T4.2.1 T4.2.2 1 (by omega) (by omega)
  have l5 := takeT_len T4.2.1 T4.2.2 1
  obtain ⟨T5, hT5⟩ : ∃ T, takeT T4.2.1 T4.2.2 1 = T := ⟨_, rfl⟩
  rw [hT5] at t5 l5
  have t6 := taker_number_ev T5.2.1 T5.2.2 2 (by omega) (by omega)
  have l6 := takeT_len T5.2.1 T5.2.2 2
  obtain ⟨T6, hT6⟩ : ∃ T, takeT T5.2.1 T5.2.2 2 = T := ⟨_, rfl⟩
  rw [hT6] at t6 l6
  have t7 := taker_text_f T6.2.1 T6.2.2 (numL T5.1) (by omega)
  have l7 := takeT_len T6.2.1 T6.2.2 (numL T5.1)
  obtain ⟨T7, hT7⟩ : ∃ T, takeT T6.2.1 T6.2.2 (numL T5.1) = T := ⟨_, rfl⟩
  rw [hT7] at t7 l7
  have goI : ∀ q, Ev (fun k => impl_readMutation.l0 k (numL T4.1 : Int) 0 (bs T7.2.1) T7.2.2 (numL T1.1 : Int) (numL T6.1 : Int) (numL T2.1 : Int) (numL T3.1 : Int) (bs T7.1) []) q → Ev (fun k => impl_readMutation.f k (bs d)) q := by
    intro q H
    unfold impl_readMutation.f
    exact ev_neg (by rw [bs_size]; omega) (Ev.bind t1 (Ev.bind t2 (Ev.bind t3 (Ev.bind t4 (Ev.bind t5 (Ev.bind t6 (ev_bindc t7 H)))))))
  have badS : (d.length < 7 ∨ ∃ h : 4 < d.length, d.length < 7 + (d[4]).toNat) → Ev (fun k => spec_l09Read.f k (bs d)) (0, 0, 0, 0, (⟨#[]⟩ : ByteArray), [], false) := by
    intro hbad
    unfold spec_l09Read.f
    by_cases h7 : d.length < 7
    · exact ev_pos (by rw [bs_size]; omega) (Ev.step (fun _ => spec_l09Read.j0.eq_2 ..) (ev_pos rfl (ev_some rfl)))
    · rcases hbad with h | ⟨h4, h⟩
      · omega
      · refine ev_neg (by rw [bs_size]; omega) (ev_pos (by rw [bs_size]; omega) ?_)
        have hc := (d[4]).toNat_lt
        have e4 : bt (bs d) 4 = ((d[4]).toNat : Int) := bt_bs d 4 h4
        rw [e4, bs_size, w64 (x := ((d[4]).toNat : Int)) (by omega) (by omega), w64 (by omega) (by omega), decide_eq_true (by omega)]
        exact Ev.step (fun _ => spec_l09Read.j0.eq_2 ..) (ev_pos rfl (ev_some rfl))
  cases hb : T7.2.2 with
  | true =>
    rw [hb] at goI
    refine ⟨_, _, _, _, _, _, _, _, _, _, _, _, _, badS ?_, goI _ (readI_bad _ _ _ _ _ _ _ _ _), fun h => by cases h⟩
    by_cases h7 : d.length < 7
    · exact .inl h7
    refine .inr ⟨by omega, ?_⟩
    by_cases hs : d.length < 7 + (d[4]).toNat
    · exact hs
    exfalso
    rw [takeT_yes (by omega)] at hT1; subst hT1; dsimp only at hT2
    rw [takeT_yes (by simp only [List.length_drop]; omega)] at hT2; subst hT2; dsimp only at hT3
    rw [takeT_yes (by simp only [List.length_drop]; omega)] at hT3; subst hT3; dsimp only at hT4
    rw [takeT_yes (by simp only [List.length_drop]; omega)] at hT4; subst hT4; dsimp only at hT5
    rw [takeT_yes (by simp only [List.length_drop]; omega)] at hT5; subst hT5; dsimp only at hT6 hT7
    rw [takeT_yes (by simp only [List.length_drop]; omega)] at hT6; subst hT6; dsimp only at hT7
    have e5 : numL (((((d.drop 1).drop 1).drop 1).drop 1).take 1) = (d[4]).toNat := by
      simp only [List.drop_drop, Nat.reduceAdd]
      exact numL_one d 4 (by omega)
    rw [takeT_yes (by rw [e5]; simp only [List.length_drop]; omega)] at hT7
    subst hT7
    cases hb
  | false =>
    rw [hb] at goI
    rw [← hT7] at hb
    obtain ⟨b6, c7, e7⟩ := takeT_ok hb
    rw [← hT6] at b6
    obtain ⟨b5, c6, e6⟩ := takeT_ok b6
    rw [← hT5] at b5
    obtain ⟨b4, c5, e5⟩ := takeT_ok b5
    rw [← hT4] at b4
    obtain ⟨b3, c4, e4⟩ := takeT_ok b4
    rw [← hT3] at b3
    obtain ⟨b2, c3, e3⟩ := takeT_ok b3
    rw [← hT2] at b2
    obtain ⟨b1, c2, e2⟩ := takeT_ok b2
    rw [← hT1] at b1
    obtain ⟨-, c1, e1⟩ := takeT_ok b1
    rw [e1] at hT1; subst hT1; dsimp only at e2 c2 hT2
    rw [e2] at hT2; subst hT2; dsimp only at e3 c3 hT3
    rw [e3] at hT3; subst hT3; dsimp only at e4 c4 hT4
    rw [e4] at hT4; subst hT4; dsimp only at e5 c5 hT5
    rw [e5] at hT5; subst hT5; dsimp only at e6 c6 hT6 c7 e7 hT7
    rw [e6] at hT6; subst hT6; dsimp only at c7 e7 hT7
    rw [e7] at hT7; subst hT7; dsimp only at goI
    simp only [List.length_drop] at c2 c3 c4 c5 c6 c7
    simp only [List.drop_drop, Nat.reduceAdd] at c7 goI
    clear t1 t2 t3 t4 t5 t6 t7 l1 l2 l3 l4 l5 l6 l7 e1 e2 e3 e4 e5 e6 e7 b1 b2 b3 b4 b5 b6
    have n0 : numL (d.take 1) = (d[0]).toNat := numL_one d 0 (by omega)
    have n1 : numL ((d.drop 1).take 1) = (d[1]).toNat := numL_one d 1 (by omega)
    have n2 : numL ((d.drop 2).take 1) = (d[2]).toNat := numL_one d 2 (by omega)
    have n3 : numL ((d.drop 3).take 1) = (d[3]).toNat := numL_one d 3 (by omega)
    have n4 : numL ((d.drop 4).take 1) = (d[4]).toNat := numL_one d 4 (by omega)
    rw [n4] at c7
    rw [n0, n1, n2, n3, n4] at goI
    have h3 := (d[3]).toNat_lt
    have h4 := (d[4]).toNat_lt
    have hu := numS_ev ((d.drop 5).take 2) (by rw [List.length_take]; omega)
    generalize numL ((d.drop 5).take 2) = u at *
    have goS : ∀ q, Ev (fun k => spec_l09Read.l0 k (bs d) ((7 + (d[4]).toNat : Nat) : Int) ((d[3]).toNat : Int) ((d[0]).toNat : Int) (u : Int) ((d[1]).toNat : Int) ((d[2]).toNat : Int) (bs ((d.drop 7).take (d[4]).toNat)) []) q → Ev (fun k => spec_l09Read.f k (bs d)) q := by
      intro q H
      unfold spec_l09Read.f
      have i0 : bt (bs d) 0 = ((d[0]).toNat : Int) := bt_bs d 0 (by omega)
      have i1 : bt (bs d) 1 = ((d[1]).toNat : Int) := bt_bs d 1 (by omega)
      have i2 : bt (bs d) 2 = ((d[2]).toNat : Int) := bt_bs d 2 (by omega)
      have i3 : bt (bs d) 3 = ((d[3]).toNat : Int) := bt_bs d 3 (by omega)
      have i4 : bt (bs d) 4 = ((d[4]).toNat : Int) := bt_bs d 4 (by omega)
      have q0 := (d[0]).toNat_lt
      have q1 := (d[1]).toNat_lt
      have q2 := (d[2]).toNat_lt
      have w7 : wrap64 (7 + wrap64 (bt (bs d) 4)) = ((7 + (d[4]).toNat : Nat) : Int) := by
        rw [i4, w64 (x := ((d[4]).toNat : Int)) (by omega) (by omega), w64 (by omega) (by omega)]; omega
      refine ev_neg (by rw [bs_size]; omega) (ev_pos (by rw [bs_size]; omega) ?_)
      rw [w7, bs_size, decide_eq_false (by clear w7; omega)]
      refine Ev.step (fun _ => spec_l09Read.j0.eq_2 ..) (ev_neg (by simp) ?_)
      rw [w7, bs_size, i0, i1, i2, i3]
      clear w7 i0 i1 i2 i3 i4
      have x1 : (bs d).extract 5 7 = bs ((d.drop 5).take 2) := by rw [bs_extract, List.drop_take]
      have x2 : (bs d).extract 7 (((7 + (d[4]).toNat : Nat) : Int)).toNat = bs ((d.drop 7).take (d[4]).toNat) := by
        rw [bs_extract, Int.toNat_natCast, List.drop_take]; congr 2; omega
      rw [x1, x2, w64 (x := ((d[0]).toNat : Int)) (by omega) (by omega), w64 (x := ((d[1]).toNat : Int)) (by omega) (by omega), w64 (x := ((d[2]).toNat : Int)) (by omega) (by omega), w64 (x := ((d[3]).toNat : Int)) (by omega) (by omega)]
      exact ev_pos (by omega) (ev_pos (by omega) (ev_pos (by omega) (ev_pos (by omega) (ev_pos (by omega) (ev_pos (by omega) (Ev.bind hu (ev_pos (by omega) (ev_pos (by omega) (ev_pos (by omega) H)))))))))
    have hnm : (bs ((d.drop 7).take (d[4]).toNat)).size ≤ 1099511627776 := by rw [bs_size, List.length_take]; omega
    have hS := readS_items ((d[0]).toNat : Int) (u : Int) ((d[1]).toNat : Int) ((d[2]).toNat : Int) (bs ((d.drop 7).take (d[4]).toNat)) d hd hnm (d[3]).toNat (7 + (d[4]).toNat) [] (by omega) (by simp; omega)
    have hI := readI_items ((d[0]).toNat : Int) (u : Int) ((d[1]).toNat : Int) ((d[2]).toNat : Int) (bs ((d.drop 7).take (d[4]).toNat)) hnm (d[3]).toNat (by omega) (d[3]).toNat 0 (d.drop (7 + (d[4]).toNat)) [] (by omega) (by rw [List.length_drop]; omega) (by simp; omega)
    cases ho : itemsR (d[3]).toNat (d.drop (7 + (d[4]).toNat)) [] with
    | none =>
      obtain ⟨q1, q2, q3, q4, q5, q6, hq⟩ := hI.1 ho
      exact ⟨_, _, _, _, _, _, _, _, _, _, _, _, _, goS _ (hS.1 ho), goI _ hq, fun h => by cases h⟩
    | some o =>
      obtain ⟨l, r⟩ := o
      refine ⟨_, _, _, _, _, _, _, _, _, _, _, _, _, goS _ (hS.2 l r ho), goI _ (hI.2 l r ho), fun h => ⟨rfl, rfl, rfl, rfl, rfl, rfl, ?_⟩⟩
      split at h
      · exact mutB_items h
      · cases h
end Go.Proofs.YtifkmkiljpeaaacGreat.PFnExactWorldOK
