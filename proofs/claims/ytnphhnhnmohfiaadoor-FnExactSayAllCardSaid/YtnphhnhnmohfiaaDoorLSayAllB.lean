/- SayAll: the reference's way and the program's come to the same; the law's way through. Plain. -/
import Derived.Test.YtnphhnhnmohfiaaDoorLSayAll
set_option linter.unusedVariables false
set_option linter.unusedSimpArgs false
namespace Go.Proofs.YtnphhnhnmohfiaaDoor.PFnExactSayAll
open Go.RowKit Go.Proofs.YtnphhnhnmohfiaaDoorW.PrintWords

def okB (c : UInt8) : Bool := decide (32 ≤ c.toNat) && decide (c.toNat ≤ 126)
theorem l01In_f (a b c : Int) : spec_l01In.f a b c = some (inB a b c) := by
  unfold spec_l01In.f inB
  by_cases h : a ≥ b
  · rw [if_pos h, decide_eq_true (by omega : b ≤ a)]; rfl
  · rw [if_neg h, decide_eq_false (by omega : ¬ b ≤ a)]; rfl
theorem okB_in (c : UInt8) : inB (c.toNat : Int) 32 126 = okB c := by
  unfold inB okB
  by_cases h : 32 ≤ c.toNat <;> by_cases h2 : c.toNat ≤ 126 <;> simp [h, h2] <;> omega
theorem allWithin_ev (b : Bytes) (hl : b.length ≤ 1099511627776) : Ev (fun k => impl_allWithin.f k (bs b) 32 126) (b.all okB) := by
  have loop : ∀ (m i : Nat), i + m = b.length → Ev (fun k => impl_allWithin.l0 k (bs b) 32 126 (b.length : Int) i) ((b.drop i).all okB) := by
    intro m
    induction m with
    | zero => intro i hi; rw [List.drop_of_length_le (by omega)]; exact Ev.step (fun _ => impl_allWithin.l0.eq_2 ..) (ev_neg (by omega) (ev_some rfl))
    | succ m ih =>
      intro i hi
      have hlt : i < b.length := by omega
      refine Ev.step (fun _ => impl_allWithin.l0.eq_2 ..) (ev_pos (by omega) (ev_pos (by omega) (ev_pos (by rw [bs_size]; omega) ?_)))
      rw [bt_bs b i hlt, drop_cons b i hlt, List.all_cons]
      by_cases h1 : (b[i]).toNat < 32
      · have : okB b[i] = false := by unfold okB; simp; omega
        rw [this]; exact ev_pos (by omega) (ev_some rfl)
      by_cases h2 : 126 < (b[i]).toNat
      · have : okB b[i] = false := by unfold okB; simp; omega
        rw [this]; exact ev_neg (by omega) (ev_pos (by omega) (ev_some rfl))
      have : okB b[i] = true := by unfold okB; simp; omega
      rw [this, w64n (by omega), Bool.true_and]
      exact ev_neg (by omega) (ev_neg (by omega) (ih (i + 1) (by omega)))
  unfold impl_allWithin.f
  rw [bs_size]
  exact loop b.length 0 (by omega)
theorem l14Line_ev (b : Bytes) (hl : b.length ≤ 1099511627776) : Ev (fun k => spec_l14Line.f k (bs b)) (b.all okB && decide (b.length ≤ 500)) := by
  have loop : ∀ (m i : Nat), i + m = b.length → Ev (fun k => spec_l14Line.l0 k (bs b) i) ((b.drop i).all okB && decide (b.length ≤ 500)) := by
    intro m
    induction m with
    | zero =>
      intro i hi
      rw [List.drop_of_length_le (by omega)]
      refine Ev.step (fun _ => spec_l14Line.l0.eq_2 ..) (ev_neg (by rw [bs_size]; omega) (ev_some ?_))
      rw [bs_size]; simp; omega
    | succ m ih =>
      intro i hi
      have hlt : i < b.length := by omega
      have hc := (b[i]).toNat_lt
      refine Ev.step (fun _ => spec_l14Line.l0.eq_2 ..) (ev_pos (by rw [bs_size]; omega) (ev_pos (by omega) ?_))
      rw [bt_bs b i hlt, drop_cons b i hlt, List.all_cons, w64 (by omega) (by omega)]
      refine ev_bindc (l01In_f _ _ _) ?_
      rw [okB_in]
      cases h : okB b[i] with
      | false => exact ev_neg (by simp) (ev_some rfl)
      | true =>
        rw [w64n (by omega), Bool.true_and]
        exact ev_pos rfl (ih (i + 1) (by omega))
  unfold spec_l14Line.f
  exact loop b.length 0 (by omega)
theorem l15Line_ev (b : Bytes) (hl : b.length ≤ 1099511627776) (e : Nat) (he : e + 1 < b.length) (h13 : b[e] = 13) (h10 : b[e + 1] = 10) (hn : ∀ j, j < e → (h : j + 1 < b.length) → ¬ (b[j] = 13 ∧ b[j + 1] = 10)) :
    Ev (fun k => spec_l15Line.f k (bs b)) (bs (b.take e), bs (b.drop (e + 2)), true) := by
  have e1 : (bs b).extract 0 (e : Int).toNat = bs (b.take e) := by rw [bs_sub]; simp
  have e2 : (bs b).extract ((e : Int) + 2).toNat (bs b).size = bs (b.drop (e + 2)) := by rw [bs_sub, bs_size, List.take_of_length_le (Nat.le_refl _)]; rfl
  have loop : ∀ (m i : Nat), i + m = e → Ev (fun k => spec_l15Line.l0 k (bs b) i) (bs (b.take e), bs (b.drop (e + 2)), true) := by
    intro m
    induction m with
    | zero =>
      intro i hi
      obtain rfl : i = e := by omega
      refine Ev.step (fun _ => spec_l15Line.l0.eq_2 ..) ?_
      rw [w64n (by omega), w64 (x := (i : Int) + 2) (by omega) (by omega)]
      refine ev_pos (by rw [bs_size]; omega) (ev_pos (by omega) (ev_pos (by rw [bs_size]; omega) ?_))
      rw [bt_bs b i (by omega), bt_bs b (i + 1) he, h13, h10, e1, e2]
      exact ev_pos rfl (ev_pos (by omega) (ev_pos rfl (ev_pos (by rw [bs_size]; omega) (ev_pos (by omega) (ev_pos (by rw [bs_size]; omega) (ev_some rfl))))))
    | succ m ih =>
      intro i hi
      have h1 : i + 1 < b.length := by omega
      refine Ev.step (fun _ => spec_l15Line.l0.eq_2 ..) ?_
      rw [w64n (by omega)]
      refine ev_pos (by rw [bs_size]; omega) (ev_pos (by omega) (ev_pos (by rw [bs_size]; omega) ?_))
      rw [bt_bs b i (by omega), bt_bs b (i + 1) h1]
      by_cases hb : b[i] = 13
      · refine ev_pos (by rw [hb]; rfl) (ev_pos (by omega) (ev_neg (fun x => hn i (by omega) h1 ⟨hb, (u8_int (n := 10)).mp x⟩) (ih (i + 1) (by omega))))
      · exact ev_neg (fun x => hb ((u8_int (n := 13)).mp x)) (ih (i + 1) (by omega))
  unfold spec_l15Line.f
  exact loop e 0 (by omega)

/-- A line with its end: what both say of it. -/
theorem line_nntp (t : Bytes) (hl : t.length ≤ 3998) : ∃ p q, Ev (fun k => spec_l15Line.f k (bs (t ++ [13, 10]))) (p, q, true) ∧ (q.toList = [] → Ev (fun k => spec_l14Line.f k (bs t)) (t.all okB && decide (t.length ≤ 500))) ∧ (¬ q.toList = [] → t.all okB = false) := by
  have hlen : (t ++ [13, 10]).length = t.length + 2 := by simp
  have hend : Lib.occAt (t ++ [13, 10]) [13, 10] t.length = true := by
    rw [Lib.occAt]
    refine crlfAt.mpr ⟨by omega, by simp, ?_⟩
    rw [List.getElem_append_right (by omega)]; simp
  have hex : ∃ e : Nat, ∃ he : e + 1 < (t ++ [13, 10] : Bytes).length, (t ++ [13, 10] : Bytes)[e] = 13 ∧ (t ++ [13, 10] : Bytes)[e + 1] = 10 ∧ ∀ j : Nat, j < e → (h : j + 1 < (t ++ [13, 10] : Bytes).length) → ¬ ((t ++ [13, 10] : Bytes)[j] = 13 ∧ (t ++ [13, 10] : Bytes)[j + 1] = 10) := by
    rcases Lib.index_spec (t ++ [13, 10]) [13, 10] with ⟨_, hn⟩ | ⟨i, _, hile, ho, hno⟩
    · rw [hn t.length (by omega)] at hend; cases hend
    · obtain ⟨h1, h2, h3⟩ := crlfAt.mp ho
      refine ⟨i, h1, h2, h3, fun j hj h hx => ?_⟩
      have := hno j hj
      rw [Lib.occAt, crlfAt.mpr ⟨h, hx⟩] at this
      cases this
  obtain ⟨e, he, h13, h10, hmin⟩ := hex
  refine ⟨_, _, l15Line_ev (t ++ [13, 10]) (by omega) e he h13 h10 hmin, fun _ => l14Line_ev t (by omega), fun hq => ?_⟩
  rw [bs_toList] at hq
  have hlt : e < t.length := by
    rcases Nat.lt_or_ge e t.length with h | h
    · exact h
    · exact absurd (List.drop_of_length_le (by omega)) hq
  rw [List.getElem_append_left hlt] at h13
  rw [← Bool.not_eq_true]
  intro h
  have := List.all_eq_true.mp h _ (List.getElem_mem hlt)
  rw [h13] at this
  cases this

theorem crlf_bs : (⟨#[13, 10]⟩ : ByteArray) = bs [13, 10] := rfl
theorem sayOK_two (b : Bytes) (hl : b.length + 2 ≤ 4000) : Ev (fun k => impl_sayOK.f k (bs (b ++ [13, 10])) 2) (decide (b.length ≤ 500) && b.all okB) := by
  unfold impl_sayOK.f
  have hlen : (b ++ [13, 10]).length = b.length + 2 := by simp
  refine ev_pos rfl ?_
  rw [bs_size, hlen]
  by_cases h : b.length ≤ 500
  · rw [decide_eq_true h, Bool.true_and]
    refine ev_pos (by omega) ?_
    rw [w64 (by omega) (by omega)]
    refine ev_pos (by omega) (ev_pos (by omega) ?_)
    have e : (bs (b ++ [13, 10])).extract 0 (((b.length + 2 : Nat) : Int) - 2).toNat = bs b := by
      rw [bs_sub, show (((b.length + 2 : Nat) : Int) - 2).toNat = b.length by omega, List.take_left]; rfl
    rw [e]
    exact Ev.bind (allWithin_ev b (by omega)) (ev_some rfl)
  · rw [decide_eq_false h, Bool.false_and]
    exact ev_neg (by omega) (ev_some rfl)
theorem sayOK_one (b : Bytes) (hl : b.length + 2 ≤ 4000) : ∃ r, Ev (fun k => spec_l12Take.f k (bs (b ++ [13, 10]))) r ∧ Ev (fun k => impl_sayOK.f k (bs (b ++ [13, 10])) 1) (decide (r.2.2 = 0) && decide (r.2.1.toList = [])) := by
  obtain ⟨r, h1, h2⟩ := takeCommand_ev (b ++ [13, 10]) (by simp; omega)
  refine ⟨r, h1, ?_⟩
  unfold impl_sayOK.f
  refine ev_neg (by decide) (Ev.bind h2 ?_)
  by_cases h : r.2.2 = 0
  · rw [decide_eq_true h, Bool.true_and]
    refine ev_pos h (ev_some ?_)
    rw [Bool.eq_iff_iff]; simp
  · rw [decide_eq_false h, Bool.false_and]
    exact ev_neg h (ev_some rfl)

theorem say_loop (l : List ByteArray) (kind : Int) (hk : kind = 1 ∨ kind = 2) (hl : l.length ≤ 4096) (hs : ∀ t ∈ l, t.size ≤ 1048576) : ∀ (m i : Nat) (S x : List ByteArray), i + m = l.length → S.length = i → x.length = l.length → x.take i = S →
    ∃ res, Ev (fun k => spec_SayAll.l0 k l kind S i) res ∧ Ev (fun k => impl_SayAll.l0 k kind x l (l.length : Int) i) res ∧ res.1.length ≤ 4096 := by
  intro m
  induction m with
  | zero =>
    intro i S x hi hS hx hxs
    rw [List.take_of_length_le (by omega)] at hxs
    subst hxs
    exact ⟨(x, 0), Ev.step (fun _ => spec_SayAll.l0.eq_2 ..) (ev_neg (by omega) (ev_some rfl)), Ev.step (fun _ => impl_SayAll.l0.eq_2 ..) (ev_neg (by omega) (ev_some rfl)), by simp only; omega⟩
  | succ m ih =>
    intro i S x hi hS hx hxs
    have hlt : i < l.length := by omega
    have hsz := hs l[i] (List.getElem_mem hlt)
    obtain ⟨b, hb⟩ := bs_ex l[i]
    rw [hb, bs_size] at hsz
    have hfull : bs b ++ (⟨#[13, 10]⟩ : ByteArray) = bs (b ++ [13, 10]) := bs_append b [13, 10]
    have hlen : (b ++ [13, 10]).length = b.length + 2 := by simp
    have hget : rdOf ByteArray.empty l (i : Int) = bs b := by rw [rdOf_nat _ l i hlt, hb]
    have hset : rdOf ByteArray.empty (x.set i (bs (b ++ [13, 10]))) (i : Int) = bs (b ++ [13, 10]) := by
      rw [rdOf_nat _ _ i (by simp; omega), List.getElem_set_self]
    -- into the round, both
    have sIn : ∀ r, Ev (fun k => if ((bs (b ++ [13, 10])).size : Int) > 4000 then (some ((([] : List ByteArray)), 4)) else (if kind = 1 then ((spec_l12Take.f k (bs (b ++ [13, 10]))).bind fun bt124 => (if bt124.2.2 = 0 then (if (bt124.2.1.toList = ([] : List UInt8)) then (if S.length < 8796093022208 then (spec_SayAll.l0 k l kind (S ++ [bs (b ++ [13, 10])]) (((i + 1 : Nat) : Int))) else (none)) else (some ((([] : List ByteArray)), 3))) else (some ((([] : List ByteArray)), 3)))) else ((spec_l15Line.f k (bs (b ++ [13, 10]))).bind fun bt136 => (if bt136.2.2 = true then (if bt136.2.1.toList = ([] : List UInt8) then ((spec_l14Line.f k (bs b)).bind fun t140 => (if t140 = true then (if S.length < 8796093022208 then (spec_SayAll.l0 k l kind (S ++ [bs (b ++ [13, 10])]) (((i + 1 : Nat) : Int))) else (none)) else (some ((([] : List ByteArray)), 3)))) else (some ((([] : List ByteArray)), 3))) else (some ((([] : List ByteArray)), 3)))))) r → Ev (fun k => spec_SayAll.l0 k l kind S i) r := by
      intro r H
      refine Ev.step (fun _ => spec_SayAll.l0.eq_2 ..) ?_
      rw [hget, hfull, w64n (by omega)]
      exact ev_pos (by omega) (ev_pos (by omega) (ev_pos (by rw [bs_size]; omega) H))
    have iIn : ∀ r, Ev (fun k => if ((bs (b ++ [13, 10])).size : Int) > 4000 then (some (([] : List ByteArray), 4)) else ((impl_sayOK.f k (bs (b ++ [13, 10])) kind).bind fun t191 => (if t191 = true then (impl_SayAll.l0 k kind (x.set i (bs (b ++ [13, 10]))) l (l.length : Int) (((i + 1 : Nat) : Int))) else (some (([] : List ByteArray), 3))))) r → Ev (fun k => impl_SayAll.l0 k kind x l (l.length : Int) i) r := by
      intro r H
      refine Ev.step (fun _ => impl_SayAll.l0.eq_2 ..) ?_
      rw [hget, hfull, w64n (by omega), Int.toNat_natCast]
      refine ev_pos (by omega) (ev_pos (by omega) (ev_pos (by omega) (ev_pos (by rw [bs_size]; omega) (ev_pos (by omega) (ev_bindc rfl ?_)))))
      rw [hset]
      exact H
    by_cases h4 : 4000 < b.length + 2
    · exact ⟨([], 4), sIn _ (ev_pos (by rw [bs_size, hlen]; omega) (ev_some rfl)), iIn _ (ev_pos (by rw [bs_size, hlen]; omega) (ev_some rfl)), by simp⟩
    have hno : ¬ ((bs (b ++ [13, 10])).size : Int) > 4000 := by rw [bs_size, hlen]; omega
    obtain ⟨res, r1, r2, r3⟩ := ih (i + 1) (S ++ [bs (b ++ [13, 10])]) (x.set i (bs (b ++ [13, 10]))) (by omega) (by simp; omega) (by simpa using hx) (by
      rw [List.take_succ_eq_append_getElem (by simp; omega), List.take_set_of_le (Nat.le_refl _), hxs, List.getElem_set_self])
    rcases hk with rfl | rfl
    · obtain ⟨r, hr, hok⟩ := sayOK_one b (by omega)
      by_cases h0 : r.2.2 = 0
      · by_cases hq : r.2.1.toList = []
        · rw [decide_eq_true h0, decide_eq_true hq] at hok
          exact ⟨res, sIn _ (ev_neg hno (ev_pos rfl (Ev.bind hr (ev_pos h0 (ev_pos hq (ev_pos (by omega) r1)))))), iIn _ (ev_neg hno (Ev.bind hok (ev_pos rfl r2))), r3⟩
        · rw [decide_eq_false hq, Bool.and_false] at hok
          exact ⟨([], 3), sIn _ (ev_neg hno (ev_pos rfl (Ev.bind hr (ev_pos h0 (ev_neg hq (ev_some rfl)))))), iIn _ (ev_neg hno (Ev.bind hok (ev_neg (by simp) (ev_some rfl)))), by simp⟩
      · rw [decide_eq_false h0, Bool.false_and] at hok
        exact ⟨([], 3), sIn _ (ev_neg hno (ev_pos rfl (Ev.bind hr (ev_neg h0 (ev_some rfl))))), iIn _ (ev_neg hno (Ev.bind hok (ev_neg (by simp) (ev_some rfl)))), by simp⟩
    · have hok := sayOK_two b (by omega)
      obtain ⟨p, q, hr, hy, hn⟩ := line_nntp b (by omega)
      by_cases hq : q.toList = []
      · have hr2 := hy hq
        rw [Bool.and_comm] at hr2
        cases hb2 : (decide (b.length ≤ 500) && b.all okB) with
        | true =>
          rw [hb2] at hr2 hok
          exact ⟨res, sIn _ (ev_neg hno (ev_neg (by decide) (Ev.bind hr (ev_pos rfl (ev_pos hq (Ev.bind hr2 (ev_pos rfl (ev_pos (by omega) r1)))))))), iIn _ (ev_neg hno (Ev.bind hok (ev_pos rfl r2))), r3⟩
        | false =>
          rw [hb2] at hr2 hok
          exact ⟨([], 3), sIn _ (ev_neg hno (ev_neg (by decide) (Ev.bind hr (ev_pos rfl (ev_pos hq (Ev.bind hr2 (ev_neg (by simp) (ev_some rfl)))))))), iIn _ (ev_neg hno (Ev.bind hok (ev_neg (by simp) (ev_some rfl)))), by simp⟩
      · rw [hn hq, Bool.and_false] at hok
        exact ⟨([], 3), sIn _ (ev_neg hno (ev_neg (by decide) (Ev.bind hr (ev_pos rfl (ev_neg hq (ev_some rfl)))))), iIn _ (ev_neg hno (Ev.bind hok (ev_neg (by simp) (ev_some rfl)))), by simp⟩
theorem say_all (l : List ByteArray) (kind : Int) (hs : ∀ t ∈ l, t.size ≤ 1048576) : ∃ res, Ev (fun k => spec_SayAll.f k l kind) res ∧ Ev (fun k => impl_SayAll.f k l kind) res ∧ res.1.length ≤ 4096 := by
  unfold spec_SayAll.f impl_SayAll.f
  by_cases hl : 4096 < l.length
  · exact ⟨([], 2), ev_pos (by omega) (ev_some rfl), ev_pos (by omega) (ev_some rfl), by simp⟩
  have ij : ∀ kind, (kind = 1 ∨ kind = 2) → ∀ r, Ev (fun k => impl_SayAll.l0 k kind (List.replicate l.length (⟨#[]⟩ : ByteArray)) l (l.length : Int) ((0 : Nat) : Int)) r → Ev (fun k => impl_SayAll.j0 k l kind) r := fun kind _ r H =>
    Ev.step (fun _ => impl_SayAll.j0.eq_2 ..) (ev_pos (by omega) (ev_pos (by omega) H))
  by_cases h1 : kind = 1
  · subst h1
    obtain ⟨res, r1, r2, r3⟩ := say_loop l 1 (.inl rfl) (by omega) hs l.length 0 [] (List.replicate l.length ⟨#[]⟩) (by omega) rfl (by simp) (by simp)
    exact ⟨res, ev_neg (by omega) (ev_pos rfl (Ev.step (fun _ => spec_SayAll.j0.eq_2 ..) (ev_neg (by simp) r1))), ev_neg (by omega) (ev_pos rfl (ij 1 (.inl rfl) _ r2)), r3⟩
  by_cases h2 : kind = 2
  · subst h2
    obtain ⟨res, r1, r2, r3⟩ := say_loop l 2 (.inr rfl) (by omega) hs l.length 0 [] (List.replicate l.length ⟨#[]⟩) (by omega) rfl (by simp) (by simp)
    exact ⟨res, ev_neg (by omega) (ev_neg (by decide) (Ev.step (fun _ => spec_SayAll.j0.eq_2 ..) (ev_neg (by simp) r1))), ev_neg (by omega) (ev_neg (by decide) (ev_pos rfl (ij 2 (.inr rfl) _ r2))), r3⟩
  · exact ⟨([], 1), ev_neg (by omega) (ev_neg h1 (Ev.step (fun _ => spec_SayAll.j0.eq_2 ..) (ev_pos (by simpa using h2) (ev_some rfl)))), ev_neg (by omega) (ev_neg h1 (ev_neg h2 (ev_some rfl))), by simp⟩
/-- The law's answer: true. -/
theorem law_true (l : List ByteArray) (kind : Int) (hl : l.length ≤ maxLen) (hs : ∀ t ∈ l, t.size ≤ maxLen) : Ev (fun k => laws_FnExactSayAll.f k l kind) true := by
  obtain ⟨z, hz, hz2⟩ := szStringS_ev l hl hs
  unfold laws_FnExactSayAll.f
  refine Ev.bind hz ?_
  by_cases h0 : z < 0
  · exact ev_pos h0 (ev_some rfl)
  obtain ⟨hl2, hs2⟩ := hz2 (by omega)
  have hc := toStringS_ev l (by omega)
  obtain ⟨⟨g, c⟩, r1, r2, r3⟩ := say_all l kind hs2
  have hg := eqStringS_refl g (by simp only at r3; omega)
  obtain ⟨ms, hm1, hm2, hm3⟩ := markStringS_ev l 1 (by omega) (by omega)
  obtain ⟨gs, hg1, hg2, hg3⟩ := markStringS_ev g 1 (by omega) (by simp only at r3; omega)
  have hh := heldStringS_ev gs 1 (by omega) (by simp only at r3; omega) hg3
  rw [hg2] at hh
  refine ev_neg h0 (Ev.bind hc (Ev.bind r1 (Ev.bind hc (Ev.bind r2 (Ev.bind hg (ev_pos rfl ?_))))))
  simp only [bne_self_eq_false]
  refine Ev.step (fun _ => laws_FnExactSayAll.j0.eq_2 ..) (ev_neg (by simp) (Ev.bind hc (Ev.bind (eqStringS_refl l (by omega)) (ev_pos rfl (Ev.bind hm1 (ev_neg (by simp only; omega) (Ev.bind hg (ev_pos rfl ?_))))))))
  simp only [bne_self_eq_false]
  refine Ev.step (fun _ => laws_FnExactSayAll.j1.eq_2 ..) (ev_neg (by simp) (Ev.bind hg1 (Ev.bind hh (ev_neg (by omega) (ev_pos rfl (Ev.bind hc (Ev.bind r2 (Ev.bind hg (ev_pos rfl ?_)))))))))
  simp only [bne_self_eq_false]
  exact Ev.step (fun _ => laws_FnExactSayAll.j2.eq_2 ..) (ev_neg (by simp) (Ev.bind hh (ev_neg (by omega) (ev_pos rfl (ev_some rfl)))))
end Go.Proofs.YtnphhnhnmohfiaaDoor.PFnExactSayAll
