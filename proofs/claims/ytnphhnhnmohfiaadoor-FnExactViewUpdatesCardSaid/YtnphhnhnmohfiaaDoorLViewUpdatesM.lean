/- ViewUpdates: what is told of a view, both ways alike. Plain. -/
import Derived.Test.YtnphhnhnmohfiaaDoorLViewUpdates
set_option linter.unusedVariables false
set_option linter.unusedSimpArgs false
namespace Go.Proofs.YtnphhnhnmohfiaaDoor.PFnExactViewUpdates
open Go.RowKit Go.Proofs.YtnphhnhnmohfiaaDoorW.PrintWords
theorem gone_eqs (i g q : Nat) (h : g + q = i) (hi : i < 4096) : wrap64 ((i : Int) + 1) = ((i + 1 : Nat) : Int) ∧ wrap64 ((g : Int) + 1) = ((g + 1 : Nat) : Int) ∧ wrap64 (((i + 1 : Nat) : Int) - (g : Int)) = ((q + 1 : Nat) : Int) ∧ wrap64 ((q : Int) + 1) = ((q + 1 : Nat) : Int) := by
  refine ⟨w64n (by omega), w64n (by omega), ?_, w64n (by omega)⟩
  rw [w64 (by omega) (by omega)]; omega
theorem ex_eqs (q : Nat) (hq : q ≤ 5000) : Ev (fun k => spec_l00Digits.f k ((q : Nat) : Int)) (bs (Lib.decDigits q)) ∧ (Lib.decDigits q).length ≤ 20 ∧ (exT q).length ≤ 40 ∧ ((⟨#[42, 32]⟩ : ByteArray) ++ bs (Lib.decDigits q)) ++ (⟨#[32, 69, 88, 80, 85, 78, 71, 69, 13, 10]⟩ : ByteArray) = bs (exT q) := by
  refine ⟨digits_ev q (by omega), digits_len q (by omega), exT_len q (by omega), ?_⟩
  show (bs [42, 32] ++ bs _) ++ bs [32, 69, 88, 80, 85, 78, 71, 69, 13, 10] = _
  rw [bs_append, bs_append]; rfl
/-- The first half: what is gone. -/
theorem gone_both (n : ByteArray) (v x : Int) (l : List S67) (ks : List ByteArray) (hl : l.length ≤ 30) (hr : riseB 0 l) (vw : List Int) (hv : vw.length ≤ 4096) (hvr : riseI 0 vw) :
    ∀ (m i : Nat) (out : Bytes) (now : List Int) (gone : Nat), i + m = vw.length → out.length ≤ 40 * i → gone + now.length = i → (∀ u ∈ now, 0 < u) →
      ∃ o now', Ev (fun k => spec_l13Updates.l0 k vw (bs out) now (gone : Int) i n v x l ks) (bs o, now') ∧ Ev (fun k => impl_updates.l0 k (bs out) now vw (vw.length : Int) i n v x l ks) (bs o, now', n, v, x) ∧ now'.length ≤ 5000 := by
  intro m
  induction m with
  | zero =>
    intro i out now gone hi ho hg hp
    have hend : ¬ (i : Int) < (vw.length : Int) := by omega
    by_cases hz : now = []
    · subst hz
      obtain ⟨o, now', r1, r2, r3⟩ := new_both n v x l ks hl hr out (by omega) 0 (by omega) 0 (by omega) l.length 0 [] false (by omega) (by simp) (fun _ => ⟨rfl, fun _ => rfl, fun h => by simp at h⟩) (fun h => by cases h) (fun h => by cases h)
      refine ⟨o, now', Ev.step (fun _ => spec_l13Updates.l0.eq_2 ..) (ev_neg hend r1), Ev.step (fun _ => impl_updates.l0.eq_2 ..) (ev_neg hend (ev_neg (by simp) (Ev.step (fun _ => impl_updates.j1.eq_2 ..) r2))), r3⟩
    · have hq : 0 < now.length := List.length_pos_iff.mpr hz
      have hlast := hp _ (List.getElem_mem (by omega : now.length - 1 < now.length))
      obtain ⟨o, now', r1, r2, r3⟩ := new_both n v x l ks hl hr out (by omega) now.length (by omega) (now[now.length - 1]'(by omega)) (by omega) l.length 0 now false (by omega) (by omega) (fun _ => ⟨rfl, fun h => absurd h hz, fun _ => rfl⟩) (fun h => by cases h) (fun h => by cases h)
      have e1 : wrap64 ((now.length : Int) - 1) = ((now.length - 1 : Nat) : Int) := by rw [w64 (by omega) (by omega)]; omega
      refine ⟨o, now', Ev.step (fun _ => spec_l13Updates.l0.eq_2 ..) (ev_neg hend r1), Ev.step (fun _ => impl_updates.l0.eq_2 ..) (ev_neg hend (ev_pos (by omega) ?_)), r3⟩
      rw [e1, rdI now (now.length - 1) (by omega)]
      exact ev_pos (by omega) (ev_pos (by omega) (Ev.step (fun _ => impl_updates.j1.eq_2 ..) r2))
  | succ m ih =>
    intro i out now gone hi ho hg hp
    have hlt : i < vw.length := by omega
    have hb : (i : Int) < (vw.length : Int) := by omega
    have hS := mailS_ev n v x l ks hl vw[i]
    have hI : impl_Box_mailIndex.f n v x l ks vw[i] = some (idxU vw[i] l 0, n, v, x) := by unfold impl_Box_mailIndex.f; rw [if_pos (by omega)]
    have hui : ∀ (w : List Int) (b : Int) (i : Nat) (h : i < w.length), 0 ≤ b → riseI b w → 0 < w[i] := by
      intro w
      induction w with
      | nil => intro b i h; simp at h
      | cons a r ihw =>
        intro b i h h0 hr
        cases i with
        | zero => have := hr.1; simp; omega
        | succ j => have := hr.1; simpa using ihw a j (by simpa using h) (by omega) hr.2.2
    have hpos := hui vw 0 i hlt (by omega) hvr
    by_cases hneg : idxU vw[i] l 0 < 0
    · have E := Aside0.mk (gone_eqs i gone now.length hg (by omega))
      have X := Aside0.mk (ex_eqs (now.length + 1) (by omega))
      have hel := X.out.2.2.1
      have hdl := X.out.2.1
      obtain ⟨o, now', r1, r2, r3⟩ := ih (i + 1) (out ++ exT (now.length + 1)) now (gone + 1) (by omega) (by simp; omega) (by omega) hp
      refine ⟨o, now', ?_, ?_, r3⟩
      · refine Ev.step (fun _ => spec_l13Updates.l0.eq_2 ..) (ev_pos hb (ev_pos (by omega) ?_))
        rw [rdI vw i hlt, E.out.1, E.out.2.1, E.out.2.2.1]
        refine Ev.bind hS (ev_pos hneg (Ev.bind X.out.1 ?_))
        simp only [X.out.2.2.2]
        refine ev_pos (by rw [bs_size]; omega) (ev_pos ?_ (ev_pos (by rw [bs_size, bs_size]; omega) ?_))
        · show (bs [42, 32] ++ bs _).size + 10 ≤ _
          rw [bs_append, bs_size]; simp; omega
        · rw [bs_append]; exact r1
      · refine Ev.step (fun _ => impl_updates.l0.eq_2 ..) (ev_pos hb (ev_pos (by omega) (ev_pos hb ?_)))
        rw [rdI vw i hlt, E.out.1, E.out.2.2.2]
        refine ev_bindc hI (ev_pos hneg (ev_bindc (itoaF _ (by omega)) (ev_bindc (lineEx _ (by omega)) (ev_pos (by rw [bs_size, bs_size]; omega) ?_))))
        rw [bs_append]; exact r2
    · have e0 : wrap64 ((i : Int) + 1) = ((i + 1 : Nat) : Int) := w64n (by omega)
      obtain ⟨o, now', r1, r2, r3⟩ := ih (i + 1) out (now ++ [vw[i]]) gone (by omega) (by omega) (by simp; omega) (fun u hu => by
        rcases List.mem_append.mp hu with h | h
        · exact hp u h
        · obtain rfl := List.mem_singleton.mp h; exact hpos)
      refine ⟨o, now', ?_, ?_, r3⟩
      · refine Ev.step (fun _ => spec_l13Updates.l0.eq_2 ..) (ev_pos hb (ev_pos (by omega) ?_))
        rw [rdI vw i hlt, e0]
        exact Ev.bind hS (ev_neg hneg (ev_pos (by omega) r1))
      · refine Ev.step (fun _ => impl_updates.l0.eq_2 ..) (ev_pos hb (ev_pos (by omega) (ev_pos hb ?_)))
        rw [rdI vw i hlt, e0]
        exact ev_bindc hI (ev_neg hneg (ev_pos (by omega) r2))
theorem updates_both (n : ByteArray) (v x : Int) (l : List S67) (ks : List ByteArray) (hl : l.length ≤ 30) (hr : riseB 0 l) (vw : List Int) (hv : vw.length ≤ 4096) (hvr : riseI 0 vw) :
    ∃ o now', Ev (fun k => spec_l13Updates.f k n v x l ks vw) (bs o, now') ∧ Ev (fun k => impl_updates.f k n v x l ks vw) (bs o, now', n, v, x) ∧ now'.length ≤ 5000 := by
  obtain ⟨o, now', r1, r2, r3⟩ := gone_both n v x l ks hl hr vw hv hvr vw.length 0 [] [] 0 (by omega) (by simp) (by simp) (fun u hu => by cases hu)
  exact ⟨o, now', r1, r2, r3⟩
/-! Lists of texts: copied, alike, marked, held. -/
theorem eqStringS_refl (l : List ByteArray) (hl : l.length ≤ 1099511627776) : Ev (fun k => laws_eqStringS.f k l l) true := by
  have loop : ∀ m i : Nat, i + m = l.length → Ev (fun k => laws_eqStringS.l0 k l l i) true := by
    intro m
    induction m with
    | zero => intro i hi; exact Ev.step (fun _ => laws_eqStringS.l0.eq_2 ..) (ev_neg (by omega) (ev_some rfl))
    | succ m ih =>
      intro i hi
      refine Ev.step (fun _ => laws_eqStringS.l0.eq_2 ..) (ev_pos (by omega) (ev_pos (by omega) (ev_pos (by omega) (ev_pos rfl ?_))))
      rw [w64n (by omega)]
      exact ih (i + 1) (by omega)
  unfold laws_eqStringS.f
  exact ev_pos rfl (loop l.length 0 (by omega))
theorem toStringS_ev (l : List ByteArray) (hl : l.length ≤ 1099511627776) : Ev (fun k => laws_toStringS.f k l) l := by
  have loop : ∀ (m i : Nat) (a : List ByteArray), i + m = l.length → a.length = l.length → a.take i = l.take i → Ev (fun k => laws_toStringS.l0 k l a i) l := by
    intro m
    induction m with
    | zero =>
      intro i a hi ha ht
      rw [List.take_of_length_le (by omega), List.take_of_length_le (by omega)] at ht
      subst ht
      exact Ev.step (fun _ => laws_toStringS.l0.eq_2 ..) (ev_neg (by omega) (ev_some rfl))
    | succ m ih =>
      intro i a hi ha ht
      refine Ev.step (fun _ => laws_toStringS.l0.eq_2 ..) (ev_pos (by omega) (ev_pos (by omega) (ev_pos (by omega) ?_)))
      rw [w64n (by omega), rdOf_nat _ l i (by omega), Int.toNat_natCast]
      refine ih (i + 1) _ (by omega) (by simp; omega) ?_
      rw [List.take_succ_eq_append_getElem (by simp; omega), List.take_succ_eq_append_getElem (by omega : i < l.length), List.take_set_of_le (Nat.le_refl _), ht, List.getElem_set_self]
  unfold laws_toStringS.f
  refine ev_pos (by omega) (ev_pos (by omega) ?_)
  exact loop l.length 0 _ (by omega) (by simp) (by simp)
theorem szStringS_ev (l : List ByteArray) (hl : l.length ≤ maxLen) (hs : ∀ t ∈ l, t.size ≤ maxLen) : ∃ r, Ev (fun k => laws_szStringS.f k l 1048576) r ∧ (0 ≤ r → l.length ≤ 1048576 ∧ ∀ t ∈ l, t.size ≤ 1048576) := by
  unfold maxLen at hl hs
  have loop : ∀ (m i : Nat) (a : Int), i + m = l.length → 0 ≤ a → a ≤ 1048576 → ∃ r, Ev (fun k => laws_szStringS.l0 k l a i) r ∧ (0 ≤ r → ∀ t ∈ l.drop i, t.size ≤ 1048576) := by
    intro m
    induction m with
    | zero => intro i a hi h0 h1; exact ⟨a, Ev.step (fun _ => laws_szStringS.l0.eq_2 ..) (ev_neg (by omega) (ev_some rfl)), fun _ => by rw [List.drop_of_length_le (by omega)]; simp⟩
    | succ m ih =>
      intro i a hi h0 h1
      have hlt : i < l.length := by omega
      have hz := hs l[i] (List.getElem_mem hlt)
      by_cases hn : a - (l[i].size : Int) < 0
      · refine ⟨-1, Ev.step (fun _ => laws_szStringS.l0.eq_2 ..) (ev_pos (by omega) (ev_pos (by omega) ?_)), fun h => by omega⟩
        rw [rdOf_nat _ l i hlt, w64 (by omega) (by omega)]
        exact ev_pos hn (ev_some rfl)
      · obtain ⟨r, hr, hx⟩ := ih (i + 1) (a - (l[i].size : Int)) (by omega) (by omega) (by omega)
        refine ⟨r, Ev.step (fun _ => laws_szStringS.l0.eq_2 ..) (ev_pos (by omega) (ev_pos (by omega) ?_)), fun h => ?_⟩
        · rw [rdOf_nat _ l i hlt, w64 (by omega) (by omega)]
          refine ev_neg hn ?_
          rw [w64n (by omega)]
          exact hr
        · rw [List.drop_eq_getElem_cons hlt]
          intro t ht
          rcases List.mem_cons.mp ht with rfl | ht
          · omega
          · exact hx h t ht
  unfold laws_szStringS.f
  by_cases hn : (1048576 : Int) - (l.length : Int) < 0
  · refine ⟨-1, ?_, fun h => by omega⟩
    rw [w64 (by omega) (by omega)]
    exact ev_pos hn (ev_some rfl)
  · obtain ⟨r, hr, hx⟩ := loop l.length 0 ((1048576 : Int) - (l.length : Int)) (by omega) (by omega) (by omega)
    refine ⟨r, ?_, fun h => ⟨by omega, by simpa using hx h⟩⟩
    rw [w64 (by omega) (by omega)]
    exact ev_neg hn hr
theorem markText_ex (a : Int) (h0 : 0 < a) (h1 : a ≤ 1099511627776) : ∃ t, Ev (fun k => laws_markText.f k a) t := by
  have loop : ∀ (n : Nat) (x : Int) (o : ByteArray), x.toNat ≤ n → 0 ≤ x → x ≤ 1099511627776 → (o.size : Int) + x ≤ 1099511627776 → ∃ t, Ev (fun k => laws_markText.l0 k x o) t := by
    intro n
    induction n with
    | zero =>
      intro x o hn hx hx1 ho
      exact ⟨_, Ev.step (fun _ => laws_markText.l0.eq_2 ..) (ev_neg (by omega) (ev_pos (by omega) (ev_some rfl)))⟩
    | succ n ih =>
      intro x o hn hx hx1 ho
      by_cases hp : x > 0
      · have hq : Int.tdiv x 10 = x / 10 := Int.tdiv_eq_ediv_of_nonneg hx
        obtain ⟨t, ht⟩ := ih (x / 10) (strOfNums [wrap64 (48 + Int.tmod x 10) % 256] ++ o) (by omega) (by omega) (by omega) (by rw [ByteArray.size_append, strOfNums_size]; simp only [List.length_cons, List.length_nil]; omega)
        refine ⟨t, Ev.step (fun _ => laws_markText.l0.eq_2 ..) (ev_pos hp ?_)⟩
        refine ev_pos (by rw [strOfNums_size]; simp only [List.length_cons, List.length_nil]; omega) ?_
        rw [hq, w64 (x := x / 10) (by omega) (by omega)]
        exact ht
      · exact ⟨_, Ev.step (fun _ => laws_markText.l0.eq_2 ..) (ev_neg hp (ev_pos (by omega) (ev_some rfl)))⟩
  obtain ⟨t, ht⟩ := loop a.toNat a ⟨#[]⟩ (Nat.le_refl _) (by omega) h1 (by show ((0 : Nat) : Int) + a ≤ _; omega)
  refine ⟨t, ?_⟩
  unfold laws_markText.f
  exact ev_neg (by omega) ht
theorem markStringS_ev (l : List ByteArray) (a : Int) (h0 : 0 < a) (h1 : a + l.length ≤ 1099511627776) : ∃ ms, Ev (fun k => laws_markStringS.f k l a) (a + l.length, ms) ∧ ms.length = l.length ∧ ∀ (j : Nat) (h : j < ms.length), Ev (fun k => laws_markText.f k (a + j)) ms[j] := by
  have loop : ∀ (m i : Nat) (b : List ByteArray), i + m = l.length → b.length = l.length → (∀ (j : Nat) (h : j < b.length), j < i → Ev (fun k => laws_markText.f k (a + j)) b[j]) →
      ∃ ms, Ev (fun k => laws_markStringS.l0 k b (a + i) i) (a + l.length, ms) ∧ ms.length = l.length ∧ ∀ (j : Nat) (h : j < ms.length), Ev (fun k => laws_markText.f k (a + j)) ms[j] := by
    intro m
    induction m with
    | zero =>
      intro i b hi hb hj
      refine ⟨b, Ev.step (fun _ => laws_markStringS.l0.eq_2 ..) (ev_neg (by omega) (ev_some ?_)), hb, fun j h => hj j h (by omega)⟩
      rw [show i = l.length by omega]
    | succ m ih =>
      intro i b hi hb hj
      obtain ⟨t, ht⟩ := markText_ex (a + i) (by omega) (by omega)
      obtain ⟨ms, hms, hl, hE⟩ := ih (i + 1) (b.set i t) (by omega) (by simpa using hb) (fun j h hji => by
        have h' : j < b.length := by simpa using h
        by_cases e : j = i
        · subst e; rw [List.getElem_set_self]; exact ht
        · rw [List.getElem_set_ne (by omega)]; exact hj j h' (by omega))
      refine ⟨ms, Ev.step (fun _ => laws_markStringS.l0.eq_2 ..) (ev_pos (by omega) (Ev.bind ht (ev_pos (by omega) ?_))), hl, hE⟩
      rw [w64n (by omega), w64 (x := a + (i : Int) + 1) (by omega) (by omega), show a + (i : Int) + 1 = a + ((i + 1 : Nat) : Int) by omega, Int.toNat_natCast]
      exact hms
  unfold laws_markStringS.f
  have := loop l.length 0 l (by omega) rfl (fun j _ h => by omega)
  simpa using this
/-- All: both answer the same. -/
theorem all_both (n : ByteArray) (v x : Int) (l : List S67) (ks : List ByteArray) (hn : n.size ≤ 1099511627776) (vw : List Int) : ∃ o now' c, Ev (fun k => spec_ViewUpdates.f k n v x l ks vw) (o, now', c) ∧ Ev (fun k => impl_ViewUpdates.f k n v x l ks vw) (o, now', c) ∧ now'.length ≤ 5000 := by
  unfold spec_ViewUpdates.f impl_ViewUpdates.f
  by_cases hv : (vw.length : Int) > 4096
  · exact ⟨⟨#[]⟩, [], 2, ev_pos hv (ev_some rfl), ev_pos hv (ev_some rfl), by simp⟩
  obtain ⟨r, r1, r2, r3⟩ := box_both n v x l ks hn
  cases r with
  | false => exact ⟨⟨#[]⟩, [], 1, ev_neg hv (Ev.bind r1 (ev_neg (by simp) (ev_some rfl))), ev_neg hv (Ev.bind r2 (ev_neg (by simp) (ev_some rfl))), by simp⟩
  | true =>
    obtain ⟨q, q1, q2, q3⟩ := viewOK_both vw (by omega)
    cases q with
    | false => exact ⟨⟨#[]⟩, [], 1, ev_neg hv (Ev.bind r1 (ev_pos rfl (Ev.bind q1 (ev_neg (by simp) (ev_some rfl))))), ev_neg hv (Ev.bind r2 (ev_pos rfl (Ev.bind q2 (ev_neg (by simp) (ev_some rfl))))), by simp⟩
    | true =>
      obtain ⟨h1, h2⟩ := r3 rfl
      obtain ⟨o, now', p1, p2, p3⟩ := updates_both n v x l ks h2 h1 vw (by omega) (q3 rfl)
      exact ⟨bs o, now', 0, ev_neg hv (Ev.bind r1 (ev_pos rfl (Ev.bind q1 (ev_pos rfl (Ev.bind p1 (ev_some rfl)))))), ev_neg hv (Ev.bind r2 (ev_pos rfl (Ev.bind q2 (ev_pos rfl (Ev.bind p2 (ev_some rfl)))))), p3⟩
/-! The law's own functions. -/
theorem set_step {α : Type} (x S : List α) (i : Nat) (a : α) (hx : i < x.length) (h : x.take i = S) : (x.set i a).take (i + 1) = S ++ [a] := by
  rw [List.take_succ_eq_append_getElem (by simpa using hx), List.take_set_of_le (Nat.le_refl _), h, List.getElem_set_self]
theorem toIntS_ev (l : List Int) (hl : l.length ≤ 1099511627776) : Ev (fun k => laws_toIntS.f k l) l := by
  have loop : ∀ (m i : Nat) (x : List Int), i + m = l.length → x.length = l.length → x.take i = l.take i → Ev (fun k => laws_toIntS.l0 k l x i) l := by
    intro m
    induction m with
    | zero =>
      intro i x hi hx h
      rw [List.take_of_length_le (by omega), List.take_of_length_le (by omega)] at h
      exact Ev.step (fun _ => laws_toIntS.l0.eq_2 ..) (ev_neg (by omega) (ev_some h))
    | succ m ih =>
      intro i x hi hx h
      have hlt : i < l.length := by omega
      refine Ev.step (fun _ => laws_toIntS.l0.eq_2 ..) (ev_pos (by omega) (ev_pos (by omega) (ev_pos (by omega) ?_)))
      rw [rdI l i hlt, w64n (by omega), Int.toNat_natCast]
      refine ih (i + 1) _ (by omega) (by simpa using hx) ?_
      rw [set_step x _ i _ (by omega) h, List.take_succ_eq_append_getElem hlt]
  unfold laws_toIntS.f
  exact ev_pos (by omega) (ev_pos (by omega) (loop l.length 0 _ (by omega) (by simp) (by simp)))
def toS (x : S64) : S67 := ⟨x.f0, x.f1, x.f2⟩
theorem rd64 (l : List S64) (i : Nat) (h : i < l.length) : rd_T64 l (i : Int) = l[i] := by
  unfold rd_T64; simp [List.getD, List.getElem?_eq_getElem h]
theorem toStoredS_ev (l : List S64) (hl : l.length ≤ 1099511627776) : Ev (fun k => laws_toStoredS.f k l) (l.map toS) := by
  have loop : ∀ (m i : Nat) (x : List S67), i + m = l.length → x.length = l.length → x.take i = (l.take i).map toS → Ev (fun k => laws_toStoredS.l0 k l x i) (l.map toS) := by
    intro m
    induction m with
    | zero =>
      intro i x hi hx h
      rw [List.take_of_length_le (by omega), List.take_of_length_le (by omega)] at h
      exact Ev.step (fun _ => laws_toStoredS.l0.eq_2 ..) (ev_neg (by omega) (ev_some h))
    | succ m ih =>
      intro i x hi hx h
      have hlt : i < l.length := by omega
      refine Ev.step (fun _ => laws_toStoredS.l0.eq_2 ..) (ev_pos (by omega) (ev_pos (by omega) (ev_bindc rfl (ev_pos (by omega) ?_))))
      rw [rd64 l i hlt, w64n (by omega), Int.toNat_natCast]
      refine ih (i + 1) _ (by omega) (by simpa using hx) ?_
      rw [set_step x _ i _ (by omega) h, List.take_succ_eq_append_getElem hlt, List.map_append]; rfl
  unfold laws_toStoredS.f
  exact ev_pos (by omega) (ev_pos (by omega) (loop l.length 0 _ (by omega) (by simp) (by simp)))
theorem eqIntS_refl (l : List Int) (hl : l.length ≤ 1099511627776) : Ev (fun k => laws_eqIntS.f k l l) true := by
  have loop : ∀ (m i : Nat), i + m = l.length → Ev (fun k => laws_eqIntS.l0 k l l i) true := by
    intro m
    induction m with
    | zero => intro i hi; exact Ev.step (fun _ => laws_eqIntS.l0.eq_2 ..) (ev_neg (by omega) (ev_some rfl))
    | succ m ih =>
      intro i hi
      refine Ev.step (fun _ => laws_eqIntS.l0.eq_2 ..) (ev_pos (by omega) (ev_pos (by omega) (ev_pos (by omega) (ev_pos rfl ?_))))
      rw [w64n (by omega)]; exact ih (i + 1) (by omega)
  unfold laws_eqIntS.f
  exact ev_pos rfl (loop l.length 0 (by omega))
theorem eqStoredS_refl (l : List S67) (hl : l.length ≤ 1099511627776) : Ev (fun k => laws_eqStoredS.f k l l) true := by
  have loop : ∀ (m i : Nat), i + m = l.length → Ev (fun k => laws_eqStoredS.l0 k l l i) true := by
    intro m
    induction m with
    | zero => intro i hi; exact Ev.step (fun _ => laws_eqStoredS.l0.eq_2 ..) (ev_neg (by omega) (ev_some rfl))
    | succ m ih =>
      intro i hi
      refine Ev.step (fun _ => laws_eqStoredS.l0.eq_2 ..) (ev_pos (by omega) (ev_pos (by omega) (ev_pos (by omega) (ev_bindc (a := true) ?_ (ev_pos rfl ?_)))))
      · unfold laws_eqStored.f; rw [if_pos rfl, if_pos rfl, if_pos rfl]
      · rw [w64n (by omega)]; exact ih (i + 1) (by omega)
  unfold laws_eqStoredS.f
  exact ev_pos rfl (loop l.length 0 (by omega))
theorem markIntS_ev (l : List Int) (a : Int) (h0 : 0 < a) (h1 : a + l.length ≤ 1099511627776) : ∃ ms, Ev (fun k => laws_markIntS.f k l a) (a + l.length, ms) ∧ ms.length = l.length ∧ ∀ (j : Nat) (h : j < ms.length), ms[j] = a + j := by
  have loop : ∀ (m i : Nat) (x : List Int), i + m = l.length → x.length = l.length → (∀ (j : Nat) (h : j < x.length), j < i → x[j] = a + j) → ∃ ms, Ev (fun k => laws_markIntS.l0 k x (a + (i : Int)) i) (a + l.length, ms) ∧ ms.length = l.length ∧ ∀ (j : Nat) (h : j < ms.length), ms[j] = a + j := by
    intro m
    induction m with
    | zero =>
      intro i x hi hx h
      obtain rfl : i = l.length := by omega
      exact ⟨x, Ev.step (fun _ => laws_markIntS.l0.eq_2 ..) (ev_neg (by omega) (ev_some rfl)), hx, fun j hj => h j hj (by omega)⟩
    | succ m ih =>
      intro i x hi hx h
      obtain ⟨ms, r1, r2, r3⟩ := ih (i + 1) (x.set i (a + (i : Int))) (by omega) (by simpa using hx) (fun j hj hji => by
        by_cases e : j = i
        · subst e; rw [List.getElem_set_self]
        · rw [List.getElem_set_ne (fun q => e q.symm)]; exact h j (by simpa using hj) (by omega))
      refine ⟨ms, Ev.step (fun _ => laws_markIntS.l0.eq_2 ..) (ev_pos (by omega) (ev_pos (by omega) ?_)), r2, r3⟩
      rw [w64n (by omega), Int.toNat_natCast, w64 (x := a + (i : Int) + 1) (by omega) (by omega)]
      rw [show a + (i : Int) + 1 = a + ((i + 1 : Nat) : Int) by omega]
      exact r1
  unfold laws_markIntS.f
  have := loop l.length 0 l (by omega) rfl (fun j h hj => by omega)
  simpa using this
theorem heldIntS_ev (ms : List Int) (a : Int) (h0 : 0 < a) (h1 : a + ms.length ≤ 1099511627776) (h : ∀ (j : Nat) (h : j < ms.length), ms[j] = a + j) : Ev (fun k => laws_heldIntS.f k ms a) (a + ms.length) := by
  have loop : ∀ (m i : Nat), i + m = ms.length → Ev (fun k => laws_heldIntS.l0 k ms (a + (i : Int)) i) (a + ms.length) := by
    intro m
    induction m with
    | zero =>
      intro i hi
      obtain rfl : i = ms.length := by omega
      exact Ev.step (fun _ => laws_heldIntS.l0.eq_2 ..) (ev_neg (by omega) (ev_some rfl))
    | succ m ih =>
      intro i hi
      refine Ev.step (fun _ => laws_heldIntS.l0.eq_2 ..) (ev_pos (by omega) (ev_pos (by omega) ?_))
      rw [rdI ms i (by omega), w64n (by omega), w64 (x := a + (i : Int) + 1) (by omega) (by omega), show a + (i : Int) + 1 = a + ((i + 1 : Nat) : Int) by omega]
      exact ev_pos (h i (by omega)) (ih (i + 1) (by omega))
  unfold laws_heldIntS.f
  have := loop ms.length 0 (by omega)
  simpa using this
theorem szStoredS_ev (l : List S64) (hl : l.length ≤ maxLen) (hs : ∀ x ∈ l, x.f2.size ≤ maxLen) (left : Int) (h0 : 0 ≤ left) (h1 : left ≤ 1048576) : ∃ r, Ev (fun k => laws_szStoredS.f k l left) r ∧ r ≤ 1048576 ∧ (0 ≤ r → l.length ≤ 1048576 ∧ ∀ x ∈ l, x.f2.size ≤ 1048576) := by
  have hm : maxLen = 9223372036854775807 := by decide
  have one : ∀ (a b : Int) (t : ByteArray) (f : Int), t.size ≤ maxLen → 0 ≤ f → f ≤ 1048576 → laws_szStored.f a b t f = some (if f - (t.size : Int) < 0 then -1 else f - (t.size : Int)) := by
    intro a b t f ht h0 h1
    unfold laws_szStored.f
    rw [w64 (by omega) (by omega)]
    split <;> rfl
  have loop : ∀ (m i : Nat) (f : Int), i + m = l.length → 0 ≤ f → f ≤ 1048576 → ∃ r, Ev (fun k => laws_szStoredS.l0 k l f i) r ∧ r ≤ 1048576 ∧ (0 ≤ r → ∀ x ∈ l.drop i, x.f2.size ≤ 1048576) := by
    intro m
    induction m with
    | zero =>
      intro i f hi h0 h1
      exact ⟨f, Ev.step (fun _ => laws_szStoredS.l0.eq_2 ..) (ev_neg (by omega) (ev_some rfl)), h1, fun _ x hx => by rw [List.drop_of_length_le (by omega)] at hx; cases hx⟩
    | succ m ih =>
      intro i f hi h0 h1
      have hlt : i < l.length := by omega
      have ho := one (l[i]).f0 (l[i]).f1 (l[i]).f2 f (hs _ (List.getElem_mem hlt)) h0 h1
      by_cases hn : f - ((l[i]).f2.size : Int) < 0
      · rw [if_pos hn] at ho
        refine ⟨-1, Ev.step (fun _ => laws_szStoredS.l0.eq_2 ..) (ev_pos (by omega) (ev_pos (by omega) ?_)), by omega, fun h => by omega⟩
        rw [rd64 l i hlt]
        exact ev_bindc ho (ev_pos (by omega) (ev_some rfl))
      · rw [if_neg hn] at ho
        obtain ⟨r, r1, r2, r3⟩ := ih (i + 1) (f - ((l[i]).f2.size : Int)) (by omega) (by omega) (by omega)
        refine ⟨r, Ev.step (fun _ => laws_szStoredS.l0.eq_2 ..) (ev_pos (by omega) (ev_pos (by omega) ?_)), r2, fun h x hx => ?_⟩
        · rw [rd64 l i hlt, w64n (by omega)]
          exact ev_bindc ho (ev_neg hn r1)
        · rw [List.drop_eq_getElem_cons hlt] at hx
          rcases List.mem_cons.mp hx with rfl | hx
          · omega
          · exact r3 h x hx
  unfold laws_szStoredS.f
  rw [w64 (by omega) (by omega)]
  by_cases hn : left - (l.length : Int) < 0
  · exact ⟨-1, ev_pos hn (ev_some rfl), by omega, fun h => by omega⟩
  · obtain ⟨r, r1, r2, r3⟩ := loop l.length 0 (left - (l.length : Int)) (by omega) (by omega) (by omega)
    exact ⟨r, ev_neg hn r1, r2, fun h => ⟨by omega, by have := r3 h; rwa [List.drop_zero] at this⟩⟩
theorem toBox_ev (n : ByteArray) (v x : Int) (l : List S64) (ks : List ByteArray) (hl : l.length ≤ 1099511627776) (hk : ks.length ≤ 1099511627776) : Ev (fun k => laws_toBox.f k n v x l ks) (n, v, x, l.map toS, ks) := by
  unfold laws_toBox.f
  exact Ev.bind (toStoredS_ev l hl) (Ev.bind (toStringS_ev ks hk) (ev_some rfl))
theorem eqBox_refl (n : ByteArray) (v x : Int) (l : List S67) (ks : List ByteArray) (hl : l.length ≤ 1099511627776) (hk : ks.length ≤ 1099511627776) : Ev (fun k => laws_eqBox.f k n v x l ks n v x l ks) true := by
  unfold laws_eqBox.f
  exact ev_pos rfl (ev_pos rfl (ev_pos rfl (Ev.bind (eqStoredS_refl l hl) (ev_pos rfl (Ev.bind (eqStringS_refl ks hk) (ev_pos rfl (ev_some rfl)))))))
theorem szStringS_evG (l : List ByteArray) (hl : l.length ≤ maxLen) (hs : ∀ t ∈ l, t.size ≤ maxLen) (left : Int) (h0 : 0 ≤ left) (h1 : left ≤ 1048576) : ∃ r, Ev (fun k => laws_szStringS.f k l left) r ∧ r ≤ 1048576 ∧ (0 ≤ r → l.length ≤ 1048576 ∧ ∀ t ∈ l, t.size ≤ 1048576) := by
  have hm : maxLen = 9223372036854775807 := by decide
  rw [hm] at hl hs
  have loop : ∀ (m i : Nat) (a : Int), i + m = l.length → 0 ≤ a → a ≤ 1048576 → ∃ r, Ev (fun k => laws_szStringS.l0 k l a i) r ∧ r ≤ 1048576 ∧ (0 ≤ r → ∀ t ∈ l.drop i, t.size ≤ 1048576) := by
    intro m
    induction m with
    | zero => intro i a hi h0 h1; exact ⟨a, Ev.step (fun _ => laws_szStringS.l0.eq_2 ..) (ev_neg (by omega) (ev_some rfl)), h1, fun _ => by rw [List.drop_of_length_le (by omega)]; simp⟩
    | succ m ih =>
      intro i a hi h0 h1
      have hlt : i < l.length := by omega
      have hz := hs l[i] (List.getElem_mem hlt)
      by_cases hn : a - (l[i].size : Int) < 0
      · refine ⟨-1, Ev.step (fun _ => laws_szStringS.l0.eq_2 ..) (ev_pos (by omega) (ev_pos (by omega) ?_)), by omega, fun h => by omega⟩
        rw [rdOf_nat _ l i hlt, w64 (by omega) (by omega)]
        exact ev_pos hn (ev_some rfl)
      · obtain ⟨r, hr, hr1, hx⟩ := ih (i + 1) (a - (l[i].size : Int)) (by omega) (by omega) (by omega)
        refine ⟨r, Ev.step (fun _ => laws_szStringS.l0.eq_2 ..) (ev_pos (by omega) (ev_pos (by omega) ?_)), hr1, fun h => ?_⟩
        · rw [rdOf_nat _ l i hlt, w64 (by omega) (by omega)]
          refine ev_neg hn ?_
          rw [w64n (by omega)]
          exact hr
        · rw [List.drop_eq_getElem_cons hlt]
          intro t ht
          rcases List.mem_cons.mp ht with rfl | ht
          · omega
          · exact hx h t ht
  unfold laws_szStringS.f
  rw [w64 (by omega) (by omega)]
  by_cases hn : left - (l.length : Int) < 0
  · exact ⟨-1, ev_pos hn (ev_some rfl), by omega, fun h => by omega⟩
  · obtain ⟨r, r1, r2, r3⟩ := loop l.length 0 (left - (l.length : Int)) (by omega) (by omega) (by omega)
    exact ⟨r, ev_neg hn r1, r2, fun h => ⟨by omega, by have := r3 h; rwa [List.drop_zero] at this⟩⟩
theorem szBox_ev (n : ByteArray) (v x : Int) (l : List S64) (ks : List ByteArray) (hn : n.size ≤ maxLen) (hl : l.length ≤ maxLen) (hx : ∀ y ∈ l, y.f2.size ≤ maxLen) (hk : ks.length ≤ maxLen) (hs : ∀ t ∈ ks, t.size ≤ maxLen) (left : Int) (h0 : 0 ≤ left) (h1 : left ≤ 1048576) :
    ∃ r, Ev (fun k => laws_szBox.f k n v x l ks left) r ∧ r ≤ 1048576 ∧ (0 ≤ r → n.size ≤ 1048576 ∧ l.length ≤ 1048576 ∧ ks.length ≤ 1048576 ∧ (∀ y ∈ l, y.f2.size ≤ 1048576) ∧ ∀ t ∈ ks, t.size ≤ 1048576) := by
  have hm : maxLen = 9223372036854775807 := by decide
  rw [hm] at hn
  unfold laws_szBox.f
  rw [w64 (by omega) (by omega)]
  by_cases h : left - (n.size : Int) < 0
  · exact ⟨-1, ev_pos h (ev_some rfl), by omega, fun h => by omega⟩
  obtain ⟨r, r1, r2, r3⟩ := szStoredS_ev l hl hx (left - (n.size : Int)) (by omega) (by omega)
  by_cases h2 : r < 0
  · exact ⟨-1, ev_neg h (Ev.bind r1 (ev_pos h2 (ev_some rfl))), by omega, fun h => by omega⟩
  obtain ⟨q, q1, q2, q3⟩ := szStringS_evG ks hk hs r (by omega) (by omega)
  by_cases h3 : q < 0
  · exact ⟨-1, ev_neg h (Ev.bind r1 (ev_neg h2 (Ev.bind q1 (ev_pos h3 (ev_some rfl))))), by omega, fun h => by omega⟩
  · exact ⟨q, ev_neg h (Ev.bind r1 (ev_neg h2 (Ev.bind q1 (ev_neg h3 (ev_some rfl))))), by omega, fun h => ⟨by omega, (r3 (by omega)).1, (q3 h).1, (r3 (by omega)).2, (q3 h).2⟩⟩
theorem rd67s (l : List S67) (i : Nat) (h : i < l.length) : rd_T67 l (i : Int) = l[i] := by
  unfold rd_T67; simp [List.getD, List.getElem?_eq_getElem h]
theorem markStoredS_ev (l : List S67) (a : Int) (h0 : 0 < a) (h1 : a + 3 * l.length ≤ 1099511627776) : ∃ ms, Ev (fun k => laws_markStoredS.f k l a) (a + 3 * l.length, ms) ∧ ms.length = l.length := by
  have loop : ∀ (m i : Nat) (x : List S67), i + m = l.length → x.length = l.length → ∃ ms, Ev (fun k => laws_markStoredS.l0 k x (a + 3 * (i : Int)) i) (a + 3 * l.length, ms) ∧ ms.length = l.length := by
    intro m
    induction m with
    | zero =>
      intro i x hi hx
      obtain rfl : i = l.length := by omega
      exact ⟨x, Ev.step (fun _ => laws_markStoredS.l0.eq_2 ..) (ev_neg (by omega) (ev_some rfl)), hx⟩
    | succ m ih =>
      intro i x hi hx
      obtain ⟨t, ht⟩ := markText_ex (a + 3 * (i : Int) + 1 + 1) (by omega) (by omega)
      have e := Aside0.mk (show wrap64 (a + 3 * (i : Int) + 1) = a + 3 * (i : Int) + 1 from w64 (by omega) (by omega))
      have e2 := Aside0.mk (show wrap64 (a + 3 * (i : Int) + 1 + 1) = a + 3 * (i : Int) + 1 + 1 from w64 (by omega) (by omega))
      have e3 := Aside0.mk (show wrap64 (a + 3 * (i : Int) + 1 + 1 + 1) = a + 3 * ((i + 1 : Nat) : Int) by rw [w64 (by omega) (by omega)]; omega)
      let y : List S67 := (x.set i ⟨a + 3 * (i : Int), (rd_T67 x i).f1, (rd_T67 x i).f2⟩)
      let z : List S67 := (y.set i ⟨(rd_T67 y i).f0, a + 3 * (i : Int) + 1, (rd_T67 y i).f2⟩)
      obtain ⟨ms, r1, r2⟩ := ih (i + 1) (z.set i ⟨(rd_T67 z i).f0, (rd_T67 z i).f1, t⟩) (by omega) (by simp [z, y]; omega)
      refine ⟨ms, Ev.step (fun _ => laws_markStoredS.l0.eq_2 ..) (ev_pos (by omega) (ev_pos (by omega) (ev_bindc (a := y) rfl (ev_bindc (a := z) ?_ ?_)))), r2⟩
      · rw [e.out, Int.toNat_natCast]
      · rw [e.out, e2.out, e3.out, w64n (by omega), Int.toNat_natCast]
        exact Ev.bind ht r1
  unfold laws_markStoredS.f
  have := loop l.length 0 l (by omega) rfl
  simpa using this
theorem markBox_ev (n : ByteArray) (v x : Int) (l : List S67) (ks : List ByteArray) (a : Int) (h0 : 0 < a) (h1 : a + 3 * l.length + ks.length ≤ 1099511627776) : ∃ ms mk, Ev (fun k => laws_markBox.f k n v x l ks a) (a + 3 * l.length + ks.length, ms, mk) := by
  obtain ⟨ms, r1, r2⟩ := markStoredS_ev l a h0 (by omega)
  obtain ⟨mk, q1, q2, q3⟩ := markStringS_ev ks (a + 3 * l.length) (by omega) (by omega)
  unfold laws_markBox.f
  exact ⟨ms, mk, Ev.bind r1 (Ev.bind q1 (ev_some rfl))⟩
end Go.Proofs.YtnphhnhnmohfiaaDoor.PFnExactViewUpdates
