import Derived.Test.YtifkmkiljpeaaacGreatLWorW
import Derived.Test.YtifkmkiljpeaaacGreatPFnExactWorldOKxI
set_option linter.unusedVariables false
set_option linter.unusedSimpArgs false
namespace Go.Proofs.YtifkmkiljpeaaacGreat.PFnExactWorldOK
open Go.RowKit Go.Proofs.YtifkmkiljpeaaacGreatW.PrintWords
theorem set_step {α : Type} (x S : List α) (i : Nat) (a : α) (hx : i < x.length) (h : x.take i = S) : (x.set i a).take (i + 1) = S ++ [a] := by
  rw [List.take_succ_eq_append_getElem (by simpa using hx), List.take_set_of_le (Nat.le_refl _), h, List.getElem_set_self]
def toS (x : S152) : S109 := ⟨x.f0, x.f1, x.f2⟩
theorem rd64 (l : List S152) (i : Nat) (h : i < l.length) : rd_T152 l (i : Int) = l[i] := by
  unfold rd_T152; simp [List.getD, List.getElem?_eq_getElem h]
theorem toStoredS_ev (l : List S152) (hl : l.length ≤ 1099511627776) : Ev (fun k => laws_toStoredS.f k l) (l.map toS) := by
  have loop : ∀ (m i : Nat) (x : List S109), i + m = l.length → x.length = l.length → x.take i = (l.take i).map toS → Ev (fun k => laws_toStoredS.l0 k l x i) (l.map toS) := by
    intro m
    induction m with
    | zero =>
      intro i x hi hx h
      rw [List.take_of_length_le (by omega), List.take_of_length_le (by omega)] at h
      exact Ev.step (fun _ => laws_toStoredS.l0.eq_2 ..) (ev_neg (by omega) (ev_some h))
    | succ m ih =>
      intro i x hi hx h
      have hlt : i < l.length := by omega
      refine Ev.step (fun _ => laws_toStoredS.l0.eq_2 ..) (ev_pos (by omega) (ev_pos (by omega) (ev_bindc rfl (ev_pos (by omega) ?_))))
      rw [rd64 l i hlt, w64n (by omega), Int.toNat_natCast]
      refine ih (i + 1) _ (by omega) (by simpa using hx) ?_
      rw [set_step x _ i _ (by omega) h, List.take_succ_eq_append_getElem hlt, List.map_append]; rfl
  unfold laws_toStoredS.f
  exact ev_pos (by omega) (ev_pos (by omega) (loop l.length 0 _ (by omega) (by simp) (by simp)))
theorem eqStoredS_refl (l : List S109) (hl : l.length ≤ 1099511627776) : Ev (fun k => laws_eqStoredS.f k l l) true := by
  have loop : ∀ (m i : Nat), i + m = l.length → Ev (fun k => laws_eqStoredS.l0 k l l i) true := by
    intro m
    induction m with
    | zero => intro i hi; exact Ev.step (fun _ => laws_eqStoredS.l0.eq_2 ..) (ev_neg (by omega) (ev_some rfl))
    | succ m ih =>
      intro i hi
      refine Ev.step (fun _ => laws_eqStoredS.l0.eq_2 ..) (ev_pos (by omega) (ev_pos (by omega) (ev_pos (by omega) (ev_bindc (a := true) ?_ (ev_pos rfl ?_)))))
      · unfold laws_eqStored.f; rw [if_pos rfl, if_pos rfl, if_pos rfl]
      · rw [w64n (by omega)]; exact ih (i + 1) (by omega)
  unfold laws_eqStoredS.f
  exact ev_pos rfl (loop l.length 0 (by omega))
theorem toStringS_ev (l : List ByteArray) (hl : l.length ≤ 1099511627776) : Ev (fun k => laws_toStringS.f k l) l := by
  have loop : ∀ (m i : Nat) (a : List ByteArray), i + m = l.length → a.length = l.length → a.take i = l.take i → Ev (fun k => laws_toStringS.l0 k l a i) l := by
    intro m
    induction m with
    | zero =>
      intro i a hi ha ht
      rw [List.take_of_length_le (by omega), List.take_of_length_le (by omega)] at ht
      subst ht
      exact Ev.step (fun _ => laws_toStringS.l0.eq_2 ..) (ev_neg (by omega) (ev_some rfl))
    | succ m ih =>
      intro i a hi ha ht
      refine Ev.step (fun _ => laws_toStringS.l0.eq_2 ..) (ev_pos (by omega) (ev_pos (by omega) (ev_pos (by omega) ?_)))
      rw [w64n (by omega), rdOf_nat _ l i (by omega), Int.toNat_natCast]
      refine ih (i + 1) _ (by omega) (by simp; omega) ?_
      rw [List.take_succ_eq_append_getElem (by simp; omega), List.take_succ_eq_append_getElem (by omega : i < l.length), List.take_set_of_le (Nat.le_refl _), ht, List.getElem_set_self]
  unfold laws_toStringS.f
  refine ev_pos (by omega) (ev_pos (by omega) ?_)
  exact loop l.length 0 _ (by omega) (by simp) (by simp)
theorem eqStringS_refl (l : List ByteArray) (hl : l.length ≤ 1099511627776) : Ev (fun k => laws_eqStringS.f k l l) true := by
  have loop : ∀ m i : Nat, i + m = l.length → Ev (fun k => laws_eqStringS.l0 k l l i) true := by
    intro m
    induction m with
    | zero => intro i hi; exact Ev.step (fun _ => laws_eqStringS.l0.eq_2 ..) (ev_neg (by omega) (ev_some rfl))
    | succ m ih =>
      intro i hi
      refine Ev.step (fun _ => laws_eqStringS.l0.eq_2 ..) (ev_pos (by omega) (ev_pos (by omega) (ev_pos (by omega) (ev_pos rfl ?_))))
      rw [w64n (by omega)]
      exact ih (i + 1) (by omega)
  unfold laws_eqStringS.f
  exact ev_pos rfl (loop l.length 0 (by omega))
theorem szStoredS_ev (l : List S152) (hl : l.length ≤ maxLen) (hs : ∀ x ∈ l, x.f2.size ≤ maxLen) (left : Int) (h0 : 0 ≤ left) (h1 : left ≤ 1048576) : ∃ r, Ev (fun k => laws_szStoredS.f k l left) r ∧ r ≤ 1048576 ∧ (0 ≤ r → l.length ≤ 1048576 ∧ ∀ x ∈ l, x.f2.size ≤ 1048576) := by
  have hm : maxLen = 9223372036854775807 := by decide
  have one : ∀ (a b : Int) (t : ByteArray) (f : Int), t.size ≤ maxLen → 0 ≤ f → f ≤ 1048576 → laws_szStored.f a b t f = some (if f - (t.size : Int) < 0 then -1 else f - (t.size : Int)) := by
    intro a b t f ht h0 h1
    unfold laws_szStored.f
    rw [w64 (by omega) (by omega)]
    split <;> rfl
  have loop : ∀ (m i : Nat) (f : Int), i + m = l.length → 0 ≤ f → f ≤ 1048576 → ∃ r, Ev (fun k => laws_szStoredS.l0 k l f i) r ∧ r ≤ 1048576 ∧ (0 ≤ r → ∀ x ∈ l.drop i, x.f2.size ≤ 1048576) := by
    intro m
    induction m with
    | zero =>
      intro i f hi h0 h1
      exact ⟨f, Ev.step (fun _ => laws_szStoredS.l0.eq_2 ..) (ev_neg (by omega) (ev_some rfl)), h1, fun _ x hx => by rw [List.drop_of_length_le (by omega)] at hx; cases hx⟩
    | succ m ih =>
      intro i f hi h0 h1
      have hlt : i < l.length := by omega
      have ho := one (l[i]).f0 (l[i]).f1 (l[i]).f2 f (hs _ (List.getElem_mem hlt)) h0 h1
      by_cases hn : f - ((l[i]).f2.size : Int) < 0
      · rw [if_pos hn] at ho
        refine ⟨-1, Ev.step (fun _ => laws_szStoredS.l0.eq_2 ..) (ev_pos (by omega) (ev_pos (by omega) ?_)), by omega, fun h => by omega⟩
        rw [rd64 l i hlt]
        exact ev_bindc ho (ev_pos (by omega) (ev_some rfl))
      · rw [if_neg hn] at ho
        obtain ⟨r, r1, r2, r3⟩ := ih (i + 1) (f - ((l[i]).f2.size : Int)) (by omega) (by omega) (by omega)
        refine ⟨r, Ev.step (fun _ => laws_szStoredS.l0.eq_2 ..) (ev_pos (by omega) (ev_pos (by omega) ?_)), r2, fun h x hx => ?_⟩
        · rw [rd64 l i hlt, w64n (by omega)]
          exact ev_bindc ho (ev_neg hn r1)
        · rw [List.drop_eq_getElem_cons hlt] at hx
          rcases List.mem_cons.mp hx with rfl | hx
          · omega
          · exact r3 h x hx
  unfold laws_szStoredS.f
  rw [w64 (by omega) (by omega)]
  by_cases hn : left - (l.length : Int) < 0
  · exact ⟨-1, ev_pos hn (ev_some rfl), by omega, fun h => by omega⟩
  · obtain ⟨r, r1, r2, r3⟩ := loop l.length 0 (left - (l.length : Int)) (by omega) (by omega) (by omega)
    exact ⟨r, ev_neg hn r1, r2, fun h => ⟨by omega, by have := r3 h; rwa [List.drop_zero] at this⟩⟩
theorem toBox_ev (n : ByteArray) (v x : Int) (l : List S152) (ks : List ByteArray) (hl : l.length ≤ 1099511627776) (hk : ks.length ≤ 1099511627776) : Ev (fun k => laws_toBox.f k n v x l ks) (n, v, x, l.map toS, ks) := by
  unfold laws_toBox.f
  exact Ev.bind (toStoredS_ev l hl) (Ev.bind (toStringS_ev ks hk) (ev_some rfl))
theorem eqBox_refl (n : ByteArray) (v x : Int) (l : List S109) (ks : List ByteArray) (hl : l.length ≤ 1099511627776) (hk : ks.length ≤ 1099511627776) : Ev (fun k => laws_eqBox.f k n v x l ks n v x l ks) true := by
  unfold laws_eqBox.f
  exact ev_pos rfl (ev_pos rfl (ev_pos rfl (Ev.bind (eqStoredS_refl l hl) (ev_pos rfl (Ev.bind (eqStringS_refl ks hk) (ev_pos rfl (ev_some rfl)))))))
theorem szStringS_evG (l : List ByteArray) (hl : l.length ≤ maxLen) (hs : ∀ t ∈ l, t.size ≤ maxLen) (left : Int) (h0 : 0 ≤ left) (h1 : left ≤ 1048576) : ∃ r, Ev (fun k => laws_szStringS.f k l left) r ∧ r ≤ 1048576 ∧ (0 ≤ r → l.length ≤ 1048576 ∧ ∀ t ∈ l, t.size ≤ 1048576) := by
  have hm : maxLen = 9223372036854775807 := by decide
  rw [hm] at hl hs
  have loop : ∀ (m i : Nat) (a : Int), i + m = l.length → 0 ≤ a → a ≤ 1048576 → ∃ r, Ev (fun k => laws_szStringS.l0 k l a i) r ∧ r ≤ 1048576 ∧ (0 ≤ r → ∀ t ∈ l.drop i, t.size ≤ 1048576) := by
    intro m
    induction m with
    | zero => intro i a hi h0 h1; exact ⟨a, Ev.step (fun _ => laws_szStringS.l0.eq_2 ..) (ev_neg (by omega) (ev_some rfl)), h1, fun _ => by rw [List.drop_of_length_le (by omega)]; simp⟩
    | succ m ih =>
      intro i a hi h0 h1
      have hlt : i < l.length := by omega
      have hz := hs l[i] (List.getElem_mem hlt)
      by_cases hn : a - (l[i].size : Int) < 0
      · refine ⟨-1, Ev.step (fun _ => laws_szStringS.l0.eq_2 ..) (ev_pos (by omega) (ev_pos (by omega) ?_)), by omega, fun h => by omega⟩
        rw [rdOf_nat _ l i hlt, w64 (by omega) (by omega)]
        exact ev_pos hn (ev_some rfl)
      · obtain ⟨r, hr, hr1, hx⟩ := ih (i + 1) (a - (l[i].size : Int)) (by omega) (by omega) (by omega)
        refine ⟨r, Ev.step (fun _ => laws_szStringS.l0.eq_2 ..) (ev_pos (by omega) (ev_pos (by omega) ?_)), hr1, fun h => ?_⟩
        · rw [rdOf_nat _ l i hlt, w64 (by omega) (by omega)]
          refine ev_neg hn ?_
          rw [w64n (by omega)]
          exact hr
        · rw [List.drop_eq_getElem_cons hlt]
          intro t ht
          rcases List.mem_cons.mp ht with rfl | ht
          · omega
          · exact hx h t ht
  unfold laws_szStringS.f
  rw [w64 (by omega) (by omega)]
  by_cases hn : left - (l.length : Int) < 0
  · exact ⟨-1, ev_pos hn (ev_some rfl), by omega, fun h => by omega⟩
  · obtain ⟨r, r1, r2, r3⟩ := loop l.length 0 (left - (l.length : Int)) (by omega) (by omega) (by omega)
    exact ⟨r, ev_neg hn r1, r2, fun h => ⟨by omega, by have := r3 h; rwa [List.drop_zero] at this⟩⟩
theorem szBox_ev (n : ByteArray) (v x : Int) (l : List S152) (ks : List ByteArray) (hn : n.size ≤ maxLen) (hl : l.length ≤ maxLen) (hx : ∀ y ∈ l, y.f2.size ≤ maxLen) (hk : ks.length ≤ maxLen) (hs : ∀ t ∈ ks, t.size ≤ maxLen) (left : Int) (h0 : 0 ≤ left) (h1 : left ≤ 1048576) :
    ∃ r, Ev (fun k => laws_szBox.f k n v x l ks left) r ∧ r ≤ 1048576 ∧ (0 ≤ r → n.size ≤ 1048576 ∧ l.length ≤ 1048576 ∧ ks.length ≤ 1048576 ∧ (∀ y ∈ l, y.f2.size ≤ 1048576) ∧ ∀ t ∈ ks, t.size ≤ 1048576) := by
  have hm : maxLen = 9223372036854775807 := by decide
  rw [hm] at hn
  unfold laws_szBox.f
  rw [w64 (by omega) (by omega)]
  by_cases h : left - (n.size : Int) < 0
  · exact ⟨-1, ev_pos h (ev_some rfl), by omega, fun h => by omega⟩
  obtain ⟨r, r1, r2, r3⟩ := szStoredS_ev l hl hx (left - (n.size : Int)) (by omega) (by omega)
  by_cases h2 : r < 0
  · exact ⟨-1, ev_neg h (Ev.bind r1 (ev_pos h2 (ev_some rfl))), by omega, fun h => by omega⟩
  obtain ⟨q, q1, q2, q3⟩ := szStringS_evG ks hk hs r (by omega) (by omega)
  by_cases h3 : q < 0
  · exact ⟨-1, ev_neg h (Ev.bind r1 (ev_neg h2 (Ev.bind q1 (ev_pos h3 (ev_some rfl))))), by omega, fun h => by omega⟩
  · exact ⟨q, ev_neg h (Ev.bind r1 (ev_neg h2 (Ev.bind q1 (ev_neg h3 (ev_some rfl))))), by omega, fun h => ⟨by omega, (r3 (by omega)).1, (q3 h).1, (r3 (by omega)).2, (q3 h).2⟩⟩
def toB (b : S91) : S98 := ⟨b.f0, b.f1, b.f2, b.f3.map toS, b.f4⟩
theorem rd54 (l : List S91) (i : Nat) (h : i < l.length) : rd_T91 l (i : Int) = l[i] := by
  unfold rd_T91; simp [List.getD, List.getElem?_eq_getElem h]
def InB (b : S91) : Prop := b.f0.size ≤ maxLen ∧ b.f3.length ≤ maxLen ∧ (∀ y ∈ b.f3, y.f2.size ≤ maxLen) ∧ b.f4.length ≤ maxLen ∧ ∀ t ∈ b.f4, t.size ≤ maxLen
def FewB (b : S91) : Prop := b.f0.size ≤ 1048576 ∧ b.f3.length ≤ 1048576 ∧ b.f4.length ≤ 1048576
theorem toBoxS_ev (l : List S91) (hl : l.length ≤ 1048576) (hb : ∀ b ∈ l, FewB b) : Ev (fun k => laws_toBoxS.f k l) (l.map toB) := by
  have loop : ∀ (m i : Nat) (x : List S98), i + m = l.length → x.length = l.length → x.take i = (l.take i).map toB → Ev (fun k => laws_toBoxS.l0 k l x i) (l.map toB) := by
    intro m
    induction m with
    | zero =>
      intro i x hi hx h
      rw [List.take_of_length_le (by omega), List.take_of_length_le (by omega)] at h
      exact Ev.step (fun _ => laws_toBoxS.l0.eq_2 ..) (ev_neg (by omega) (ev_some h))
    | succ m ih =>
      intro i x hi hx h
      have hlt : i < l.length := by omega
      obtain ⟨-, b3, b4⟩ := hb l[i] (List.getElem_mem hlt)
      refine Ev.step (fun _ => laws_toBoxS.l0.eq_2 ..) (ev_pos (by omega) (ev_pos (by omega) ?_))
      rw [rd54 l i hlt, w64n (by omega), Int.toNat_natCast]
      refine Ev.bind (toBox_ev l[i].f0 l[i].f1 l[i].f2 l[i].f3 l[i].f4 (by omega) (by omega)) (ev_pos (by omega) ?_)
      refine ih (i + 1) _ (by omega) (by simpa using hx) ?_
      rw [set_step x _ i _ (by omega) h, List.take_succ_eq_append_getElem hlt, List.map_append]; rfl
  unfold laws_toBoxS.f
  exact ev_pos (by omega) (ev_pos (by omega) (loop l.length 0 _ (by omega) (by simp) (by simp)))
theorem eqBoxS_refl (l : List S98) (hl : l.length ≤ 1048576) (hb : ∀ b ∈ l, b.f3.length ≤ 1048576 ∧ b.f4.length ≤ 1048576) : Ev (fun k => laws_eqBoxS.f k l l) true := by
  have loop : ∀ (m i : Nat), i + m = l.length → Ev (fun k => laws_eqBoxS.l0 k l l i) true := by
    intro m
    induction m with
    | zero => intro i hi; exact Ev.step (fun _ => laws_eqBoxS.l0.eq_2 ..) (ev_neg (by omega) (ev_some rfl))
    | succ m ih =>
      intro i hi
      have hlt : i < l.length := by omega
      have hz := hb l[i] (List.getElem_mem hlt)
      refine Ev.step (fun _ => laws_eqBoxS.l0.eq_2 ..) (ev_pos (by omega) (ev_pos (by omega) (ev_pos (by omega) ?_)))
      rw [rdBox l i hlt, w64n (by omega)]
      exact Ev.bind (eqBox_refl l[i].f0 l[i].f1 l[i].f2 l[i].f3 l[i].f4 (by omega) (by omega)) (ev_pos rfl (ih (i + 1) (by omega)))
  unfold laws_eqBoxS.f
  exact ev_pos rfl (loop l.length 0 (by omega))
theorem szBoxS_ev (l : List S91) (hl : l.length ≤ maxLen) (hs : ∀ b ∈ l, InB b) (left : Int) (h0 : 0 ≤ left) (h1 : left ≤ 1048576) : ∃ r, Ev (fun k => laws_szBoxS.f k l left) r ∧ r ≤ 1048576 ∧ (0 ≤ r → l.length ≤ 1048576 ∧ ∀ b ∈ l, FewB b) := by
  have hm : maxLen = 9223372036854775807 := by decide
  have loop : ∀ (m i : Nat) (f : Int), i + m = l.length → 0 ≤ f → f ≤ 1048576 → ∃ r, Ev (fun k => laws_szBoxS.l0 k l f i) r ∧ r ≤ 1048576 ∧ (0 ≤ r → ∀ b ∈ l.drop i, FewB b) := by
    intro m
    induction m with
    | zero =>
      intro i f hi h0 h1
      exact ⟨f, Ev.step (fun _ => laws_szBoxS.l0.eq_2 ..) (ev_neg (by omega) (ev_some rfl)), h1, fun _ x hx => by rw [List.drop_of_length_le (by omega)] at hx; cases hx⟩
    | succ m ih =>
      intro i f hi h0 h1
      have hlt : i < l.length := by omega
      obtain ⟨a1, a2, a3, a4, a5⟩ := hs l[i] (List.getElem_mem hlt)
      obtain ⟨z, z1, z2, z3⟩ := szBox_ev l[i].f0 l[i].f1 l[i].f2 l[i].f3 l[i].f4 a1 a2 a3 a4 a5 f h0 h1
      by_cases hn : z < 0
      · refine ⟨-1, Ev.step (fun _ => laws_szBoxS.l0.eq_2 ..) (ev_pos (by omega) (ev_pos (by omega) ?_)), by omega, fun h => by omega⟩
        rw [rd54 l i hlt]
        exact Ev.bind z1 (ev_pos hn (ev_some rfl))
      · obtain ⟨r, r1, rm, r2⟩ := ih (i + 1) z (by omega) (by omega) z2
        obtain ⟨c1, c2, c3, -, -⟩ := z3 (by omega)
        refine ⟨r, Ev.step (fun _ => laws_szBoxS.l0.eq_2 ..) (ev_pos (by omega) (ev_pos (by omega) ?_)), rm, fun h x hx => ?_⟩
        · rw [rd54 l i hlt, w64n (by omega)]
          exact Ev.bind z1 (ev_neg hn r1)
        · rw [List.drop_eq_getElem_cons hlt] at hx
          rcases List.mem_cons.mp hx with rfl | hx
          · exact ⟨c1, c2, c3⟩
          · exact r2 h x hx
  unfold laws_szBoxS.f
  rw [w64 (by omega) (by omega)]
  by_cases hn : left - (l.length : Int) < 0
  · exact ⟨-1, ev_pos hn (ev_some rfl), by omega, fun h => by omega⟩
  · obtain ⟨r, r1, rm, r2⟩ := loop l.length 0 (left - (l.length : Int)) (by omega) (by omega) (by omega)
    exact ⟨r, ev_neg hn r1, rm, fun h => ⟨by omega, by have := r2 h; rwa [List.drop_zero] at this⟩⟩
theorem szEngine_ev (room : Int) (t : ByteArray) (sure : Int) (l : List S91) (ht : t.size ≤ maxLen) (hl : l.length ≤ maxLen) (hs : ∀ b ∈ l, InB b) : ∃ r, Ev (fun k => laws_szEngine.f k room t sure l 1048576) r ∧ r ≤ 1048576 ∧ (0 ≤ r → l.length ≤ 1048576 ∧ ∀ b ∈ l, FewB b) := by
  have hm : maxLen = 9223372036854775807 := by decide
  have hz : laws_szLog.f room t sure 1048576 = some (if (1048576 : Int) - (t.size : Int) < 0 then -1 else 1048576 - (t.size : Int)) := by
    unfold laws_szLog.f
    rw [w64 (by omega) (by omega)]
    split <;> rfl
  unfold laws_szEngine.f
  by_cases hn : (1048576 : Int) - (t.size : Int) < 0
  · rw [if_pos hn] at hz
    exact ⟨-1, ev_bindc hz (ev_pos (by omega) (ev_some rfl)), by omega, fun h => by omega⟩
  rw [if_neg hn] at hz
  obtain ⟨r, r1, rm, r2⟩ := szBoxS_ev l hl hs (1048576 - (t.size : Int)) (by omega) (by omega)
  by_cases hr : r < 0
  · exact ⟨-1, ev_bindc hz (ev_neg hn (Ev.bind r1 (ev_pos hr (ev_some rfl)))), by omega, fun h => by omega⟩
  · exact ⟨r, ev_bindc hz (ev_neg hn (Ev.bind r1 (ev_neg hr (ev_some rfl)))), rm, r2⟩
theorem toB_few {l : List S91} (h : ∀ b ∈ l, FewB b) : ∀ b ∈ l.map toB, b.f0.size ≤ 1048576 ∧ b.f3.length ≤ 1048576 ∧ b.f4.length ≤ 1048576 := by
  intro b hb
  obtain ⟨a, ha, rfl⟩ := List.mem_map.mp hb
  obtain ⟨c1, c2, c3⟩ := h a ha
  exact ⟨c1, by show (a.f3.map toS).length ≤ _; rw [List.length_map]; exact c2, c3⟩
theorem toEngine_ev (room : Int) (t : ByteArray) (sure : Int) (l : List S91) (hl : l.length ≤ 1048576) (hb : ∀ b ∈ l, FewB b) : Ev (fun k => laws_toEngine.f k room t sure l) (room, t, sure, l.map toB) := by
  unfold laws_toEngine.f
  exact ev_bindc rfl (Ev.bind (toBoxS_ev l hl hb) (ev_some rfl))
theorem eqEngine_refl (room : Int) (t : ByteArray) (sure : Int) (l : List S98) (hl : l.length ≤ 1048576) (hb : ∀ b ∈ l, b.f3.length ≤ 1048576 ∧ b.f4.length ≤ 1048576) : Ev (fun k => laws_eqEngine.f k room t sure l room t sure l) true := by
  unfold laws_eqEngine.f
  exact ev_bindc (a := true) (by unfold laws_eqLog.f; rw [if_pos rfl, if_pos rfl, if_pos rfl]) (ev_pos rfl (Ev.bind (eqBoxS_refl _ hl hb) (ev_pos rfl (ev_some rfl))))
theorem toIntS_ev (l : List Int) (hl : l.length ≤ 1099511627776) : Ev (fun k => laws_toIntS.f k l) l := by
  have loop : ∀ (m i : Nat) (x : List Int), i + m = l.length → x.length = l.length → x.take i = l.take i → Ev (fun k => laws_toIntS.l0 k l x i) l := by
    intro m
    induction m with
    | zero =>
      intro i x hi hx h
      rw [List.take_of_length_le (by omega), List.take_of_length_le (by omega)] at h
      exact Ev.step (fun _ => laws_toIntS.l0.eq_2 ..) (ev_neg (by omega) (ev_some h))
    | succ m ih =>
      intro i x hi hx h
      have hlt : i < l.length := by omega
      refine Ev.step (fun _ => laws_toIntS.l0.eq_2 ..) (ev_pos (by omega) (ev_pos (by omega) (ev_pos (by omega) ?_)))
      rw [rdI l i hlt, w64n (by omega), Int.toNat_natCast]
      refine ih (i + 1) _ (by omega) (by simpa using hx) ?_
      rw [set_step x _ i _ (by omega) h, List.take_succ_eq_append_getElem hlt]
  unfold laws_toIntS.f
  exact ev_pos (by omega) (ev_pos (by omega) (loop l.length 0 _ (by omega) (by simp) (by simp)))
theorem eqIntS_refl (l : List Int) (hl : l.length ≤ 1099511627776) : Ev (fun k => laws_eqIntS.f k l l) true := by
  have loop : ∀ (m i : Nat), i + m = l.length → Ev (fun k => laws_eqIntS.l0 k l l i) true := by
    intro m
    induction m with
    | zero => intro i hi; exact Ev.step (fun _ => laws_eqIntS.l0.eq_2 ..) (ev_neg (by omega) (ev_some rfl))
    | succ m ih =>
      intro i hi
      refine Ev.step (fun _ => laws_eqIntS.l0.eq_2 ..) (ev_pos (by omega) (ev_pos (by omega) (ev_pos (by omega) (ev_pos rfl ?_))))
      rw [w64n (by omega)]; exact ih (i + 1) (by omega)
  unfold laws_eqIntS.f
  exact ev_pos rfl (loop l.length 0 (by omega))
def toC (c : S66) : S52 := ⟨c.f0, c.f1, ⟨c.f2.f0, c.f2.f1, c.f2.f2, c.f2.f3⟩, ⟨c.f3.f0, c.f3.f1, c.f3.f2⟩⟩
theorem rd66 (l : List S66) (i : Nat) (h : i < l.length) : rd_T66 l (i : Int) = l[i] := by
  unfold rd_T66; simp [List.getD, List.getElem?_eq_getElem h]
theorem rd52 (l : List S52) (i : Nat) (h : i < l.length) : rd_T52 l (i : Int) = l[i] := by
  unfold rd_T52; simp [List.getD, List.getElem?_eq_getElem h]
def InC (c : S66) : Prop := c.f1.size ≤ maxLen ∧ c.f2.f1.size ≤ maxLen ∧ c.f2.f3.length ≤ maxLen ∧ c.f3.f0.size ≤ maxLen
def FewC (c : S66) : Prop := c.f2.f1.size ≤ 1048576 ∧ c.f2.f3.length ≤ 1048576 ∧ c.f3.f0.size ≤ 1048576
theorem szConn_ex (c : S66) (hc : InC c) (left : Int) (h0 : 0 ≤ left) (h1 : left ≤ 1048576) : ∃ r, laws_szConn.f c.f0 c.f1 c.f2.f0 c.f2.f1 c.f2.f2 c.f2.f3 c.f3.f0 c.f3.f1 c.f3.f2 left = some r ∧ r ≤ 1048576 ∧ (0 ≤ r → FewC c) := by
  obtain ⟨c1, c2, c3, c4⟩ := hc
  have hm : maxLen = 9223372036854775807 := by decide
  rw [hm] at c1 c2 c3 c4
  unfold laws_szConn.f
  rw [w64 (x := left - (c.f1.size : Int)) (by omega) (by omega)]
  by_cases a1 : left - (c.f1.size : Int) < 0
  · rw [if_pos a1]; exact ⟨-1, rfl, by omega, fun h => by omega⟩
  rw [if_neg a1]
  unfold laws_szImap.f laws_szIntS.f
  generalize hl1 : left - (c.f1.size : Int) = l1 at *
  rw [w64 (x := l1 - (c.f2.f1.size : Int)) (by omega) (by omega)]
  by_cases a2 : l1 - (c.f2.f1.size : Int) < 0
  · rw [if_pos a2]; exact ⟨-1, rfl, by omega, fun h => by omega⟩
  rw [if_neg a2]
  generalize hl2 : l1 - (c.f2.f1.size : Int) = l2 at *
  rw [w64 (x := l2 - (c.f2.f3.length : Int)) (by omega) (by omega)]
  by_cases a3 : l2 - (c.f2.f3.length : Int) < 0
  · rw [if_pos a3]; exact ⟨-1, rfl, by omega, fun h => by omega⟩
  rw [if_neg a3]
  generalize hl3 : l2 - (c.f2.f3.length : Int) = l3 at *
  show ∃ r, ((if l3 < 0 then some (-1) else some l3 : Option Int).bind fun t118 => if t118 < 0 then some (-1) else (laws_szNntp.f c.f3.f0 c.f3.f1 c.f3.f2 t118).bind fun t119 => if t119 < 0 then some (-1) else some t119) = some r ∧ _
  rw [if_neg a3]
  show ∃ r, (if l3 < 0 then some (-1) else (laws_szNntp.f c.f3.f0 c.f3.f1 c.f3.f2 l3).bind fun t119 => if t119 < 0 then some (-1) else some t119) = some r ∧ _
  rw [if_neg a3]
  unfold laws_szNntp.f
  rw [w64 (x := l3 - (c.f3.f0.size : Int)) (by omega) (by omega)]
  by_cases a4 : l3 - (c.f3.f0.size : Int) < 0
  · rw [if_pos a4]; exact ⟨-1, rfl, by omega, fun h => by omega⟩
  rw [if_neg a4]
  show ∃ r, (if l3 - (c.f3.f0.size : Int) < 0 then some (-1) else some (l3 - (c.f3.f0.size : Int))) = some r ∧ _
  rw [if_neg a4]
  exact ⟨_, rfl, by omega, fun _ => ⟨by omega, by omega, by omega⟩⟩
theorem szConnS_ev (l : List S66) (hl : l.length ≤ maxLen) (hs : ∀ c ∈ l, InC c) (left : Int) (h0 : 0 ≤ left) (h1 : left ≤ 1048576) : ∃ r, Ev (fun k => laws_szConnS.f k l left) r ∧ (0 ≤ r → l.length ≤ 1048576 ∧ ∀ c ∈ l, FewC c) := by
  have hm : maxLen = 9223372036854775807 := by decide
  have loop : ∀ (m i : Nat) (f : Int), i + m = l.length → 0 ≤ f → f ≤ 1048576 → ∃ r, Ev (fun k => laws_szConnS.l0 k l f i) r ∧ (0 ≤ r → ∀ c ∈ l.drop i, FewC c) := by
    intro m
    induction m with
    | zero =>
      intro i f hi h0 h1
      exact ⟨f, Ev.step (fun _ => laws_szConnS.l0.eq_2 ..) (ev_neg (by omega) (ev_some rfl)), fun _ x hx => by rw [List.drop_of_length_le (by omega)] at hx; cases hx⟩
    | succ m ih =>
      intro i f hi h0 h1
      have hlt : i < l.length := by omega
      obtain ⟨z, z1, z2, z3⟩ := szConn_ex l[i] (hs l[i] (List.getElem_mem hlt)) f h0 h1
      by_cases hn : z < 0
      · refine ⟨-1, Ev.step (fun _ => laws_szConnS.l0.eq_2 ..) (ev_pos (by omega) (ev_pos (by omega) ?_)), fun h => by omega⟩
        rw [rd66 l i hlt]
        exact ev_bindc z1 (ev_pos hn (ev_some rfl))
      · obtain ⟨r, r1, r2⟩ := ih (i + 1) z (by omega) (by omega) z2
        refine ⟨r, Ev.step (fun _ => laws_szConnS.l0.eq_2 ..) (ev_pos (by omega) (ev_pos (by omega) ?_)), fun h x hx => ?_⟩
        · rw [rd66 l i hlt, w64n (by omega)]
          exact ev_bindc z1 (ev_neg hn r1)
        · rw [List.drop_eq_getElem_cons hlt] at hx
          rcases List.mem_cons.mp hx with rfl | hx
          · exact z3 (by omega)
          · exact r2 h x hx
  unfold laws_szConnS.f
  rw [w64 (by omega) (by omega)]
  by_cases hn : left - (l.length : Int) < 0
  · exact ⟨-1, ev_pos hn (ev_some rfl), fun h => by omega⟩
  · obtain ⟨r, r1, r2⟩ := loop l.length 0 (left - (l.length : Int)) (by omega) (by omega) (by omega)
    exact ⟨r, ev_neg hn r1, fun h => ⟨by omega, by have := r2 h; rwa [List.drop_zero] at this⟩⟩
theorem toConnS_ev (l : List S66) (hl : l.length ≤ 1048576) (hb : ∀ c ∈ l, FewC c) : Ev (fun k => laws_toConnS.f k l) (l.map toC) := by
  have loop : ∀ (m i : Nat) (x : List S52), i + m = l.length → x.length = l.length → x.take i = (l.take i).map toC → Ev (fun k => laws_toConnS.l0 k l x i) (l.map toC) := by
    intro m
    induction m with
    | zero =>
      intro i x hi hx h
      rw [List.take_of_length_le (by omega), List.take_of_length_le (by omega)] at h
      exact Ev.step (fun _ => laws_toConnS.l0.eq_2 ..) (ev_neg (by omega) (ev_some h))
    | succ m ih =>
      intro i x hi hx h
      have hlt : i < l.length := by omega
      obtain ⟨-, b3, -⟩ := hb l[i] (List.getElem_mem hlt)
      refine Ev.step (fun _ => laws_toConnS.l0.eq_2 ..) (ev_pos (by omega) (ev_pos (by omega) ?_))
      rw [rd66 l i hlt, w64n (by omega), Int.toNat_natCast]
      have hto : Ev (fun k => laws_toConn.f k l[i].f0 l[i].f1 l[i].f2.f0 l[i].f2.f1 l[i].f2.f2 l[i].f2.f3 l[i].f3.f0 l[i].f3.f1 l[i].f3.f2) (l[i].f0, l[i].f1, l[i].f2.f0, l[i].f2.f1, l[i].f2.f2, l[i].f2.f3, l[i].f3.f0, l[i].f3.f1, l[i].f3.f2) := by
        unfold laws_toConn.f laws_toImap.f
        exact Ev.bind (Ev.bind (toIntS_ev _ (by omega)) (ev_some rfl)) (ev_bindc rfl (ev_some rfl))
      refine Ev.bind hto (ev_pos (by omega) ?_)
      refine ih (i + 1) _ (by omega) (by simpa using hx) ?_
      rw [set_step x _ i _ (by omega) h, List.take_succ_eq_append_getElem hlt, List.map_append]; rfl
  unfold laws_toConnS.f
  exact ev_pos (by omega) (ev_pos (by omega) (loop l.length 0 _ (by omega) (by simp) (by simp)))
theorem eqConnS_refl (l : List S52) (hl : l.length ≤ 1048576) (hb : ∀ c ∈ l, c.f2.f3.length ≤ 1048576) : Ev (fun k => laws_eqConnS.f k l l) true := by
  have loop : ∀ (m i : Nat), i + m = l.length → Ev (fun k => laws_eqConnS.l0 k l l i) true := by
    intro m
    induction m with
    | zero => intro i hi; exact Ev.step (fun _ => laws_eqConnS.l0.eq_2 ..) (ev_neg (by omega) (ev_some rfl))
    | succ m ih =>
      intro i hi
      have hlt : i < l.length := by omega
      have hz := hb l[i] (List.getElem_mem hlt)
      refine Ev.step (fun _ => laws_eqConnS.l0.eq_2 ..) (ev_pos (by omega) (ev_pos (by omega) (ev_pos (by omega) ?_)))
      rw [rd52 l i hlt, w64n (by omega)]
      refine Ev.bind (a := true) ?_ (ev_pos rfl (ih (i + 1) (by omega)))
      unfold laws_eqConn.f laws_eqImap.f
      refine ev_pos rfl (ev_pos rfl (Ev.bind (a := true) (ev_pos rfl (ev_pos rfl (ev_neg (by simp) (Ev.bind (eqIntS_refl _ (by omega)) (ev_pos rfl (ev_some rfl)))))) (ev_pos rfl (ev_bindc (a := true) ?_ (ev_pos rfl (ev_some rfl))))))
      unfold laws_eqNntp.f
      rw [if_pos rfl, if_pos rfl, if_neg (by simp)]
  unfold laws_eqConnS.f
  exact ev_pos rfl (loop l.length 0 (by omega))
theorem world_both (room : Int) (t : ByteArray) (sure : Int) (l : List S98) (cs : List S52) (hl : l.length ≤ 1048576) (hn : ∀ b ∈ l, b.f0.size ≤ 1099511627776) (hc : ∀ c ∈ cs, c.f2.f1.size ≤ 1048576 ∧ c.f2.f3.length ≤ 1048576 ∧ c.f3.f0.size ≤ 1048576) : ∃ r, Ev (fun k => spec_WorldOK.f k room t sure l cs) r ∧ Ev (fun k => impl_WorldOK.f k room t sure l cs) r := by
  obtain ⟨e, e1, e2, e3⟩ := engine_both room t sure l hn
  have badS : Ev (fun k => spec_WorldOK.j0 k true room t sure l cs) false := Ev.step (fun _ => spec_WorldOK.j0.eq_2 ..) (ev_pos rfl (ev_some rfl))
  unfold spec_WorldOK.f impl_WorldOK.f
  by_cases h4 : cs.length = 4
  · by_cases hb : (l.length : Int) > 4096
    · have : e = false := by
        cases e with
        | false => rfl
        | true => have := e3 rfl; omega
      subst this
      exact ⟨false, ev_pos (by omega) (ev_pos hb badS), Ev.bind e2 (ev_neg (by simp) (ev_some rfl))⟩
    cases e with
    | false => exact ⟨false, ev_pos (by omega) (ev_neg hb (Ev.bind e1 badS)), Ev.bind e2 (ev_neg (by simp) (ev_some rfl))⟩
    | true =>
      have loop : ∀ (m i : Nat), i + m = cs.length → ∃ r, Ev (fun k => spec_WorldOK.l0 k i room t sure l cs) r ∧ Ev (fun k => connF k l (cs.drop i)) r := by
        intro m
        induction m with
        | zero =>
          intro i hi
          rw [List.drop_of_length_le (by omega)]
          exact ⟨true, Ev.step (fun _ => spec_WorldOK.l0.eq_2 ..) (ev_neg (by omega) (ev_some rfl)), ev_some rfl⟩
        | succ m ih =>
          intro i hi
          have hlt : i < cs.length := by omega
          obtain ⟨c1, c2, c3⟩ := hc cs[i] (List.getElem_mem hlt)
          have hS := connS_ev l cs[i].f0 cs[i].f1 cs[i].f2.f0 cs[i].f2.f1 cs[i].f2.f2 cs[i].f2.f3 cs[i].f3.f0 cs[i].f3.f1 cs[i].f3.f2 hl (by omega) (by omega) (by omega)
          have hI := connI_ev l cs[i].f0 cs[i].f1 cs[i].f2.f0 cs[i].f2.f1 cs[i].f2.f2 cs[i].f2.f3 cs[i].f3.f0 cs[i].f3.f1 cs[i].f3.f2 hl (by omega) (by omega) (by omega)
          have inS : ∀ r, Ev (fun k => if connB l cs[i].f0 cs[i].f1 cs[i].f2.f0 cs[i].f2.f1 cs[i].f2.f2 cs[i].f2.f3 cs[i].f3.f0 cs[i].f3.f1 cs[i].f3.f2 = true then spec_WorldOK.l0 k ((i + 1 : Nat) : Int) room t sure l cs else some false) r → Ev (fun k => spec_WorldOK.l0 k i room t sure l cs) r := by
            intro r H
            refine Ev.step (fun _ => spec_WorldOK.l0.eq_2 ..) (ev_pos (by omega) (ev_pos (by omega) (ev_pos (by omega) ?_)))
            rw [rd52 cs i hlt, w64n (by omega)]
            exact Ev.bind hS H
          rw [List.drop_eq_getElem_cons hlt]
          simp only [connF]
          cases hb2 : connB l cs[i].f0 cs[i].f1 cs[i].f2.f0 cs[i].f2.f1 cs[i].f2.f2 cs[i].f2.f3 cs[i].f3.f0 cs[i].f3.f1 cs[i].f3.f2 with
          | false =>
            rw [hb2] at hI inS
            exact ⟨false, inS _ (ev_neg (by simp) (ev_some rfl)), Ev.bind hI (ev_neg (by simp) (ev_some rfl))⟩
          | true =>
            rw [hb2] at hI inS
            obtain ⟨r, r1, r2⟩ := ih (i + 1) (by omega)
            exact ⟨r, inS _ (ev_pos rfl r1), Ev.bind hI (ev_pos rfl r2)⟩
      obtain ⟨r, r1, r2⟩ := loop cs.length 0 (by omega)
      rw [List.drop_zero] at r2
      exact ⟨r, ev_pos (by omega) (ev_neg hb (Ev.bind e1 (Ev.step (fun _ => spec_WorldOK.j0.eq_2 ..) (ev_neg (by simp) r1)))), Ev.bind e2 (ev_pos rfl (ev_pos h4 r2))⟩
  · refine ⟨false, ev_neg (by omega) badS, Ev.bind e2 ?_⟩
    cases e with
    | false => exact ev_neg (by simp) (ev_some rfl)
    | true => exact ev_pos rfl (ev_neg h4 (ev_some rfl))
theorem law_true (room : Int) (t : ByteArray) (sure : Int) (l : List S91) (cs : List S66) (ht : t.size ≤ maxLen) (hl : l.length ≤ maxLen) (hs : ∀ b ∈ l, InB b) (hcl : cs.length ≤ maxLen) (hc : ∀ c ∈ cs, InC c) : Ev (fun k => laws_FnExactWorldOK.f k room t sure l cs) true := by
  unfold laws_FnExactWorldOK.f laws_szWorld.f
  obtain ⟨r, r1, rm, r2⟩ := szEngine_ev room t sure l ht hl hs
  by_cases hr : r < 0
  · exact Ev.bind (a := -1) (Ev.bind r1 (ev_pos hr (ev_some rfl))) (ev_pos (by omega) (ev_some rfl))
  obtain ⟨q1, q2⟩ := r2 (by omega)
  obtain ⟨s, s1, s2⟩ := szConnS_ev cs hcl hc r (by omega) rm
  by_cases hsn : s < 0
  · exact Ev.bind (a := -1) (Ev.bind r1 (ev_neg hr (Ev.bind s1 (ev_pos hsn (ev_some rfl))))) (ev_pos (by omega) (ev_some rfl))
  obtain ⟨p1, p2⟩ := s2 (by omega)
  have hlm : (l.map toB).length ≤ 1048576 := by rw [List.length_map]; exact q1
  have hcm : (cs.map toC).length ≤ 1048576 := by rw [List.length_map]; exact p1
  have hfc : ∀ c ∈ cs.map toC, c.f2.f1.size ≤ 1048576 ∧ c.f2.f3.length ≤ 1048576 ∧ c.f3.f0.size ≤ 1048576 := by
    intro c h
    obtain ⟨a, ha, rfl⟩ := List.mem_map.mp h
    exact p2 a ha
  have hto : Ev (fun k => laws_toWorld.f k room t sure l cs) (room, t, sure, l.map toB, cs.map toC) := by
    unfold laws_toWorld.f
    exact Ev.bind (toEngine_ev room t sure l q1 q2) (Ev.bind (toConnS_ev cs p1 p2) (ev_some rfl))
  obtain ⟨e, e1, e2⟩ := world_both room t sure (l.map toB) (cs.map toC) hlm (fun b hb => by have := (toB_few q2 b hb).1; omega) hfc
  have heq : Ev (fun k => laws_eqWorld.f k room t sure (l.map toB) (cs.map toC) room t sure (l.map toB) (cs.map toC)) true := by
    unfold laws_eqWorld.f
    exact Ev.bind (eqEngine_refl room t sure (l.map toB) hlm (fun b hb => (toB_few q2 b hb).2)) (ev_pos rfl (Ev.bind (eqConnS_refl _ hcm (fun c h => (hfc c h).2.1)) (ev_pos rfl (ev_some rfl))))
  exact Ev.bind (Ev.bind r1 (ev_neg hr (Ev.bind s1 (ev_neg hsn (ev_some rfl))))) (ev_neg hsn (Ev.bind hto (Ev.bind e1 (Ev.bind hto (Ev.bind e2 (ev_neg (by simp) (Ev.bind hto (Ev.bind heq (ev_pos rfl (ev_some rfl))))))))))
end Go.Proofs.YtifkmkiljpeaaacGreat.PFnExactWorldOK
