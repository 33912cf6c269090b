import Derived.Test.YtifkmkiljpeaaadGreatLComA
import Derived.Test.YtifkmkiljpeaaadGreatPFnExactCommitxG
set_option linter.unusedVariables false
set_option linter.unusedSimpArgs false
namespace Go.Proofs.YtifkmkiljpeaaadGreat.PFnExactCommit
open Go.RowKit Go.Proofs.YtifkmkiljpeaaadGreatW.PrintWords
theorem markText_ex (a : Int) (h0 : 0 < a) (h1 : a <= 1125899906842624) : ∃ t, Ev (fun k => cb.f k a) t := by
  have loop : ∀ (n : Nat) (x : Int) (o : ByteArray), x.toNat <= n -> 0 <= x -> x <= 1125899906842624 -> (o.size : Int) + x <= 1125899906842624 -> ∃ t, Ev (fun k => cb.l0 k x o) t := by
    intro n
    induction n with
    | zero =>
      intro x o hn hx hx1 ho
      exact ⟨_, Ev.step (fun _ => cb.l0.eq_2 ..) (bv (by omega) (bp (by omega) (bq rfl)))⟩
    | succ n ih =>
      intro x o hn hx hx1 ho
      by_cases hp : x > 0
      · have hq : Int.tdiv x 10 = x / 10 := Int.tdiv_eq_ediv_of_nonneg hx
        obtain ⟨t, ht⟩ := ih (x / 10) (strOfNums [wrap64 (48 + Int.tmod x 10) % 256] ++ o) (by omega) (by omega) (by omega) (by rw [ByteArray.size_append, strOfNums_size]; simp only [List.length_cons, List.length_nil]; omega)
        refine ⟨t, Ev.step (fun _ => cb.l0.eq_2 ..) (bp hp ?_)⟩
        refine bp (by rw [strOfNums_size]; simp only [List.length_cons, List.length_nil]; omega) ?_
        rw [hq, w64 (x := x / 10) (by omega) (by omega)]
        exact ht
      exact ⟨_, Ev.step (fun _ => cb.l0.eq_2 ..) (bv hp (bp (by omega) (bq rfl)))⟩
  obtain ⟨t, ht⟩ := loop a.toNat a ⟨#[]⟩ (Nat.le_refl _) (by omega) h1 (by show ((0 : Nat) : Int) + a <= _; omega)
  refine ⟨t, ?_⟩
  unfold cb.f
  exact bv (by omega) ht
theorem markStringS_ev (l : List ByteArray) (a : Int) (h0 : 0 < a) (h1 : a + l.length <= 1125899906842624) : ∃ ms, Ev (fun k => dr.f k l a) (a + l.length, ms) /\ ms.length = l.length /\ ∀ (j : Nat) (h : j < ms.length), Ev (fun k => cb.f k (a + j)) ms[j] := by
  have loop : ∀ (m i : Nat) (b : List ByteArray), i + m = l.length -> b.length = l.length -> (∀ (j : Nat) (h : j < b.length), j < i -> Ev (fun k => cb.f k (a + j)) b[j]) ->
      ∃ ms, Ev (fun k => dr.l0 k b (a + i) i) (a + l.length, ms) /\ ms.length = l.length /\ ∀ (j : Nat) (h : j < ms.length), Ev (fun k => cb.f k (a + j)) ms[j] := by
    intro m
    induction m with
    | zero =>
      intro i b hi hb hj
      refine ⟨b, Ev.step (fun _ => dr.l0.eq_2 ..) (bv (by omega) (bq ?_)), hb, fun j h => hj j h (by omega)⟩
      rw [show i = l.length by omega]
    | succ m ih =>
      intro i b hi hb hj
      obtain ⟨t, ht⟩ := markText_ex (a + i) (by omega) (by omega)
      obtain ⟨ms, hms, hl, hE⟩ := ih (i + 1) (b.set i t) (by omega) (by simpa using hb) (fun j h hji => by
        have h' : j < b.length := by simpa using h
        by_cases e : j = i
        · subst e; rw [List.getElem_set_self]; exact ht
        rw [List.getElem_set_ne (by omega)]; exact hj j h' (by omega))
      refine ⟨ms, Ev.step (fun _ => dr.l0.eq_2 ..) (bp (by omega) (Ev.bind ht (bp (by omega) ?_))), hl, hE⟩
      rw [w64n (by omega), w64 (x := a + (i : Int) + 1) (by omega) (by omega), show a + (i : Int) + 1 = a + ((i + 1 : Nat) : Int) by omega, Int.toNat_natCast]
      exact hms
  unfold dr.f
  have := loop l.length 0 l (by omega) rfl (fun j _ h => by omega)
  simpa using this
theorem heldStringS_ev (ms : List ByteArray) (a : Int) (h0 : 0 < a) (h1 : a + ms.length <= 1125899906842624) (hE : ∀ (j : Nat) (h : j < ms.length), Ev (fun k => cb.f k (a + j)) ms[j]) : Ev (fun k => dk.f k ms a) (a + ms.length) := by
  have loop : ∀ (m i : Nat), i + m = ms.length -> Ev (fun k => dk.l0 k ms (a + i) i) (a + ms.length) := by
    intro m
    induction m with
    | zero =>
      intro i hi
      refine Ev.step (fun _ => dk.l0.eq_2 ..) (bv (by omega) (bq ?_))
      rw [show i = ms.length by omega]
    | succ m ih =>
      intro i hi
      refine Ev.step (fun _ => dk.l0.eq_2 ..) (bp (by omega) (bp (by omega) (Ev.bind (hE i (by omega)) ?_)))
      rw [rdOf_nat _ ms i (by omega)]
      refine bp rfl ?_
      rw [w64n (by omega), w64 (x := a + (i : Int) + 1) (by omega) (by omega), show a + (i : Int) + 1 = a + ((i + 1 : Nat) : Int) by omega]
      exact ih (i + 1) (by omega)
  unfold dk.f
  have := loop ms.length 0 (by omega)
  simpa using this
theorem rdMail (l : List S113) (i : Nat) (h : i < l.length) : ar l (i : Int) = l[i] := by
  unfold ar; simp [List.getD, List.getElem?_eq_getElem h]
theorem markStoredS_ev (l : List S113) (a : Int) (h0 : 0 < a) (h1 : a + 3 * l.length <= 1125899906842624) : ∃ ms, Ev (fun k => di.f k l a) (a + 3 * l.length, ms) /\ ms.length = l.length /\ ∀ (j : Nat) (h : j < ms.length), ms[j].f0 = a + 3 * j /\ ms[j].f1 = a + 3 * j + 1 /\ Ev (fun k => cb.f k (a + 3 * j + 1 + 1)) ms[j].f2 := by
  have loop : ∀ (m i : Nat) (x : List S113), i + m = l.length -> x.length = l.length -> (∀ (j : Nat) (h : j < x.length), j < i -> x[j].f0 = a + 3 * j /\ x[j].f1 = a + 3 * j + 1 /\ Ev (fun k => cb.f k (a + 3 * j + 1 + 1)) x[j].f2) ->
      ∃ ms, Ev (fun k => di.l0 k x (a + 3 * (i : Int)) i) (a + 3 * l.length, ms) /\ ms.length = l.length /\ ∀ (j : Nat) (h : j < ms.length), ms[j].f0 = a + 3 * j /\ ms[j].f1 = a + 3 * j + 1 /\ Ev (fun k => cb.f k (a + 3 * j + 1 + 1)) ms[j].f2 := by
    intro m
    induction m with
    | zero =>
      intro i x hi hx hj
      obtain rfl : i = l.length := by omega
      exact ⟨x, Ev.step (fun _ => di.l0.eq_2 ..) (bv (by omega) (bq rfl)), hx, fun j h => hj j h (by omega)⟩
    | succ m ih =>
      intro i x hi hx hj
      obtain ⟨t, ht⟩ := markText_ex (a + 3 * (i : Int) + 1 + 1) (by omega) (by omega)
      have e := ap.mk (show wrap64 (a + 3 * (i : Int) + 1) = a + 3 * (i : Int) + 1 from w64 (by omega) (by omega))
      have e2 := ap.mk (show wrap64 (a + 3 * (i : Int) + 1 + 1) = a + 3 * (i : Int) + 1 + 1 from w64 (by omega) (by omega))
      have e3 := ap.mk (show wrap64 (a + 3 * (i : Int) + 1 + 1 + 1) = a + 3 * ((i + 1 : Nat) : Int) by rw [w64 (by omega) (by omega)]; omega)
      let y : List S113 := (x.set i ⟨a + 3 * (i : Int), (ar x i).f1, (ar x i).f2⟩)
      let z : List S113 := (y.set i ⟨(ar y i).f0, a + 3 * (i : Int) + 1, (ar y i).f2⟩)
      have hix : i < x.length := by omega
      have hy : (ar y i).f0 = a + 3 * (i : Int) := by rw [rdMail y i (by simp [y]; omega)]; simp [y]
      have hz : (ar z i).f0 = a + 3 * (i : Int) /\ (ar z i).f1 = a + 3 * (i : Int) + 1 := by
        rw [rdMail z i (by simp [z, y]; omega)]
        simp only [z, List.getElem_set_self]
        exact ⟨hy, trivial⟩
      obtain ⟨ms, r1, r2, r3⟩ := ih (i + 1) (z.set i ⟨(ar z i).f0, (ar z i).f1, t⟩) (by omega) (by simp [z, y]; omega) (fun j h hji => by
        by_cases hji2 : j = i
        · subst hji2; rw [List.getElem_set_self]; exact ⟨hz.1, hz.2, ht⟩
        have hjx : j < x.length := by simpa [z, y] using h
        have : (z.set i ⟨(ar z i).f0, (ar z i).f1, t⟩)[j] = x[j] := by
          rw [List.getElem_set_ne (by omega)]
          simp only [z, y]
          rw [List.getElem_set_ne (by omega), List.getElem_set_ne (by omega)]
        rw [this]
        exact hj j hjx (by omega))
      refine ⟨ms, Ev.step (fun _ => di.l0.eq_2 ..) (bp (by omega) (bp (by omega) (cj (a := y) rfl (cj (a := z) ?_ ?_)))), r2, r3⟩
      · rw [e.out, Int.toNat_natCast]
      rw [e.out, e2.out, e3.out, w64n (by omega), Int.toNat_natCast]
      exact Ev.bind ht r1
  unfold di.f
  have := loop l.length 0 l (by omega) rfl (fun j _ h => by omega)
  simpa using this
theorem heldStoredS_ev (ms : List S113) (a : Int) (h0 : 0 < a) (h1 : a + 3 * ms.length <= 1125899906842624) (hE : ∀ (j : Nat) (h : j < ms.length), ms[j].f0 = a + 3 * j /\ ms[j].f1 = a + 3 * j + 1 /\ Ev (fun k => cb.f k (a + 3 * j + 1 + 1)) ms[j].f2) : Ev (fun k => cm.f k ms a) (a + 3 * ms.length) := by
  have loop : ∀ (m i : Nat), i + m = ms.length -> Ev (fun k => cm.l0 k ms (a + 3 * (i : Int)) i) (a + 3 * ms.length) := by
    intro m
    induction m with
    | zero =>
      intro i hi
      obtain rfl : i = ms.length := by omega
      exact Ev.step (fun _ => cm.l0.eq_2 ..) (bv (by omega) (bq rfl))
    | succ m ih =>
      intro i hi
      obtain ⟨p1, p2, p3⟩ := hE i (by omega)
      have e := ap.mk (show wrap64 (a + 3 * (i : Int) + 1) = a + 3 * (i : Int) + 1 from w64 (by omega) (by omega))
      have e2 := ap.mk (show wrap64 (a + 3 * (i : Int) + 1 + 1) = a + 3 * (i : Int) + 1 + 1 from w64 (by omega) (by omega))
      have e3 := ap.mk (show wrap64 (a + 3 * (i : Int) + 1 + 1 + 1) = a + 3 * ((i + 1 : Nat) : Int) by rw [w64 (by omega) (by omega)]; omega)
      have hr := rdMail ms i (by omega)
      refine Ev.step (fun _ => cm.l0.eq_2 ..) (bp (by omega) (bp (by omega) (bp (by rw [hr]; exact p1) (bp (by rw [hr, e.out]; exact p2) ?_))))
      rw [e.out, e2.out, e3.out, w64n (by omega)]
      exact Ev.bind p3 (bp (by rw [hr]) (ih (i + 1) (by omega)))
  unfold cm.f
  have := loop ms.length 0 (by omega)
  simpa using this
def HeldOne (b : S82) (a m : Int) : Prop := 0 < a /\ a <= 1125899906842624 /\ Ev (fun k => cb.f k a) b.f0 /\ b.f1 = a + 1 /\ b.f2 = a + 1 + 1 /\ (∃ s, 0 <= s /\ Ev (fun k => cm.f k b.f3 (a + 1 + 1 + 1)) s /\ Ev (fun k => dk.f k b.f4 s) m) /\ 0 <= m
def HeldL : List S82 -> Int -> Int -> Prop
  | [], a, m => a = m
  | b :: r, a, m => ∃ c, HeldOne b a c /\ HeldL r c m
theorem markB_ev (b : S82) (a : Int) (h0 : 0 < a) (h1 : a + 3 + 3 * b.f3.length + b.f4.length <= 1125899906842624) : ∃ b', Ev (fun k => markB k b a) (b', a + 3 + 3 * b.f3.length + b.f4.length) /\ HeldOne b' a (a + 3 + 3 * b.f3.length + b.f4.length) := by
  have e1 : wrap64 (a + 1) = a + 1 := w64 (by omega) (by omega)
  have e2 : wrap64 (a + 1 + 1) = a + 1 + 1 := w64 (by omega) (by omega)
  have e3 : wrap64 (a + 1 + 1 + 1) = a + 1 + 1 + 1 := w64 (by omega) (by omega)
  obtain ⟨t, ht⟩ := markText_ex a h0 (by omega)
  obtain ⟨ms, m1, m2, m3⟩ := markStoredS_ev b.f3 (a + 1 + 1 + 1) (by omega) (by omega)
  obtain ⟨ks, k1, k2, k3⟩ := markStringS_ev b.f4 (a + 1 + 1 + 1 + 3 * b.f3.length) (by omega) (by omega)
  have hm := heldStoredS_ev ms (a + 1 + 1 + 1) (by omega) (by rw [m2]; omega) m3
  have hk := heldStringS_ev ks (a + 1 + 1 + 1 + 3 * b.f3.length) (by omega) (by rw [k2]; omega) k3
  have hsum : a + 3 + 3 * (b.f3.length : Int) + b.f4.length = a + 1 + 1 + 1 + 3 * b.f3.length + b.f4.length := by omega
  rw [hsum]
  refine ⟨⟨t, a + 1, a + 1 + 1, ms, ks⟩, ?_, h0, by omega, ht, rfl, rfl, ⟨_, by omega, hm, ?_⟩, by omega⟩
  · unfold markB
    rw [e1, e2, e3]
    exact Ev.bind ht (Ev.bind m1 (Ev.bind k1 (bq rfl)))
  rw [m2]; rw [k2] at hk; exact hk
theorem markBoxS_ev : ∀ (l : List S82) (a : Int), 0 < a -> l.length <= 1048577 -> (∀ b ∈ l, b.f3.length <= 2097152 /\ b.f4.length <= 2097152) -> a + 8388614 * l.length <= 1125899906842624 ->
    ∃ r m, Ev (fun k => laws_markBoxS.f k l a) (m, r) /\ a <= m /\ m <= a + 8388614 * l.length /\ HeldL r a m /\ r.length = l.length
  | [], a, h0, _, _, _ => ⟨[], a, bq rfl, Int.le_refl _, by simp, rfl, rfl⟩
  | b :: l, a, h0, hl, hb, h1 => by
    obtain ⟨c1, c2⟩ := hb b (by simp)
    simp only [List.length_cons] at h1 hl
    obtain ⟨b', p1, p2⟩ := markB_ev b a h0 (by omega)
    obtain ⟨r, m, q1, q2, q3, q4, q5⟩ := markBoxS_ev l (a + 3 + 3 * b.f3.length + b.f4.length) (by omega) (by omega) (fun x hx => hb x (by simp [hx])) (by omega)
    refine ⟨b' :: r, m, ?_, by omega, by simp only [List.length_cons]; omega, ⟨_, p2, q4⟩, by simp [q5]⟩
    exact Ev.bind p1 (Ev.bind q1 (bq rfl))
theorem heldBoxS_ev (l : List S82) (hl : l.length <= 1048577) (m : Int) : ∀ (n i : Nat) (a : Int), i + n = l.length -> HeldL (l.drop i) a m -> Ev (fun k => cq.l0 k l a i) m := by
  intro n
  induction n with
  | zero =>
    intro i a hi h
    rw [List.drop_of_length_le (by omega)] at h
    exact Ev.step (fun _ => cq.l0.eq_2 ..) (bv (by omega) (bq h))
  | succ n ih =>
    intro i a hi h
    have hlt : i < l.length := by omega
    rw [List.drop_eq_getElem_cons hlt] at h
    obtain ⟨c, ⟨h0, h1, ht, h2, h3, ⟨s, hs, hm, hk⟩, h4⟩, hr⟩ := h
    have hrd := rdBox l i hlt
    have e1 := ap.mk (show wrap64 (a + 1) = a + 1 from w64 (by omega) (by omega))
    have e2 := ap.mk (show wrap64 (a + 1 + 1) = a + 1 + 1 from w64 (by omega) (by omega))
    have e3 := ap.mk (show wrap64 (a + 1 + 1 + 1) = a + 1 + 1 + 1 from w64 (by omega) (by omega))
    refine Ev.step (fun _ => cq.l0.eq_2 ..) (bp (by omega) (bp (by omega) (Ev.bind ht (bp (by rw [hrd]) (bp (by rw [hrd, e1.out]; exact h2) (bp (by rw [hrd, e1.out, e2.out]; exact h3) ?_))))))
    rw [e1.out, e2.out, e3.out, hrd, w64n (by omega)]
    exact Ev.bind hm (bv (by omega) (Ev.bind hk (bv (by omega) (ih (i + 1) c (by omega) hr))))
theorem heldEngine_ev (s0 : Int) (s1 : ByteArray) (s2 : Int) (l : List S82) (hl : l.length <= 1048577) (a m : Int) (h : HeldL l a m) (hm : 0 <= m) : Ev (fun k => laws_heldEngine.f k s0 s1 s2 l a) m := by
  unfold laws_heldEngine.f cq.f
  exact Ev.bind (heldBoxS_ev l hl m l.length 0 a (by omega) (by simpa using h)) (bv (by omega) (bq rfl))
theorem markItemS_ev (l : List S84) (a : Int) (h0 : 0 < a) (h1 : a + 2 * l.length <= 1125899906842624) : ∃ ms, Ev (fun k => dx.f k l a) (a + 2 * l.length, ms) := by
  have loop : ∀ (m i : Nat) (x : List S84), i + m = l.length -> x.length = l.length -> ∃ ms, Ev (fun k => dx.l0 k x (a + 2 * (i : Int)) i) (a + 2 * l.length, ms) := by
    intro m
    induction m with
    | zero =>
      intro i x hi hx
      obtain rfl : i = l.length := by omega
      exact ⟨x, Ev.step (fun _ => dx.l0.eq_2 ..) (bv (by omega) (bq rfl))⟩
    | succ m ih =>
      intro i x hi hx
      obtain ⟨t, ht⟩ := markText_ex (a + 2 * (i : Int)) (by omega) (by omega)
      obtain ⟨u, hu⟩ := markText_ex (a + 2 * (i : Int) + 1) (by omega) (by omega)
      have e := ap.mk (show wrap64 (a + 2 * (i : Int) + 1) = a + 2 * (i : Int) + 1 from w64 (by omega) (by omega))
      have e2 := ap.mk (show wrap64 (a + 2 * (i : Int) + 1 + 1) = a + 2 * ((i + 1 : Nat) : Int) by rw [w64 (by omega) (by omega)]; omega)
      let y : List S84 := (x.set i ⟨t, (ay x i).f1⟩)
      obtain ⟨ms, r1⟩ := ih (i + 1) (y.set i ⟨(ay y i).f0, u⟩) (by omega) (by simp [y]; omega)
      refine ⟨ms, Ev.step (fun _ => dx.l0.eq_2 ..) (bp (by omega) (Ev.bind ht (bp (by omega) (cj (a := y) rfl ?_))))⟩
      rw [e.out, e2.out, w64n (by omega), Int.toNat_natCast]
      exact Ev.bind hu r1
  unfold dx.f
  have := loop l.length 0 l (by omega) rfl
  simpa using this
theorem markMutation_ev (k0 k1 k2 k3 : Int) (nm : ByteArray) (l : List S84) (a : Int) (h0 : 0 < a) (h1 : a + 2 * l.length <= 1125899906842624) : ∃ ms, Ev (fun k => gu.f k k0 k1 k2 k3 nm l a) (a + 2 * l.length, ms) := by
  obtain ⟨ms, h⟩ := markItemS_ev l a h0 h1
  unfold gu.f
  exact ⟨ms, Ev.bind h (bq rfl)⟩
def toB (b : S68) : S82 := ⟨b.f0, b.f1, b.f2, b.f3.map toS, b.f4⟩
theorem rd54 (l : List S68) (i : Nat) (h : i < l.length) : av l (i : Int) = l[i] := by
  unfold av; simp [List.getD, List.getElem?_eq_getElem h]
def InB (b : S68) : Prop := b.f0.size <= maxLen /\ b.f3.length <= maxLen /\ (∀ y ∈ b.f3, y.f2.size <= maxLen) /\ b.f4.length <= maxLen /\ ∀ t ∈ b.f4, t.size <= maxLen
def FewB (b : S68) : Prop := b.f0.size <= 1048576 /\ b.f3.length <= 1048576 /\ b.f4.length <= 1048576
theorem toBoxS_ev (l : List S68) (hl : l.length <= 1048576) (hb : ∀ b ∈ l, FewB b) : Ev (fun k => fi.f k l) (l.map toB) := by
  have loop : ∀ (m i : Nat) (x : List S82), i + m = l.length -> x.length = l.length -> x.take i = (l.take i).map toB -> Ev (fun k => fi.l0 k l x i) (l.map toB) := by
    intro m
    induction m with
    | zero =>
      intro i x hi hx h
      rw [List.take_of_length_le (by omega), List.take_of_length_le (by omega)] at h
      exact Ev.step (fun _ => fi.l0.eq_2 ..) (bv (by omega) (bq h))
    | succ m ih =>
      intro i x hi hx h
      have hlt : i < l.length := by omega
      obtain ⟨-, b3, b4⟩ := hb l[i] (List.getElem_mem hlt)
      refine Ev.step (fun _ => fi.l0.eq_2 ..) (bp (by omega) (bp (by omega) ?_))
      rw [rd54 l i hlt, w64n (by omega), Int.toNat_natCast]
      refine Ev.bind (toBox_ev l[i].f0 l[i].f1 l[i].f2 l[i].f3 l[i].f4 (by omega) (by omega)) (bp (by omega) ?_)
      refine ih (i + 1) _ (by omega) (by simpa using hx) ?_
      rw [set_step x _ i _ (by omega) h, List.take_succ_eq_append_getElem hlt, List.map_append]; rfl
  unfold fi.f
  exact bp (by omega) (bp (by omega) (loop l.length 0 _ (by omega) (by simp) (by simp)))
theorem szBoxS_ev (l : List S68) (hl : l.length <= maxLen) (hs : ∀ b ∈ l, InB b) (left : Int) (h0 : 0 <= left) (h1 : left <= 1048576) : ∃ r, Ev (fun k => fh.f k l left) r /\ r <= 1048576 /\ (0 <= r -> l.length <= 1048576 /\ ∀ b ∈ l, FewB b) := by
  have hm : maxLen = 9223372036854775807 := by decide
  have loop : ∀ (m i : Nat) (f : Int), i + m = l.length -> 0 <= f -> f <= 1048576 -> ∃ r, Ev (fun k => fh.l0 k l f i) r /\ r <= 1048576 /\ (0 <= r -> ∀ b ∈ l.drop i, FewB b) := by
    intro m
    induction m with
    | zero =>
      intro i f hi h0 h1
      exact ⟨f, Ev.step (fun _ => fh.l0.eq_2 ..) (bv (by omega) (bq rfl)), h1, fun _ x hx => by rw [List.drop_of_length_le (by omega)] at hx; cases hx⟩
    | succ m ih =>
      intro i f hi h0 h1
      have hlt : i < l.length := by omega
      obtain ⟨a1, a2, a3, a4, a5⟩ := hs l[i] (List.getElem_mem hlt)
      obtain ⟨z, z1, z2, z3⟩ := szBox_ev l[i].f0 l[i].f1 l[i].f2 l[i].f3 l[i].f4 a1 a2 a3 a4 a5 f h0 h1
      by_cases hn : z < 0
      · refine ⟨-1, Ev.step (fun _ => fh.l0.eq_2 ..) (bp (by omega) (bp (by omega) ?_)), by omega, fun h => by omega⟩
        rw [rd54 l i hlt]
        exact Ev.bind z1 (bp hn (bq rfl))
      obtain ⟨r, r1, rm, r2⟩ := ih (i + 1) z (by omega) (by omega) z2
      obtain ⟨c1, c2, c3, -, -⟩ := z3 (by omega)
      refine ⟨r, Ev.step (fun _ => fh.l0.eq_2 ..) (bp (by omega) (bp (by omega) ?_)), rm, fun h x hx => ?_⟩
      · rw [rd54 l i hlt, w64n (by omega)]
        exact Ev.bind z1 (bv hn r1)
      rw [List.drop_eq_getElem_cons hlt] at hx
      rcases List.mem_cons.mp hx with rfl | hx
      · exact ⟨c1, c2, c3⟩
      exact r2 h x hx
  unfold fh.f
  rw [w64 (by omega) (by omega)]
  by_cases hn : left - (l.length : Int) < 0
  · exact ⟨-1, bp hn (bq rfl), by omega, fun h => by omega⟩
  obtain ⟨r, r1, rm, r2⟩ := loop l.length 0 (left - (l.length : Int)) (by omega) (by omega) (by omega)
  exact ⟨r, bv hn r1, rm, fun h => ⟨by omega, by have := r2 h; rwa [List.drop_zero] at this⟩⟩
theorem szEngine_ev (room : Int) (t : ByteArray) (sure : Int) (l : List S68) (ht : t.size <= maxLen) (hl : l.length <= maxLen) (hs : ∀ b ∈ l, InB b) : ∃ r, Ev (fun k => laws_szEngine.f k room t sure l 1048576) r /\ r <= 1048576 /\ (0 <= r -> l.length <= 1048576 /\ ∀ b ∈ l, FewB b) := by
  have hm : maxLen = 9223372036854775807 := by decide
  have hz : laws_szLog.f room t sure 1048576 = some (if (1048576 : Int) - (t.size : Int) < 0 then -1 else 1048576 - (t.size : Int)) := by
    unfold laws_szLog.f
    rw [w64 (by omega) (by omega)]
    split <;> rfl
  unfold laws_szEngine.f
  by_cases hn : (1048576 : Int) - (t.size : Int) < 0
  · rw [if_pos hn] at hz
    exact ⟨-1, cj hz (bp (by omega) (bq rfl)), by omega, fun h => by omega⟩
  rw [if_neg hn] at hz
  obtain ⟨r, r1, rm, r2⟩ := szBoxS_ev l hl hs (1048576 - (t.size : Int)) (by omega) (by omega)
  by_cases hr : r < 0
  · exact ⟨-1, cj hz (bv hn (Ev.bind r1 (bp hr (bq rfl)))), by omega, fun h => by omega⟩
  exact ⟨r, cj hz (bv hn (Ev.bind r1 (bv hr (bq rfl)))), rm, r2⟩
theorem toB_few {l : List S68} (h : ∀ b ∈ l, FewB b) : ∀ b ∈ l.map toB, b.f0.size <= 1048576 /\ b.f3.length <= 1048576 /\ b.f4.length <= 1048576 := by
  intro b hb
  obtain ⟨a, ha, rfl⟩ := List.mem_map.mp hb
  obtain ⟨c1, c2, c3⟩ := h a ha
  exact ⟨c1, by show (a.f3.map toS).length <= _; rw [List.length_map]; exact c2, c3⟩
theorem toEngine_ev (room : Int) (t : ByteArray) (sure : Int) (l : List S68) (hl : l.length <= 1048576) (hb : ∀ b ∈ l, FewB b) : Ev (fun k => gq.f k room t sure l) (room, t, sure, l.map toB) := by
  unfold gq.f
  exact cj rfl (Ev.bind (toBoxS_ev l hl hb) (bq rfl))
def toI (x : S71) : S84 := ⟨x.f0, x.f1⟩
def InI (x : S71) : Prop := x.f0.size <= maxLen /\ x.f1.size <= maxLen
theorem rdLI (l : List S71) (i : Nat) (h : i < l.length) : aw l (i : Int) = l[i] := by
  unfold aw; simp [List.getD, List.getElem?_eq_getElem h]
theorem toItemS_ev (l : List S71) (hl : l.length <= 1048576) : Ev (fun k => ep.f k l) (l.map toI) := by
  have loop : ∀ (m i : Nat) (x : List S84), i + m = l.length -> x.length = l.length -> x.take i = (l.take i).map toI -> Ev (fun k => ep.l0 k l x i) (l.map toI) := by
    intro m
    induction m with
    | zero =>
      intro i x hi hx h
      rw [List.take_of_length_le (by omega), List.take_of_length_le (by omega)] at h
      exact Ev.step (fun _ => ep.l0.eq_2 ..) (bv (by omega) (bq h))
    | succ m ih =>
      intro i x hi hx h
      have hlt : i < l.length := by omega
      refine Ev.step (fun _ => ep.l0.eq_2 ..) (bp (by omega) (bp (by omega) (cj rfl (bp (by omega) ?_))))
      rw [rdLI l i hlt, w64n (by omega), Int.toNat_natCast]
      refine ih (i + 1) _ (by omega) (by simpa using hx) ?_
      rw [set_step x _ i _ (by omega) h, List.take_succ_eq_append_getElem hlt, List.map_append]; rfl
  unfold ep.f
  exact bp (by omega) (bp (by omega) (loop l.length 0 _ (by omega) (by simp) (by simp)))
theorem toMutation_ev (k0 k1 k2 k3 : Int) (nm : ByteArray) (l : List S71) (hl : l.length <= 1048576) : Ev (fun k => fx.f k k0 k1 k2 k3 nm l) (k0, k1, k2, k3, nm, l.map toI) := by
  unfold fx.f
  exact Ev.bind (toItemS_ev l hl) (bq rfl)
theorem eqItemS_refl (l : List S84) (hl : l.length <= 1048576) : Ev (fun k => de.f k l l) true := by
  have loop : ∀ (m i : Nat), i + m = l.length -> Ev (fun k => de.l0 k l l i) true := by
    intro m
    induction m with
    | zero => intro i hi; exact Ev.step (fun _ => de.l0.eq_2 ..) (bv (by omega) (bq rfl))
    | succ m ih =>
      intro i hi
      refine Ev.step (fun _ => de.l0.eq_2 ..) (bp (by omega) (bp (by omega) (bp (by omega) (cj (a := true) ?_ (bp rfl ?_)))))
      · unfold laws_eqItem.f; rw [if_pos rfl, if_pos rfl]
      rw [w64n (by omega)]; exact ih (i + 1) (by omega)
  unfold de.f
  exact bp rfl (loop l.length 0 (by omega))
theorem eqMutation_refl (k0 k1 k2 k3 : Int) (nm : ByteArray) (l : List S84) (hl : l.length <= 1048576) : Ev (fun k => laws_eqMutation.f k k0 k1 k2 k3 nm l k0 k1 k2 k3 nm l) true := by
  unfold laws_eqMutation.f
  exact bp rfl (bp rfl (bp rfl (bp rfl (bp rfl (Ev.bind (eqItemS_refl l hl) (bp rfl (bq rfl)))))))
theorem szItemS_ev (l : List S71) (hl : l.length <= maxLen) (hs : ∀ x ∈ l, InI x) (left : Int) (h0 : 0 <= left) (h1 : left <= 1048576) : ∃ r, Ev (fun k => ek.f k l left) r /\ r <= 1048576 /\ (0 <= r -> l.length <= 1048576 /\ ∀ x ∈ l, x.f0.size <= 1048576 /\ x.f1.size <= 1048576) := by
  have hm : maxLen = 9223372036854775807 := by decide
  have one : ∀ (x : S71) (f : Int), InI x -> 0 <= f -> f <= 1048576 -> laws_szItem.f x.f0 x.f1 f = some (if f - (x.f0.size : Int) < 0 then -1 else if f - (x.f0.size : Int) - (x.f1.size : Int) < 0 then -1 else f - (x.f0.size : Int) - (x.f1.size : Int)) := by
    intro x f ⟨hx0, hx1⟩ h0 h1
    unfold laws_szItem.f
    rw [w64 (x := f - (x.f0.size : Int)) (by omega) (by omega)]
    by_cases hc : f - (x.f0.size : Int) < 0
    · rw [if_pos hc, if_pos hc]
    rw [if_neg hc, if_neg hc, w64 (by omega) (by omega)]
    split <;> rfl
  have loop : ∀ (m i : Nat) (f : Int), i + m = l.length -> 0 <= f -> f <= 1048576 -> ∃ r, Ev (fun k => ek.l0 k l f i) r /\ r <= 1048576 /\ (0 <= r -> ∀ x ∈ l.drop i, x.f0.size <= 1048576 /\ x.f1.size <= 1048576) := by
    intro m
    induction m with
    | zero =>
      intro i f hi h0 h1
      exact ⟨f, Ev.step (fun _ => ek.l0.eq_2 ..) (bv (by omega) (bq rfl)), h1, fun _ x hx => by rw [List.drop_of_length_le (by omega)] at hx; cases hx⟩
    | succ m ih =>
      intro i f hi h0 h1
      have hlt : i < l.length := by omega
      have ho := one l[i] f (hs _ (List.getElem_mem hlt)) h0 h1
      have bad : laws_szItem.f (l[i]).f0 (l[i]).f1 f = some (-1) -> ∃ r, Ev (fun k => ek.l0 k l f i) r /\ r <= 1048576 /\ (0 <= r -> ∀ x ∈ l.drop i, x.f0.size <= 1048576 /\ x.f1.size <= 1048576) := fun hb => by
        refine ⟨-1, Ev.step (fun _ => ek.l0.eq_2 ..) (bp (by omega) (bp (by omega) ?_)), by omega, fun h => by omega⟩
        rw [rdLI l i hlt]
        exact cj hb (bp (by omega) (bq rfl))
      by_cases hn : f - ((l[i]).f0.size : Int) < 0
      · rw [if_pos hn] at ho; exact bad ho
      rw [if_neg hn] at ho
      by_cases hn2 : f - ((l[i]).f0.size : Int) - ((l[i]).f1.size : Int) < 0
      · rw [if_pos hn2] at ho; exact bad ho
      rw [if_neg hn2] at ho
      obtain ⟨r, r1, r2, r3⟩ := ih (i + 1) (f - ((l[i]).f0.size : Int) - ((l[i]).f1.size : Int)) (by omega) (by omega) (by omega)
      refine ⟨r, Ev.step (fun _ => ek.l0.eq_2 ..) (bp (by omega) (bp (by omega) ?_)), r2, fun h x hx => ?_⟩
      · rw [rdLI l i hlt, w64n (by omega)]
        exact cj ho (bv hn2 r1)
      rw [List.drop_eq_getElem_cons hlt] at hx
      rcases List.mem_cons.mp hx with rfl | hx
      · exact ⟨by omega, by omega⟩
      exact r3 h x hx
  unfold ek.f
  rw [w64 (by omega) (by omega)]
  by_cases hn : left - (l.length : Int) < 0
  · exact ⟨-1, bp hn (bq rfl), by omega, fun h => by omega⟩
  obtain ⟨r, r1, r2, r3⟩ := loop l.length 0 (left - (l.length : Int)) (by omega) (by omega) (by omega)
  exact ⟨r, bv hn r1, r2, fun h => ⟨by omega, by have := r3 h; rwa [List.drop_zero] at this⟩⟩
theorem szMutation_ev (k0 k1 k2 k3 : Int) (nm : ByteArray) (l : List S71) (hn : nm.size <= maxLen) (hl : l.length <= maxLen) (hs : ∀ x ∈ l, InI x) (left : Int) (h0 : 0 <= left) (h1 : left <= 1048576) : ∃ r, Ev (fun k => laws_szMutation.f k k0 k1 k2 k3 nm l left) r /\ (0 <= r -> nm.size <= 1048576 /\ l.length <= 1048576 /\ ∀ x ∈ l, x.f0.size <= 1048576 /\ x.f1.size <= 1048576) := by
  have hm : maxLen = 9223372036854775807 := by decide
  unfold laws_szMutation.f
  rw [w64 (x := left - (nm.size : Int)) (by omega) (by omega)]
  by_cases hc : left - (nm.size : Int) < 0
  · exact ⟨-1, bp hc (bq rfl), fun h => by omega⟩
  obtain ⟨r, r1, r2, r3⟩ := szItemS_ev l hl hs (left - (nm.size : Int)) (by omega) (by omega)
  by_cases hr : r < 0
  · exact ⟨-1, bv hc (Ev.bind r1 (bp hr (bq rfl))), fun h => by omega⟩
  exact ⟨r, bv hc (Ev.bind r1 (bv hr (bq rfl))), fun h => ⟨by omega, r3 h⟩⟩
theorem eqBoxS_refl2 (l : List S82) (hl : l.length <= 2097152) (hb : ∀ b ∈ l, b.f3.length <= 2097152 /\ b.f4.length <= 2097152) : Ev (fun k => dp.f k l l) true := by
  have loop : ∀ (m i : Nat), i + m = l.length -> Ev (fun k => dp.l0 k l l i) true := by
    intro m
    induction m with
    | zero => intro i hi; exact Ev.step (fun _ => dp.l0.eq_2 ..) (bv (by omega) (bq rfl))
    | succ m ih =>
      intro i hi
      have hlt : i < l.length := by omega
      have hz := hb l[i] (List.getElem_mem hlt)
      refine Ev.step (fun _ => dp.l0.eq_2 ..) (bp (by omega) (bp (by omega) (bp (by omega) ?_)))
      rw [rdBox l i hlt]
      refine Ev.bind (eqBox_refl _ _ _ _ _ (by omega) (by omega)) (bp rfl ?_)
      rw [w64n (by omega)]
      exact ih (i + 1) (by omega)
  unfold dp.f
  exact bp rfl (loop l.length 0 (by omega))
theorem eqEngine_refl2 (room : Int) (t : ByteArray) (sure : Int) (l : List S82) (hl : l.length <= 2097152) (hb : ∀ b ∈ l, b.f3.length <= 2097152 /\ b.f4.length <= 2097152) : Ev (fun k => ga.f k room t sure l room t sure l) true := by
  unfold ga.f
  exact cj (a := true) (by unfold laws_eqLog.f; rw [if_pos rfl, if_pos rfl, if_pos rfl]) (bp rfl (Ev.bind (eqBoxS_refl2 _ hl hb) (bp rfl (bq rfl))))
theorem markEngine_ev (l : List S82) (hl : l.length <= 1048577) (hb : ∀ b ∈ l, b.f3.length <= 2097152 /\ b.f4.length <= 2097152) : ∃ r m, Ev (fun k => laws_markEngine.f k l 1) (m, r) /\ 1 <= m /\ m <= 1 + 8388614 * l.length /\ HeldL r 1 m /\ r.length = l.length := by
  obtain ⟨r, m, h1, h2, h3, h4, h5⟩ := markBoxS_ev l 1 (by omega) hl hb (by omega)
  exact ⟨r, m, bp hl h1, h2, h3, h4, h5⟩
theorem law_in (room : Int) (t : ByteArray) (sure : Int) (l : List S68) (ht : t.size <= maxLen) (hl : l.length <= maxLen) (hs : ∀ b ∈ l, InB b) (k0 k1 k2 k3 : Int) (nm : ByteArray) (its : List S71) (hn : nm.size <= maxLen) (hi : its.length <= maxLen) (hI : ∀ x ∈ its, InI x) :
    ∃ k, LawIn k room t sure l k0 k1 k2 k3 nm its := by
  obtain ⟨z1, ⟨K1, e1⟩, hz, f1⟩ := szEngine_ev room t sure l ht hl hs
  by_cases h1 : 0 <= z1
  case neg => exact ⟨K1, z1, e1 K1 (Nat.le_refl _), fun h => absurd h h1⟩
  obtain ⟨g1, g2⟩ := f1 h1
  obtain ⟨z2, ⟨K2, e2⟩, f2⟩ := szMutation_ev k0 k1 k2 k3 nm its hn hi hI z1 h1 hz
  by_cases h2 : 0 <= z2
  case neg => exact ⟨K1 + K2, z1, e1 _ (by omega), fun _ => ⟨z2, e2 _ (by omega), fun h => absurd h h2⟩⟩
  obtain ⟨g3, g4, g5⟩ := f2 h2
  have hfew := toB_few g2
  have hB : ∀ b ∈ l.map toB, b.f3.length <= 1048576 /\ b.f4.length <= 1048576 := fun b h => (hfew b h).2
  have hBn : ∀ b ∈ l.map toB, b.f0.size <= 1099511627776 := fun b h => by have := (hfew b h).1; omega
  have hB2 : ∀ b ∈ l.map toB, b.f3.length <= 2097152 /\ b.f4.length <= 2097152 := fun b h => by have := hB b h; omega
  have hLx : (l.map toB).length <= 1048576 := by rw [List.length_map]; exact g1
  have hLi : (its.map toI).length <= 1048576 := by rw [List.length_map]; exact g4
  obtain ⟨K3, e3⟩ := toEngine_ev room t sure l g1 g2
  obtain ⟨K4, e4⟩ := toMutation_ev k0 k1 k2 k3 nm its g4
  obtain ⟨r0, r1, r2, r3, r4, ⟨K5, e5⟩, ⟨K6, e6⟩, q1, q2⟩ := commit_both room t sure (l.map toB) hLx hBn hB k0 k1 k2 k3 nm (its.map toI) (by omega) hLi
  obtain ⟨K7, e7⟩ := eqEngine_refl2 r0 r1 r2 r3 (by omega) q2
  obtain ⟨K8, e8⟩ := eqEngine_refl2 room t sure (l.map toB) (by omega) hB2
  obtain ⟨K9, e9⟩ := eqMutation_refl k0 k1 k2 k3 nm (its.map toI) hLi
  obtain ⟨x', m1, ⟨K10, e10⟩, p1, p2, -, -⟩ := markEngine_ev (l.map toB) (by omega) hB2
  obtain ⟨y', K11, e11⟩ := markMutation_ev k0 k1 k2 k3 nm (its.map toI) m1 (by omega) (by omega)
  obtain ⟨r', m2, ⟨K12, e12⟩, p3, p4, p5, p6⟩ := markEngine_ev r3 q1 q2
  obtain ⟨K13, e13⟩ := heldEngine_ev r0 r1 r2 r' (by omega) 1 m2 p5 (by omega)
  have K := K1 + K2 + K3 + K4 + K5 + K6 + K7 + K8 + K9 + K10 + K11 + K12 + K13
  refine ⟨K1 + K2 + K3 + K4 + K5 + K6 + K7 + K8 + K9 + K10 + K11 + K12 + K13, z1, e1 _ (by omega), fun _ => ⟨z2, e2 _ (by omega), fun _ => ⟨room, t, sure, l.map toB, k0, k1, k2, k3, nm, its.map toI, r0, r1, r2, r3, r4, m1, m1 + 2 * ((its.map toI).length : Int), m2, x', y', r', ?_⟩⟩⟩
  exact ⟨e3 _ (by omega), e4 _ (by omega), e5 _ (by omega), e6 _ (by omega), e7 _ (by omega), e8 _ (by omega), e9 _ (by omega), e10 _ (by omega), e11 _ (by omega), by omega, e12 _ (by omega), e13 _ (by omega), by omega⟩
end Go.Proofs.YtifkmkiljpeaaadGreat.PFnExactCommit
